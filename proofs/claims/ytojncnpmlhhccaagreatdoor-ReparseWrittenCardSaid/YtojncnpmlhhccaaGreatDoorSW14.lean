/- serhtml.Write, walked. -/
import Derived.Test.YtojncnpmlhhccaaGreatDoorSWC
import Derived.Test.YtojncnpmlhhccaaGreatDoorAbX
set_option linter.all false
namespace Go.Ab
open Go Go.Lib Go.Proofs
theorem partsA_step {P:Program} {G:Nat→Option (List AV)} {B:APost} {K:List AV→AHeap→Prop} {s:SC} {l:List SC} {a:List AV} {H:AHeap} (h:awpS P G s (thenA (partsA P G B K l) B) a H):partsA P G B K (s::l) a H:=h
theorem zeros_range (z:AV) (n:Nat):zerosA [z] n=(List.range n).map fun _=>z:=by
 have h:zerosA [z] n=List.replicate n z:=by
  induction n with
  | zero=>rfl
  | succ n ih=>simp[zerosA,ih,List.replicate_succ]
 rw[h]
 apply List.ext_getElem<;>simp
def switchU:List UInt8:=[97,115,121,110,99,32,97,117,116,111,102,111,99,117,115,32,97,117,116,111,112,108,97,121,32,99,104,101,99,107,101,100,32,99,111,110,116,114,111,108,115,32,100,101,102,101,114,32,100,105,115,97,98,108,101,100,32,104,105,100,100,101,110,32,108,111,111,112,32,109,117,108,116,105,112,108,101,32,109,117,116,101,100,32,110,111,118,97,108,105,100,97,116,101,32,111,112,101,110,32,114,101,97,100,111,110,108,121,32,114,101,113,117,105,114,101,100,32,114,101,118,101,114,115,101,100,32,115,101,108,101,99,116,101,100]
theorem switch_fields:Lib.fields switchU=switchS:=by decide
def badAny (l:List Nd):Bool:=(List.range l.length).any fun i=>decide (1≤i)&&badAt l i
def doctB (om:Bool):List UInt8:=bif om then []else sDoct
def writeB (om:Bool) (l:List Nd):AV:=if badAny l=true then .tup [.str [],.int .i64 420]else .tup [.str (doctB om++(kidsOf l 0).flatMap (wrN l l.length)),.int .i64 0]
def ndF (kl:List Nat) (tp op sp ep wp c:Nat):List AV:=
 [.und,.und,.und,.ptr tp 0,.ptr op 0,.und,.ptr sp 0,.ptr ep 0,.ptr wp 0]++List.replicate 4 .und++[.bool false]++List.replicate 143 .und++[.lst kl.length (intsA kl),.int .i64 kl.length,.int .i64 c]++List.replicate 20 .und
theorem w_closure_nil (G:Nat→Option (List AV)) {H:AHeap} {tp ep:Nat} {K:AHeap→Prop} (hK:K H):DCalls Tryz.prog G 51 [.ptr tp 0,.ptr ep 0] H none K:=by
 refine DCalls.of Tryz.func51 S51_eq N51 rfl rfl ?_
 simp (maxSteps:=400000) only[wF,storeA,reduceCtorEq,Nat.reduceAdd,Nat.reduceSub,Nat.reduceEqDiff,Nat.reduceLeDiff,Int.reduceToNat,Int.reduceLE,Int.reduceLT,Int.reduceAdd,Int.reduceNeg,Nat.reduceMul,S51,N51,R51,T51,pvA,eqNeq,AV.isConst,Bool.or_true,endA]
 exact hK
set_option maxHeartbeats 16000000 in
set_option maxRecDepth 100000 in
theorem write_gen {G:Nat→Option (List AV)} (E:Env G) (X0:EnvH G) (T:EnvT G) (hM:SMapOk G) (hA:AnyOk G) (g:SpaceG G) {l:List Nd} (hv:ValidN l) (hroot:l.getD 0 nd0=nd0) {om:Bool} (hlen:(doctB om).length+((kidsOf l 0).flatMap (wrN l l.length)).length≤1048576) (H:AHeap) :
  ACalls Tryz.prog G 20 [.agg [.lst l.length (ndsH l)],outB om,.nils] H fun r H'=>r = .ret (writeB om l)∧Kept H H':=by
 refine ACalls.wf fun wf=>?_
 refine ACalls.of_deferN (parts:=[partOf 0 S20.1,partOf 1 S20.1,partOf 2 S20.1,partOf 3 S20.1,partOf 4 S20.1,partOf 5 S20.1,partOf 6 S20.1,partOf 7 S20.1,partOf 8 S20.1]) (sE:=restOf 10 S20.1) (t:=143) (g:=51) (caps:=#[.tmp 6,.tmp 7]) Tryz.func20 S20_eq B51 R20 N20 rfl rfl ?_
 have hl1:=hv.len0
 have q0:((0:Int)<(l.length:Int))=True:=eq_true (by omega)
 have g0:=kind_at (l:=l) (k:=0) (by omega)
 have hlen2:(ndsH l).length=l.length*4:=ndsH_len l
 rw[hroot]at g0
 have z0:((0:Int) != 0)=false:=rfl
 have z1:(((nd0.kind:Nat):Int) != 0)=false:=rfl
 refine partsA_step ?_
 generalize hK1:partsA _ _ _ _ (partOf 1 _::_)=K1
 generalize hB:bodyA _ _ _ _=BB
 simp (maxSteps:=400000) only[wF,storeA,reduceCtorEq,Nat.reduceAdd,Nat.reduceSub,Nat.reduceEqDiff,Nat.reduceLeDiff,Int.reduceToNat,Int.reduceLE,Int.reduceLT,Int.reduceAdd,Int.reduceNeg,Nat.reduceMul,partOf,S20,N20,R20,T20,outB,AV.boxable,buildA,fillA]
 generalize hX:AHeap.allocAt _ (H.next+1+1+1) _=X
 have xn:X.next=H.next+4:=by rw[←hX];simp only[AHeap.next_allocAt];omega
 have xt:X.get H.next=some (.cells 25 [.lst l.length (ndsH l)]):=by rw[←hX,AHeap.get_allocAt_ne _ _ (by omega),AHeap.get_allocAt_ne _ _ (by omega),AHeap.get_allocAt_ne _ _ (by omega),AHeap.get_allocAt_same]
 have xp:X.get (H.next+1)=some (.cells 48 [.str [],.str [],.bool false,.bool om,.nils]):=by rw[←hX,AHeap.get_allocAt_ne _ _ (by omega),AHeap.get_allocAt_ne _ _ (by omega),AHeap.get_allocAt_same]
 have xs:X.get (H.next+1+1)=some (.cells 9 [.str []]):=by rw[←hX,AHeap.get_allocAt_ne _ _ (by omega),AHeap.get_allocAt_same]
 have xe:X.get (H.next+1+1+1)=some (.cells 26 [.int .i64 0]):=by rw[←hX,AHeap.get_allocAt_same]
 have xo:∀j,j<H.next→X.get j=H.get j:=fun j hj=>by rw[←hX,AHeap.get_allocAt_ne _ _ (by omega),AHeap.get_allocAt_ne _ _ (by omega),AHeap.get_allocAt_ne _ _ (by omega),AHeap.get_allocAt_ne _ _ (by omega)]
 clear hX
 rw[←hK1]
 clear hK1 K1
 refine partsA_step ?_
 generalize hK2:partsA _ _ _ _ (partOf 2 _::_)=K2
 simp (maxSteps:=400000) only[wF,storeA,reduceCtorEq,Nat.reduceAdd,Nat.reduceSub,Nat.reduceEqDiff,Nat.reduceLeDiff,Int.reduceToNat,Int.reduceLE,Int.reduceLT,Int.reduceAdd,Int.reduceNeg,Nat.reduceMul,partOf,S20,T20,xt]
 refine AInv.pureK B21 (t_Check_ok E X0 T hv) fun X1 h1=>?_
 have y0:=(congrFun h1.2 H.next).trans xt
 simp (maxSteps:=400000) only[wF,storeA,reduceCtorEq,Nat.reduceAdd,Nat.reduceSub,Nat.reduceEqDiff,Nat.reduceLeDiff,Int.reduceToNat,Int.reduceLE,Int.reduceLT,Int.reduceAdd,Int.reduceNeg,Nat.reduceMul,T20,y0,q0,g0,indexAddrA,z0,z1,Nat.mul_one]
 rw[←hK2]
 clear hK2 K2
 refine partsA_step ?_
 generalize hK3:partsA _ _ _ _ (partOf 3 _::_)=K3
 simp (maxSteps:=400000) only[wF,storeA,reduceCtorEq,Nat.reduceAdd,Nat.reduceSub,Nat.reduceEqDiff,Nat.reduceLeDiff,Int.reduceToNat,Int.reduceLE,Int.reduceLT,Int.reduceAdd,Int.reduceNeg,Nat.reduceMul,partOf,S20,T20]
 have y1:=(congrFun h1.2 (H.next+1)).trans xp
 have m1:((l.length:Int)≤(maxApp:Int))=True:=eq_true (by unfold maxApp;have:=hv.len;omega)
 have m2:(0≤(l.length:Int))=True:=eq_true (by omega)
 have hX1:H.next+4≤X1.next:=by have:=h1.1;omega
 refine ATrS.weak (Weak.hold 4) (drawG_ok mixedOrders L20_3_eq P20_3_eq ?_)
 generalize hHd:(AHeap.mk _ _)=Hd
 have hd:∀j,X1.next≤j→j<X1.next+4→Hd.get j=some .held:=fun j h2 h3=>by rw[←hHd];exact if_pos ⟨h2,h3⟩
 have hl:∀j,j<X1.next→Hd.get j=X1.get j:=fun j h2=>by rw[←hHd];exact if_neg (by omega)
 have hn:Hd.next=X1.next+4:=by rw[←hHd]
 clear hHd
 have d0:=(hl H.next (by omega)).trans y0
 have d1:=(hl (H.next+1) (by omega)).trans y1
 simp (maxSteps:=400000) only[wF,storeA,reduceCtorEq,Nat.reduceAdd,Nat.reduceSub,Nat.reduceEqDiff,Nat.reduceLeDiff,Int.reduceToNat,Int.reduceLE,Int.reduceLT,Int.reduceAdd,Int.reduceNeg,Nat.reduceMul,L20_3,T20,d0,w_gop,w_gnext,w_gnil,stepG,makesH,cond_true,cond_false]
 refine⟨X1.next,hd _ (by omega) (by omega),?_⟩
 simp (maxSteps:=400000) only[wF,storeA,reduceCtorEq,Nat.reduceAdd,Nat.reduceSub,Nat.reduceEqDiff,Nat.reduceLeDiff,Int.reduceToNat,Int.reduceLE,Int.reduceLT,Int.reduceAdd,Int.reduceNeg,Nat.reduceMul,T20,makeA,m1,m2,Int.toNat_natCast,Int.le_refl,w_gmake]
 rw[zeros_range]
 generalize hHe:AHeap.mk _ (AHeap.get (AHeap.allocAt _ _ _))=He
 have ed:∀j,X1.next+1≤j→j<X1.next+4→He.get j=some .held:=fun j h2 h3=>by rw[←hHe];exact(AHeap.get_allocAt_ne _ _ (by omega)).trans (hd j (by omega) h3)
 have el:∀j,j<X1.next→He.get j=X1.get j:=fun j h2=>by rw[←hHe];exact(AHeap.get_allocAt_ne _ _ (by omega)).trans (hl j h2)
 have e0:He.get X1.next=some (.row 33 1 ((List.range l.length).map fun _ => .nils)):=by rw[←hHe];exact AHeap.get_allocAt_same _ _ _
 have en:He.next=X1.next+4:=by rw[←hHe];exact hn
 clear hHe hd hl hn d0 d1 Hd
 have d0:=(el H.next (by omega)).trans y0
 simp (maxSteps:=400000) only[wF,storeA,reduceCtorEq,Nat.reduceAdd,Nat.reduceSub,Nat.reduceEqDiff,Nat.reduceLeDiff,Int.reduceToNat,Int.reduceLE,Int.reduceLT,Int.reduceAdd,Int.reduceNeg,Nat.reduceMul,T20,d0,w_gop,w_gnext,stepG,makesH,cond_true,cond_false]
 refine⟨X1.next+1,ed _ (by omega) (by omega),?_⟩
 simp (maxSteps:=400000) only[wF,storeA,reduceCtorEq,Nat.reduceAdd,Nat.reduceSub,Nat.reduceEqDiff,Nat.reduceLeDiff,Int.reduceToNat,Int.reduceLE,Int.reduceLT,Int.reduceAdd,Int.reduceNeg,Nat.reduceMul,T20,makeA,m1,m2,Int.toNat_natCast,Int.le_refl,w_gmake]
 rw[zeros_range]
 generalize hHf:AHeap.mk _ (AHeap.get (AHeap.allocAt _ _ _))=Hf
 have fd:∀j,X1.next+2≤j→j<X1.next+4→Hf.get j=some .held:=fun j h2 h3=>by rw[←hHf];exact(AHeap.get_allocAt_ne _ _ (by omega)).trans (ed j (by omega) h3)
 have fl:∀j,j<X1.next→Hf.get j=X1.get j:=fun j h2=>by rw[←hHf];exact(AHeap.get_allocAt_ne _ _ (by omega)).trans (el j h2)
 have f0:Hf.get X1.next=some (.row 33 1 ((List.range l.length).map fun _ => .nils)):=by rw[←hHf];exact(AHeap.get_allocAt_ne _ _ (by omega)).trans e0
 have f1:Hf.get (X1.next+1)=some (.row 33 1 ((List.range l.length).map fun _ => .nils)):=by rw[←hHf];exact AHeap.get_allocAt_same _ _ _
 have fn:Hf.next=X1.next+4:=by rw[←hHf];exact en
 clear hHf ed el en e0 d0 He
 simp (maxSteps:=400000) only[wF,storeA,reduceCtorEq,Nat.reduceAdd,Nat.reduceSub,Nat.reduceEqDiff,Nat.reduceLeDiff,Int.reduceToNat,Int.reduceLE,Int.reduceLT,Int.reduceAdd,Int.reduceNeg,Nat.reduceMul,T20,w_gop,w_gnext,stepG,makesH,cond_true,cond_false]
 refine⟨X1.next+1+1,fd _ (by omega) (by omega),?_⟩
 simp (maxSteps:=400000) only[wF,storeA,reduceCtorEq,Nat.reduceAdd,Nat.reduceSub,Nat.reduceEqDiff,Nat.reduceLeDiff,Int.reduceToNat,Int.reduceLE,Int.reduceLT,Int.reduceAdd,Int.reduceNeg,Nat.reduceMul,T20,w_gmake]
 generalize hHg:AHeap.mk _ (AHeap.get (AHeap.allocAt _ _ _))=Hg
 have gd:Hg.get (X1.next+1+1+1)=some .held:=by rw[←hHg];exact(AHeap.get_allocAt_ne _ _ (by omega)).trans (fd _ (by omega) (by omega))
 have gl:∀j,j<X1.next→Hg.get j=X1.get j:=fun j h2=>by rw[←hHg];exact(AHeap.get_allocAt_ne _ _ (by omega)).trans (fl j h2)
 have g0':Hg.get X1.next=some (.row 33 1 ((List.range l.length).map fun _ => .nils)):=by rw[←hHg];exact(AHeap.get_allocAt_ne _ _ (by omega)).trans f0
 have g1':Hg.get (X1.next+1)=some (.row 33 1 ((List.range l.length).map fun _ => .nils)):=by rw[←hHg];exact(AHeap.get_allocAt_ne _ _ (by omega)).trans f1
 have g2':Hg.get (X1.next+1+1)=some (.map []):=by rw[←hHg];exact AHeap.get_allocAt_same _ _ _
 have gn:Hg.next=X1.next+4:=by rw[←hHg];exact fn
 clear hHg fd fl fn f0 f1 Hf
 have d1:=(gl (H.next+1) (by omega)).trans y1
 simp (maxSteps:=400000) only[wF,storeA,reduceCtorEq,Nat.reduceAdd,Nat.reduceSub,Nat.reduceEqDiff,Nat.reduceLeDiff,Int.reduceToNat,Int.reduceLE,Int.reduceLT,Int.reduceAdd,Int.reduceNeg,Nat.reduceMul,T20,d1,w_gop,w_gnext,stepG,makesH,cond_true,cond_false,buildA,fillA,AV.boxable]
 refine⟨X1.next+1+1+1,gd,?_⟩
 simp (maxSteps:=400000) only[wF,storeA,reduceCtorEq,Nat.reduceAdd,Nat.reduceSub,Nat.reduceEqDiff,Nat.reduceLeDiff,Int.reduceToNat,Int.reduceLE,Int.reduceLT,Int.reduceAdd,Int.reduceNeg,Nat.reduceMul,T20,w_gmake,w_gop,w_gnext,w_gnil,stepG,makesH,cond_true,cond_false,AV.boxable]
 refine⟨by simp<;>omega,?_⟩
 intro mY hmY
 generalize hY:AHeap.mk mY _=Y
 have yn:X1.next+4≤Y.next:=by rw[←hY];simp only at hmY ⊢;omega
 have yw:Y.get (X1.next+1+1+1)=some (.cells 97 [.lst l.length (ndsH l),.slc X1.next l.length,.slc (X1.next+1) l.length,.map (X1.next+1+1),.nils,.bool false,.nilm,.nilm,.nilm,.nilm,.nilp,.nils]):=by rw[←hY];exact AHeap.get_allocAt_same _ _ _
 have ys:Y.get (X1.next+1+1)=some (.map []):=by rw[←hY];exact(AHeap.get_allocAt_ne _ _ (by omega)).trans g2'
 have ya:Y.get (X1.next+1)=some (.row 33 1 ((List.range l.length).map fun _ => .nils)):=by rw[←hY];exact(AHeap.get_allocAt_ne _ _ (by omega)).trans g1'
 have yc:Y.get X1.next=some (.row 33 1 ((List.range l.length).map fun _ => .nils)):=by rw[←hY];exact(AHeap.get_allocAt_ne _ _ (by omega)).trans g0'
 have yo:∀j,j<X1.next→Y.get j=X1.get j:=fun j hj=>by rw[←hY];exact(AHeap.get_allocAt_ne _ _ (by omega)).trans (gl j hj)
 clear hY hmY gd gl gn g0' g1' g2' d1 m1 m2
 have xt1:=(congrFun h1.2 H.next).trans xt
 have xp1:=(congrFun h1.2 (H.next+1)).trans xp
 have xs1:=(congrFun h1.2 (H.next+1+1)).trans xs
 have xe1:=(congrFun h1.2 (H.next+1+1+1)).trans xe
 have xo1:∀j,j<H.next→X1.get j=H.get j:=fun j hj=>(congrFun h1.2 j).trans (xo j hj)
 clear h1 xt xp xs xe xo xn y0 y1
 generalize hk0:X1.next=k0 at *
 have xt:=(yo _ (by omega)).trans xt1
 have xp:=(yo _ (by omega)).trans xp1
 have xs:=(yo _ (by omega)).trans xs1
 have xe:=(yo _ (by omega)).trans xe1
 have xo:∀j,j<H.next→Y.get j=H.get j:=fun j hj=>(yo j (by omega)).trans (xo1 j hj)
 clear yo xt1 xp1 xs1 xe1 xo1 hk0
 rw[←hK3]
 clear hK3 K3
 refine partsA_step ?_
 generalize hK4:partsA _ _ _ _ (partOf 4 _::_)=K4
 simp (maxSteps:=400000) only[wF,storeA,reduceCtorEq,Nat.reduceAdd,Nat.reduceSub,Nat.reduceEqDiff,Nat.reduceLeDiff,Int.reduceToNat,Int.reduceLE,Int.reduceLT,Int.reduceAdd,Int.reduceNeg,Nat.reduceMul,partOf,S20,T20]
 refine AInv.retK B47 (words_ok g (s:=voidT) (ws:=voidsS) (by decide) (by decide) void_fields (by decide) (by decide) _) (fun v Y1 hq=>?_) (fun v J hq=>by obtain⟨m,h,_⟩:=hq;cases h)
 obtain⟨m1,hv1,a1,b1,c1,f1⟩:=hq
 cases hv1
 have w1:=(f1 _ (by omega)).trans yw
 simp (maxSteps:=400000) only[wF,storeA,reduceCtorEq,Nat.reduceAdd,Nat.reduceSub,Nat.reduceEqDiff,Nat.reduceLeDiff,Int.reduceToNat,Int.reduceLE,Int.reduceLT,Int.reduceAdd,Int.reduceNeg,Nat.reduceMul,T20,w1]
 generalize hZ1:AHeap.set Y1 (k0+1+1+1) _=Z1
 have z1n:Z1.next=Y1.next:=by rw[←hZ1];rfl
 have z1w:Z1.get (k0+1+1+1)=some (.cells 97 [.lst l.length (ndsH l),.slc k0 l.length,.slc (k0+1) l.length,.map (k0+1+1),.nils,.bool false,.map m1,.nilm,.nilm,.nilm,.nilp,.nils]):=by rw[←hZ1,AHeap.get_set_same]
 have z1o:∀j,j≠k0+1+1+1→Z1.get j=Y1.get j:=fun j hj=>by rw[←hZ1,AHeap.get_set_ne _ _ hj]
 clear hZ1
 rw[←hK4]
 clear hK4 K4
 refine partsA_step ?_
 generalize hK5:partsA _ _ _ _ (partOf 5 _::_)=K5
 simp (maxSteps:=400000) only[wF,storeA,reduceCtorEq,Nat.reduceAdd,Nat.reduceSub,Nat.reduceEqDiff,Nat.reduceLeDiff,Int.reduceToNat,Int.reduceLE,Int.reduceLT,Int.reduceAdd,Int.reduceNeg,Nat.reduceMul,partOf,S20,T20]
 refine AInv.retK B47 (words_ok g (s:=rawT) (ws:=rawsS) (by decide) (by decide) raw_fields (by decide) (by decide) _) (fun v Y2 hq=>?_) (fun v J hq=>by obtain⟨m,h,_⟩:=hq;cases h)
 obtain⟨m2,hv1,a2,b2,c2,f2⟩:=hq
 cases hv1
 simp (maxSteps:=400000) only[wF,storeA,reduceCtorEq,Nat.reduceAdd,Nat.reduceSub,Nat.reduceEqDiff,Nat.reduceLeDiff,Int.reduceToNat,Int.reduceLE,Int.reduceLT,Int.reduceAdd,Int.reduceNeg,Nat.reduceMul,T20]
 refine AInv.retK B47 (words_ok g (s:=keptT) (ws:=keptS) (by decide) (by decide) kept_fields (by decide) (by decide) _) (fun v Y3 hq=>?_) (fun v J hq=>by obtain⟨m,h,_⟩:=hq;cases h)
 obtain⟨m3,hv1,a3,b3,c3,f3⟩:=hq
 cases hv1
 have w2:=(f3 _ (by omega)).trans ((f2 _ (by omega)).trans z1w)
 simp (maxSteps:=400000) only[wF,storeA,reduceCtorEq,Nat.reduceAdd,Nat.reduceSub,Nat.reduceEqDiff,Nat.reduceLeDiff,Int.reduceToNat,Int.reduceLE,Int.reduceLT,Int.reduceAdd,Int.reduceNeg,Nat.reduceMul,T20,w2]
 generalize hZ2:AHeap.set (AHeap.set Y3 (k0+1+1+1) _) (k0+1+1+1) _=Z2
 have z2n:Z2.next=Y3.next:=by rw[←hZ2];rfl
 have z2w:Z2.get (k0+1+1+1)=some (.cells 97 [.lst l.length (ndsH l),.slc k0 l.length,.slc (k0+1) l.length,.map (k0+1+1),.nils,.bool false,.map m1,.map m2,.map m3,.nilm,.nilp,.nils]):=by rw[←hZ2,AHeap.get_set_same]
 have z2o:∀j,j≠k0+1+1+1→Z2.get j=Y3.get j:=fun j hj=>by rw[←hZ2,AHeap.get_set_ne _ _ hj,AHeap.get_set_ne _ _ hj]
 clear hZ2
 rw[←hK5]
 clear hK5 K5
 refine partsA_step ?_
 generalize hK6:partsA _ _ _ _ (partOf 6 _::_)=K6
 simp (maxSteps:=400000) only[wF,storeA,reduceCtorEq,Nat.reduceAdd,Nat.reduceSub,Nat.reduceEqDiff,Nat.reduceLeDiff,Int.reduceToNat,Int.reduceLE,Int.reduceLT,Int.reduceAdd,Int.reduceNeg,Nat.reduceMul,partOf,S20,T20]
 refine AInv.retK B47 (words_ok g (s:=switchU) (ws:=switchS) (by decide) (by decide) switch_fields (by decide) (by decide) _) (fun v Y4 hq=>?_) (fun v J hq=>by obtain⟨m,h,_⟩:=hq;cases h)
 obtain⟨m4,hv1,a4,b4,c4,f4⟩:=hq
 cases hv1
 have w3:=(f4 _ (by omega)).trans z2w
 simp (maxSteps:=400000) only[wF,storeA,reduceCtorEq,Nat.reduceAdd,Nat.reduceSub,Nat.reduceEqDiff,Nat.reduceLeDiff,Int.reduceToNat,Int.reduceLE,Int.reduceLT,Int.reduceAdd,Int.reduceNeg,Nat.reduceMul,T20,w3]
 generalize hZ3:AHeap.set Y4 (k0+1+1+1) _=Z3
 have z3n:Z3.next=Y4.next:=by rw[←hZ3];rfl
 have z3w:Z3.get (k0+1+1+1)=some (.cells 97 [.lst l.length (ndsH l),.slc k0 l.length,.slc (k0+1) l.length,.map (k0+1+1),.nils,.bool false,.map m1,.map m2,.map m3,.map m4,.nilp,.nils]):=by rw[←hZ3,AHeap.get_set_same]
 have z3o:∀j,j≠k0+1+1+1→Z3.get j=Y4.get j:=fun j hj=>by rw[←hZ3,AHeap.get_set_ne _ _ hj]
 clear hZ3
 have zo:∀j,j<k0+3→Z3.get j=Y.get j:=fun j hj=>by
  rw[z3o j (by omega),f4 j (by omega),z2o j (by omega),f3 j (by omega),f2 j (by omega),z1o j (by omega),f1 j (by omega)]
 have hM3:MAt Z3 ⟨k0+1+1,m1,m2,m3,m4⟩:=⟨(zo (k0+1+1) (by omega)).trans ys,
  by rw[z3o m1 (by omega),f4 m1 (by omega),z2o m1 (by omega),f3 m1 (by omega),f2 m1 (by omega),z1o m1 (by omega)];exact c1,
  by rw[z3o m2 (by omega),f4 m2 (by omega),z2o m2 (by omega),f3 m2 (by omega)];exact c2,
  by rw[z3o m3 (by omega),f4 m3 (by omega),z2o m3 (by omega)];exact c3,
  by rw[z3o m4 (by omega)];exact c4⟩
 have m1b:k0+4≤m1∧m1<Z3.next:=by omega
 have m2b:k0+4≤m2∧m2<Z3.next:=by omega
 have m3b:k0+4≤m3∧m3<Z3.next:=by omega
 have m4b:k0+4≤m4∧m4<Z3.next:=by omega
 have xt3:=(zo _ (by omega)).trans xt
 have xp3:=(zo _ (by omega)).trans xp
 have xs3:=(zo _ (by omega)).trans xs
 have xe3:=(zo _ (by omega)).trans xe
 have yc3:=(zo k0 (by omega)).trans yc
 have ya3:=(zo _ (by omega)).trans ya
 have xo3:∀j,j<H.next→Z3.get j=H.get j:=fun j hj=>(zo j (by omega)).trans (xo j hj)
 have zn3:k0+4≤Z3.next:=by omega
 clear zo z3o z2o z1o f1 f2 f3 f4 c1 c2 c3 c4 w1 w2 w3 z1w z2w a1 a2 a3 a4 b1 b2 b3 b4 z1n z2n z3n xt xp xs xe yc ya xo yn yw ys
 rw[←hK6]
 clear hK6 K6
 refine partsA_step ?_
 generalize hK7:partsA _ _ _ _ (partOf 7 _::_)=K7
 simp (maxSteps:=400000) only[wF,storeA,reduceCtorEq,Nat.reduceAdd,Nat.reduceSub,Nat.reduceEqDiff,Nat.reduceLeDiff,Int.reduceToNat,Int.reduceLE,Int.reduceLT,Int.reduceAdd,Int.reduceNeg,Nat.reduceMul,partOf,S20,T20,xp3]
 refine AInv.pureK B48 (fun H=>swap_ok (H:=H)) fun Z h4=>?_
 have z5:((0:Int) != 0)=false:=rfl
 simp (maxSteps:=400000) only[wF,storeA,reduceCtorEq,Nat.reduceAdd,Nat.reduceSub,Nat.reduceEqDiff,Nat.reduceLeDiff,Int.reduceToNat,Int.reduceLE,Int.reduceLT,Int.reduceAdd,Int.reduceNeg,Nat.reduceMul,T20,z5]
 have xt4:=(congrFun h4.2 H.next).trans xt3
 have xp4:=(congrFun h4.2 (H.next+1)).trans xp3
 have xs4:=(congrFun h4.2 (H.next+1+1)).trans xs3
 have xe4:=(congrFun h4.2 (H.next+1+1+1)).trans xe3
 have xw4:=(congrFun h4.2 (k0+1+1+1)).trans z3w
 have yc4:=(congrFun h4.2 k0).trans yc3
 have ya4:=(congrFun h4.2 (k0+1)).trans ya3
 have xo4:∀j,j<H.next→Z.get j=H.get j:=fun j hj=>(congrFun h4.2 j).trans (xo3 j hj)
 have hM4:MAt Z ⟨k0+1+1,m1,m2,m3,m4⟩:=⟨(congrFun h4.2 _).trans hM3.sw,(congrFun h4.2 _).trans hM3.vo,(congrFun h4.2 _).trans hM3.ra,(congrFun h4.2 _).trans hM3.ke,(congrFun h4.2 _).trans hM3.si⟩
 have hzn:=h4.1
 clear h4 xt3 xp3 xs3 xe3 z3w yc3 ya3 xo3 hM3 z5
 rw[←hK7]
 clear hK7 K7
 refine partsA_step ?_
 generalize hK8:partsA _ _ _ _ (partOf 8 _::_)=K8
 have sl1:(1:Int)≤(l.length:Int):=by omega
 have sl2:(ndsH l).take (l.length*4)=ndsH l:=List.take_of_length_le (by omega)
 have sl3:(ndsH l).drop (1*4)=ndsH (l.drop 1):=(ndsH_drop l 1).symm
 simp (maxSteps:=400000) only[wF,storeA,reduceCtorEq,Nat.reduceAdd,Nat.reduceSub,Nat.reduceEqDiff,Nat.reduceLeDiff,Int.reduceToNat,Int.reduceLE,Int.reduceLT,Int.reduceAdd,Int.reduceNeg,Nat.reduceMul,partOf,S20,T20,xt4,sliceA,boundA,eq_true sl1,Int.toNat_natCast,Nat.le_refl,sl2,sl3]
 obtain⟨J0,hw0,hL0⟩:=LpAt.init G hl1 (show k0+1<Z.next by omega) yc4 ya4
 refine ATrS.weak (hw0 _) (ATrS.loopK (κ:=Nat × (Nat→Nat) × (Nat→Nat) × AHeap) (fun x=>lpF l H.next (H.next+1) (H.next+1+1) (H.next+1+1+1) (k0+1+1+1) x.1 .und) (fun x=>x.2.2.2) (fun x=>LpAt Z k0 l x.1 x.2.1 x.2.2.1 x.2.2.2) (fun x=>l.length-x.1) ⟨(0,_,_,J0),hL0,by simp[Fg,lpF],HW.refl _⟩ ?_)
 clear hw0 hL0
 rintro⟨c,qk,qa,J⟩ hL
 simp only at hL
 refine table_round hv (wp:=k0+1+1+1) (by omega) (by omega) (by omega) xw4 hL (fun hc=>?_)
 have jt:=(hL.fr H.next (by omega) (by omega) (by omega)).trans xt4
 simp (maxSteps:=400000) only[wF,storeA,reduceCtorEq,Nat.reduceAdd,Nat.reduceSub,Nat.reduceEqDiff,Nat.reduceLeDiff,Int.reduceToNat,Int.reduceLE,Int.reduceLT,Int.reduceAdd,Int.reduceNeg,Nat.reduceMul,lpF]
 rw[←hK8]
 clear hK8 K8
 refine partsA_step ?_
 generalize hK9:partsA _ _ _ _ []=K9
 simp (maxSteps:=400000) only[wF,storeA,reduceCtorEq,Nat.reduceAdd,Nat.reduceSub,Nat.reduceEqDiff,Nat.reduceLeDiff,Int.reduceToNat,Int.reduceLE,Int.reduceLT,Int.reduceAdd,Int.reduceNeg,Nat.reduceMul,partOf,S20,T20,jt]
 obtain⟨J1,hd1,n1,g1,f1⟩:=hL.done G hc (wp:=k0+1+1+1) (by omega) (by omega) (by omega) xw4
 have hnx:=hL.nx
 obtain⟨J2,hd2,g2,r2,n2,f2⟩:=Weak.h_nilField G (cs':=[.lst l.length (ndsH l),.lst l.length (tabA (kidsOf l) l.length),.lst l.length (tabA (attsOf l) l.length),.map (k0+1+1),.nils,.bool false,.map m1,.map m2,.map m3,.map m4,.nilp,.slc J1.next 0]) g1 (by omega) 5 1 ⟨.same _,.same _,.same _,.same _,.same _,.same _,.same _,.same _,.same _,.same _,.same _,.nil _ rfl,trivial⟩
 have low:∀j,j<Z.next→j≠k0→j≠k0+1→j≠k0+1+1+1→J2.get j=Z.get j:=fun j j1 j2 j3 j4=>by
  rw[f2 j j4 (by omega)];exact f1 j j1 j2 j3 j4
 have hw2:J2.get (k0+1+1+1)=some ((mkW l ⟨k0+1+1,m1,m2,m3,m4⟩).obj .nilp (.slc J1.next 0)):=g2
 have hM2:MAt J2 ⟨k0+1+1,m1,m2,m3,m4⟩:=⟨(low (k0+1+1) (by omega) (by omega) (by omega) (by omega)).trans hM4.sw,(low m1 (by omega) (by omega) (by omega) (by omega)).trans hM4.vo,(low m2 (by omega) (by omega) (by omega) (by omega)).trans hM4.ra,(low m3 (by omega) (by omega) (by omega) (by omega)).trans hM4.ke,(low m4 (by omega) (by omega) (by omega) (by omega)).trans hM4.si⟩
 have ht2:=(low H.next (by omega) (by omega) (by omega) (by omega)).trans xt4
 have ho2:=(low (H.next+1) (by omega) (by omega) (by omega) (by omega)).trans xp4
 have hs2:=(low (H.next+1+1) (by omega) (by omega) (by omega) (by omega)).trans xs4
 have he2:=(low (H.next+1+1+1) (by omega) (by omega) (by omega) (by omega)).trans xe4
 have hf2:∀j,j<H.next→J2.get j=H.get j:=fun j hj=>(low j (by omega) (by omega) (by omega) (by omega)).trans (xo4 j hj)
 have hmb:k0+1+1<J2.next∧m1<J2.next∧m2<J2.next∧m3<J2.next∧m4<J2.next:=by omega
 have hj1:J1.next<J2.next:=by omega
 refine ATrS.weak ((hd1 _).trans (hd2 _)) (ATrS.loopK (κ:=Nat × AHeap) (fun x=>bdF l H.next (H.next+1) (H.next+1+1) (H.next+1+1+1) (k0+1+1+1) x.1 .und) (fun x=>x.2) (fun x=>x.1≤l.length∧(∀i,1≤i→i<x.1→badAt l i=false)∧Kept J2 x.2) (fun x=>l.length-x.1) ⟨(0,J2),⟨Nat.zero_le _,fun i i1 i2=>absurd i2 (Nat.not_lt_zero _),Kept.refl _⟩,by simp[Fg,bdF],HW.refl _⟩ ?_)
 have hbig:H.next+4≤k0∧k0+4≤J2.next∧k0+4≤J1.next:=by omega
 clear hd1 hd2 f1 f2 low g1 g2 hM4 xt4 xp4 xs4 xe4 xw4 yc4 ya4 xo4 jt hL hnx n1 n2
 rintro⟨c2,J3⟩ ⟨hc2,hcb,kJ3⟩
 simp only at hc2 hcb kJ3
 refine bad_round E X0 hM hA hv kJ3 (wp:=k0+1+1+1) (tp:=H.next) (sp:=H.next+1+1) (ep:=H.next+1+1+1) (by omega) (by omega) hmb hw2 hM2 ht2 hs2 he2 hc2 hcb (fun hce=>?_) (fun a' J' hbad a6 a7 jn js je jf=>?_)
 case refine_2=>
  have hw:writeB om l = .tup [.str [],.int .i64 420]:=by
   obtain⟨i,i1,i2,i3⟩:=hbad
   have:badAny l=true:=by
    unfold badAny
    rw[List.any_eq_true]
    exact⟨i,List.mem_range.2 i2,by rw[decide_eq_true i1,i3];rfl⟩
   unfold writeB
   rw[if_pos this]
  simp (maxSteps:=400000) only[wF,storeA,reduceCtorEq,Nat.reduceAdd,Nat.reduceSub,Nat.reduceEqDiff,Nat.reduceLeDiff,Int.reduceToNat,Int.reduceLE,Int.reduceLT,Int.reduceAdd,Int.reduceNeg,Nat.reduceMul,T20,R20,a6,a7,js,je]
  exact⟨by rw[hw],by omega,fun j hj=>(jf j (by omega) (by omega) (by omega)).trans (hf2 j hj)⟩
 case refine_1=>
  have hnb:badAny l=false:=by
   unfold badAny
   rw[List.any_eq_false]
   intro i hi
   have hi:=List.mem_range.1 hi
   by_cases h1:1≤i
   ·rw[hcb i h1 (by omega)];simp
   ·rw[decide_eq_false h1];simp
  have hw:writeB om l = .tup [.str (doctB om++(kidsOf l 0).flatMap (wrN l l.length)),.int .i64 0]:=by
   unfold writeB
   rw[if_neg (by rw[hnb];simp)]
  simp (maxSteps:=400000) only[wF,storeA,reduceCtorEq,Nat.reduceAdd,Nat.reduceSub,Nat.reduceEqDiff,Nat.reduceLeDiff,Int.reduceToNat,Int.reduceLE,Int.reduceLT,Int.reduceAdd,Int.reduceNeg,Nat.reduceMul,bdF]
  rw[←hK9]
  clear hK9 K9
  show _∧_
  have j3o:=(kJ3.2 _ (by omega)).trans ho2
  have j3w:=(kJ3.2 _ (by omega)).trans hw2
  have j3r:=(kJ3.2 _ hj1).trans r2
  have j3m:=hM2.kept hmb kJ3
  have hn3:=kJ3.1
  have hwat3:WAt J3 (k0+1+1+1) J1.next (mkW l ⟨k0+1+1,m1,m2,m3,m4⟩) []:=⟨.nilp,.inl rfl,j3w,j3r⟩
  cases om
  case' false=>
   simp (maxSteps:=400000) only[wF,storeA,reduceCtorEq,Nat.reduceAdd,Nat.reduceSub,Nat.reduceEqDiff,Nat.reduceLeDiff,Int.reduceToNat,Int.reduceLE,Int.reduceLT,Int.reduceAdd,Int.reduceNeg,Nat.reduceMul,restOf,S20,T20,j3o,Bool.not_false,buildA,sliceLit,fillA,zerosA,AV.boxable,Nat.le_refl,Nat.reduceLT]
   refine AInv.retK B52 (put_step [sDoct] hwat3 (by omega) (by omega) (by rw[catS_one];decide) (by decide)) (fun v2 A hq=>?_) (fun v2 A hq=>by cases hq.1)
   obtain⟨hv',jp,hWP⟩:=hq
   cases hv'
   rw[catS_one,List.nil_append,show sDoct=doctB false from rfl]at hWP
   simp (maxSteps:=400000) only[wF,storeA,reduceCtorEq,Nat.reduceAdd,Nat.reduceSub,Nat.reduceEqDiff,Nat.reduceLeDiff,Int.reduceToNat,Int.reduceLE,Int.reduceLT,Int.reduceAdd,Int.reduceNeg,Nat.reduceMul,T20]
  case' true=>
   simp (maxSteps:=400000) only[wF,storeA,reduceCtorEq,Nat.reduceAdd,Nat.reduceSub,Nat.reduceEqDiff,Nat.reduceLeDiff,Int.reduceToNat,Int.reduceLE,Int.reduceLT,Int.reduceAdd,Int.reduceNeg,Nat.reduceMul,restOf,S20,T20,j3o,Bool.not_true]
   refine And.intro (by decide) ?_
   obtain⟨A,jp,hAe,hWP⟩:∃A jp,A=J3∧WP J3 (k0+1+1+1) J1.next (mkW l ⟨k0+1+1,m1,m2,m3,m4⟩) (doctB true) A jp:=⟨J3,_,rfl,WP.refl hwat3 (by omega)⟩
   rw[←hAe]
   clear hAe
  all_goals
   obtain⟨bA,hbA,jAw,jAr⟩:=hWP.1
   refine AInv.retK B53 (laid_ok (i:=0) hM hv jAw hl1) (fun v2 J4 hq=>?_) (fun v2 J4 hq=>by cases hq.1)
   obtain⟨hv',k4⟩:=hq
   cases hv'
   have k4':=k4.kept
   have hAn:=hWP.2.2.2.1
   have hjp:=hWP.2.2.1
   have hjq:=hWP.2.1
   have hn4:=k4'.1
   have hW4:=hWP.grow (J':=J4) (by omega) hn4 k4'.2
   have low4:∀j,j<J3.next→j≠k0+1+1+1→j≠J1.next→J4.get j=J3.get j:=fun j j1 j2 j3=>(k4'.2 j (by omega)).trans (hWP.2.2.2.2 j j1 j2 j3)
   have keep4:∀{m:Nat} {es:List (AV × AV)},J3.get m=some (.map es)→m<J3.next→J4.get m=some (.map es):=fun {m es} hg hm4=>by
    rw[low4 m hm4 (fun e=>by rw[e]at hg;rw[hg]at j3w;cases j3w) (fun e=>by rw[e]at hg;rw[hg]at j3r;cases j3r)]
    exact hg
   have j4m:MAt J4 ⟨k0+1+1,m1,m2,m3,m4⟩:=⟨keep4 j3m.sw (by simp only;omega),keep4 j3m.vo (by simp only;omega),keep4 j3m.ra (by simp only;omega),keep4 j3m.ke (by simp only;omega),keep4 j3m.si (by simp only;omega)⟩
   obtain⟨b4,hb4,j4w,j4r⟩:=hW4.1
   have hwat:=hW4.1
   have j4w':=j4w
   have ht4:=tabA_get (f:=kidsOf l) (n:=l.length) (i:=0) (by omega)
   simp only[WV.obj,mkW]at j4w'
   simp (maxSteps:=400000) only[wF,storeA,reduceCtorEq,Nat.reduceAdd,Nat.reduceSub,Nat.reduceEqDiff,Nat.reduceLeDiff,Int.reduceToNat,Int.reduceLE,Int.reduceLT,Int.reduceAdd,Int.reduceNeg,Nat.reduceMul,T20,j4w',q0,indexAddrA,ht4,Nat.mul_one,Int.toNat_natCast]
   generalize hkl:kidsOf l 0=kl at hlen hw ⊢
   have hkll:kl.length≤l.length:=by rw[←hkl];exact filter_len _
   have hll:=hv.len
   refine ATrS.loopK (κ:=Nat × Nat × AHeap) (fun x=>ndF kl H.next (H.next+1) (H.next+1+1) (H.next+1+1+1) (k0+1+1+1) x.1) (fun x=>x.2.2)
    (fun x=>x.1≤kl.length∧WP J4 (k0+1+1+1) jp (mkW l ⟨k0+1+1,m1,m2,m3,m4⟩) (doctB _++(kl.take x.1).flatMap (wrN l l.length)) x.2.2 x.2.1) (fun x=>kl.length-x.1) ⟨(0,jp,J4),⟨Nat.zero_le _,WP.refl (by simpa using hwat) (by omega)⟩,by simp[Fg,ndF],HW.refl _⟩ ?_
   rintro⟨c,jj,J⟩ ⟨hc,w1⟩
   simp only at hc w1
   have hk4:=hn4
   have n4:=w1.2.2.2.1
   have keepM:∀{m:Nat} {es:List (AV × AV)},J4.get m=some (.map es)→m<J4.next→J.get m=some (.map es):=fun {m es} hg hm4=>by
    rw[w1.2.2.2.2 m hm4 (fun e=>by rw[e]at hg;rw[hg]at j4w;cases j4w) (fun e=>by rw[e]at hg;rw[hg]at j4r;cases j4r)]
    exact hg
   have hmJ:MAt J ⟨k0+1+1,m1,m2,m3,m4⟩:=⟨keepM j4m.sw (by simp only;omega),keepM j4m.vo (by simp only;omega),keepM j4m.ra (by simp only;omega),keepM j4m.ke (by simp only;omega),keepM j4m.si (by simp only;omega)⟩
   by_cases hlt:c<kl.length
   case pos=>
    have d0:decide ((c:Int)<(kl.length:Int))=true:=decide_eq_true (by omega)
    have qq0:((c:Int)<(kl.length:Int))=True:=eq_true (by omega)
    have gg0:=intsA_get hlt
    have hst:(kl.take (c+1)).flatMap (wrN l l.length)=(kl.take c).flatMap (wrN l l.length)++wrN l l.length (kl.getD c 0):=by
     have e1:kl.take (c+1)=kl.take c++[kl.getD c 0]:=by
      rw[List.take_succ,List.getElem?_eq_getElem hlt,List.getD_eq_getElem?_getD,List.getElem?_eq_getElem hlt];rfl
     rw[e1,List.flatMap_append]
     simp only[List.flatMap_cons,List.flatMap_nil,List.append_nil]
    have hsum:((kl.take (c+1)).flatMap (wrN l l.length)).length≤(kl.flatMap (wrN l l.length)).length:=by
     conv=>rhs;rw[←List.take_append_drop (c+1) kl,List.flatMap_append,List.length_append]
     omega
    rw[hst,List.length_append]at hsum
    have hmem:=kidsOf_lt (l:=l) (i:=0) (k:=kl.getD c 0) (by rw[hkl];exact getD_mem hlt)
    generalize kl.getD c 0=d at gg0 hst hsum hmem
    have ew1:IntKind.i64.wrap ((c:Int)+1)=((c+1:Nat):Int):=by rw[wrap64]<;>omega
    simp (maxSteps:=400000) only[wF,storeA,reduceCtorEq,Nat.reduceAdd,Nat.reduceSub,Nat.reduceEqDiff,Nat.reduceLeDiff,Int.reduceToNat,Int.reduceLE,Int.reduceLT,Int.reduceAdd,Int.reduceNeg,Nat.reduceMul,ndF,T20,d0,qq0,gg0,indexAddrA,Nat.mul_one]
    refine AInv.retK B55 (node_ok hM hv l.length d hmem.2.1 hmem.1 (by omega) hmem.2.2.2 0 J jj _ w1.1 hmJ (by rw[List.length_append];omega)) (fun v A hq=>?_) (fun v A hq=>by cases hq.1)
    obtain⟨hv',j4',w2⟩:=hq
    cases hv'
    have w3:=w1.trans w2
    simp (maxSteps:=400000) only[wF,storeA,reduceCtorEq,Nat.reduceAdd,Nat.reduceSub,Nat.reduceEqDiff,Nat.reduceLeDiff,Int.reduceToNat,Int.reduceLE,Int.reduceLT,Int.reduceAdd,Int.reduceNeg,Nat.reduceMul,T20,ew1]
    refine⟨(c+1,j4',A),⟨hlt,?_⟩,by simp only;omega,by simp[Fg,ndF],HW.refl _⟩
    simp only
    rw[hst]
    exact w3
   case neg=>
    have d0:decide ((c:Int)<(kl.length:Int))=false:=decide_eq_false (by omega)
    have hce:c=kl.length:=by omega
    subst hce
    rw[List.take_length]at w1
    clear hmJ keepM
    obtain⟨b0,_,w5,w6⟩:=w1.1
    have w5':=w5
    simp only[WV.obj,mkW]at w5'
    simp (maxSteps:=400000) only[wF,storeA,reduceCtorEq,Nat.reduceAdd,Nat.reduceSub,Nat.reduceEqDiff,Nat.reduceLeDiff,Int.reduceToNat,Int.reduceLE,Int.reduceLT,Int.reduceAdd,Int.reduceNeg,Nat.reduceMul,ndF,T20,d0,w5']
    refine AInv.retK (show bodyT Tryz.prog 39=true by kernel_rfl) (string_w w5 w6) (fun v A hq=>?_) (fun v A hq=>by cases hq.1)
    obtain⟨hv',a1,a2⟩:=hq
    cases hv'
    have lowA:∀j,j<J4.next→j≠k0+1+1+1→j≠jp→j≠jj→A.get j=J4.get j:=fun j j1 j2 j3 j4=>by
     rw[a2,AHeap.get_del_ne _ j4]
     exact w1.2.2.2.2 j j1 j2 j3
    have hjj:=w1.2.1
    have as1:A.get (H.next+1+1)=some (.cells 9 [.str []]):=(lowA _ (by omega) (by omega) (by omega) (by omega)).trans ((low4 _ (by omega) (by omega) (by omega)).trans ((kJ3.2 _ (by omega)).trans hs2))
    have ae:A.get (H.next+1+1+1)=some (.cells 26 [.int .i64 0]):=(lowA _ (by omega) (by omega) (by omega) (by omega)).trans ((low4 _ (by omega) (by omega) (by omega)).trans ((kJ3.2 _ (by omega)).trans he2))
    have af:∀j,j<H.next→A.get j=H.get j:=fun j hj=>(lowA j (by omega) (by omega) (by omega) (by omega)).trans ((low4 j (by omega) (by omega) (by omega)).trans ((kJ3.2 j (by omega)).trans (hf2 j hj)))
    have u1:(H.next+1+1+1=H.next+1+1)=False:=eq_false (by omega)
    have u2:(H.next+1+1=H.next+1+1+1)=False:=eq_false (by omega)
    simp (maxSteps:=400000) only[wF,storeA,reduceCtorEq,Nat.reduceAdd,Nat.reduceSub,Nat.reduceEqDiff,Nat.reduceLeDiff,Int.reduceToNat,Int.reduceLE,Int.reduceLT,Int.reduceAdd,Int.reduceNeg,Nat.reduceMul,T20,as1,ae,u1,u2,deferA]
    refine w_closure_nil G ?_
    simp (maxSteps:=400000) only[wF,storeA,reduceCtorEq,Nat.reduceAdd,Nat.reduceSub,Nat.reduceEqDiff,Nat.reduceLeDiff,Int.reduceToNat,Int.reduceLE,Int.reduceLT,Int.reduceAdd,Int.reduceNeg,Nat.reduceMul,T20,R20,u1,u2]
    refine⟨by rw[hw],?_,fun j hj=>?_⟩
    ·simp only[AHeap.next_set];omega
    ·rw[AHeap.get_set_ne _ _ (by omega),AHeap.get_set_ne _ _ (by omega)]
     exact af j hj
end Go.Ab
