/- The examples' own check, walked. ReparseLong's events, walked. -/
import Derived.Test.YtojncnpmlhhccaaGreatDoorHTC
import Derived.Test.YtojncnpmlhhccaaGreatDoorHB
set_option linter.all false
namespace Go.Ab
open Go Go.Lib Go.Proofs
theorem validB:ValidN ndsB:=by
 have hc:∀i,i<ndsB.length→i=0∨i=1∨i=2:=fun i hi=>by have:ndsB.length=3:=rfl;omega
 have hd:∀i,0<i→i<ndsB.length→i=1∨i=2:=fun i h0 hi=>by have:ndsB.length=3:=rfl;omega
 refine⟨by decide,by decide,rfl,?_,?_,?_,?_,?_,?_,?_,?_⟩
 ·intro i hi;rcases hc i hi with rfl | rfl | rfl<;>decide
 ·intro i hi;rcases hc i hi with rfl | rfl | rfl<;>kernel_rfl
 ·intro i hi;rcases hc i hi with rfl | rfl | rfl<;>decide
 ·intro i h0 hi;rcases hd i h0 hi with rfl | rfl<;>decide
 ·intro i h0 hi;rcases hd i h0 hi with rfl | rfl<;>kernel_rfl
 ·intro i h0 hi;rcases hd i h0 hi with rfl | rfl<;>decide
 ·intro i h0 hi;rcases hd i h0 hi with rfl | rfl<;>kernel_rfl
 ·intro i h0 hi;rcases hd i h0 hi with rfl | rfl<;>decide
theorem textB:textTo ndsB 0 (stopN ndsB 0 ndsB.length (0+1))=[97,32,60,32,98,32,38,38,32,99]:=by kernel_rfl
theorem hl_node_ok (G:Nat→Option (List AV)) (kind:Int) (name text:List UInt8) (up:Int):PureCall Tryz.prog G 22 [.int .i64 kind,.str name,.str text,.int .i64 up] (.agg [.int .i64 kind,.str name,.str text,.int .i64 up]):=by
 intro H
 refine ACalls.keep (ACalls.of Tryz.func22 S22_eq R22 N22 rfl rfl ?_)
 simp (maxSteps:=400000) only[wF,storeA,reduceCtorEq,Nat.reduceAdd,Nat.reduceSub,Nat.reduceEqDiff,Nat.reduceLeDiff,Int.reduceToNat,Int.reduceLE,Int.reduceLT,Int.reduceAdd,Int.reduceNeg,Nat.reduceMul,S22,N22,R22,T22,buildA,fillA,AV.boxable]
 refine⟨by omega,fun j hj=>?_⟩
 rw[if_neg (by omega),if_neg (by omega)]
theorem Weak.h_freezeVals {G:Nat→Option (List AV)} {H:AHeap} {j:Nat} {e:TypeId} {size:Nat} {cs a a':List AV} (hj:H.get j=some (.row e size cs)) (hsz:0<size) (hv:Tzs j (fun len=>some (.lst len cs)) none a a') :
  Weak G a H a' (H.del j):=
 Weak.freeze hj hsz (Nat.le_refl _) (by simp[AHeap.get_del]) (fun i=>by
  by_cases h:i=j
  ·exact .inr (.inl (by simp[AHeap.get_del,h]))
  ·cases hg:H.get i with
   | none=>exact .inr (.inl (by simp[AHeap.get_del,h,hg]))
   | some o=>exact .inr (.inr ⟨o,o,rfl,by simp[AHeap.get_del,h,hg],.same o⟩)) hv
set_option maxHeartbeats 8000000 in
set_option maxRecDepth 100000 in
theorem hl_works_ok {G:Nat→Option (List AV)} (E:Env G) (B:EnvB G) (P:EnvP G) (X:EnvH G) (T:EnvT G) (H:AHeap):ACalls Tryz.prog G 8 [] H fun r H'=>r = .ret (.bool true)∧Kept H H':=by
 have hB:=t_build_ok E X T
 refine ACalls.of Tryz.func8 S8_eq R8 N8 rfl rfl ?_
 simp (maxSteps:=400000) only[wF,storeA,reduceCtorEq,Nat.reduceAdd,Nat.reduceSub,Nat.reduceEqDiff,Nat.reduceLeDiff,Int.reduceToNat,Int.reduceLE,Int.reduceLT,Int.reduceAdd,Int.reduceNeg,Nat.reduceMul,S8,N8,R8,T8]
 refine AInv.retK B9 (h_html_ok E B P X hB hexA H) (fun v H1 hq=>?_) (fun v H1 hq=>by cases hq.1)
 obtain⟨hv,h1⟩:=hq
 cases hv
 rw[hexA_eq]
 simp only[treeA]
 simp (maxSteps:=400000) only[wF,storeA,reduceCtorEq,Nat.reduceAdd,Nat.reduceSub,Nat.reduceEqDiff,Nat.reduceLeDiff,Int.reduceToNat,Int.reduceLE,Int.reduceLT,Int.reduceAdd,Int.reduceNeg,Nat.reduceMul,T8,AV.boxable]
 generalize hX:AHeap.set _ H1.next _=X1
 have x0:X1.get H1.next=some (.cells 25 [.lst ndsA.length (ndsH ndsA)]):=by rw[←hX,AHeap.get_set_same]
 have xn:X1.next=H1.next+1:=by rw[←hX];simp only[AHeap.next_set,AHeap.next_allocAt];omega
 have xo:∀j,j<H1.next→X1.get j=H1.get j:=fun j hj=>by rw[←hX,AHeap.get_set_ne _ _ (by omega),AHeap.get_allocAt_ne _ _ (by omega)]
 clear hX
 refine AInv.pureK B22 (hl_node_ok G 0 [] [] (-1)) fun J1 j1=>?_
 simp (maxSteps:=400000) only[wF,storeA,reduceCtorEq,Nat.reduceAdd,Nat.reduceSub,Nat.reduceEqDiff,Nat.reduceLeDiff,Int.reduceToNat,Int.reduceLE,Int.reduceLT,Int.reduceAdd,Int.reduceNeg,Nat.reduceMul,T8]
 refine AInv.pureK B22 (hl_node_ok G 1 [112] [] 0) fun J2 j2=>?_
 simp (maxSteps:=400000) only[wF,storeA,reduceCtorEq,Nat.reduceAdd,Nat.reduceSub,Nat.reduceEqDiff,Nat.reduceLeDiff,Int.reduceToNat,Int.reduceLE,Int.reduceLT,Int.reduceAdd,Int.reduceNeg,Nat.reduceMul,T8]
 refine AInv.pureK B22 (hl_node_ok G 2 [105,100] [97,34] 1) fun J3 j3=>?_
 simp (maxSteps:=400000) only[wF,storeA,reduceCtorEq,Nat.reduceAdd,Nat.reduceSub,Nat.reduceEqDiff,Nat.reduceLeDiff,Int.reduceToNat,Int.reduceLE,Int.reduceLT,Int.reduceAdd,Int.reduceNeg,Nat.reduceMul,T8]
 refine AInv.pureK B22 (hl_node_ok G 3 [] [49,32,60,32,50] 1) fun J4 j4=>?_
 simp (maxSteps:=400000) only[wF,storeA,reduceCtorEq,Nat.reduceAdd,Nat.reduceSub,Nat.reduceEqDiff,Nat.reduceLeDiff,Int.reduceToNat,Int.reduceLE,Int.reduceLT,Int.reduceAdd,Int.reduceNeg,Nat.reduceMul,T8]
 refine AInv.pureK B22 (hl_node_ok G 1 [98,114] [] 1) fun J5 j5=>?_
 have j:=(((j1.trans j2).trans j3).trans j4).trans j5
 clear j1 j2 j3 j4 j5
 have p5:=j.1
 have y0:=(congrFun j.2 _).trans x0
 have yo:∀k,k<H1.next→J5.get k=H1.get k:=fun k hk=>(congrFun j.2 _).trans (xo k hk)
 have u1:(J5.next+1=J5.next)=False:=by simp
 simp (maxSteps:=400000) only[wF,storeA,reduceCtorEq,Nat.reduceAdd,Nat.reduceSub,Nat.reduceEqDiff,Nat.reduceLeDiff,Int.reduceToNat,Int.reduceLE,Int.reduceLT,Int.reduceAdd,Int.reduceNeg,Nat.reduceMul,T8,AV.boxable,buildA,sliceLit,fillA,zerosA,Nat.le_refl,Nat.reduceLT]
 generalize hZ:AHeap.set _ (J5.next+1) _=Z
 have z0:Z.get H1.next=some (.cells 25 [.lst ndsA.length (ndsH ndsA)]):=by rw[←hZ,AHeap.get_set_ne _ _ (by omega),AHeap.get_allocAt_ne _ _ (by omega),AHeap.get_allocAt_ne _ _ (by omega)];exact y0
 have z1:Z.get J5.next=some (.row 36 4 (ndsH ndsA)):=by rw[←hZ,AHeap.get_set_ne _ _ (by omega),AHeap.get_allocAt_ne _ _ (by omega),AHeap.get_allocAt_same];rfl
 have z2:Z.get (J5.next+1)=some (.cells 25 [.slc J5.next 5]):=by rw[←hZ,AHeap.get_set_same]
 have zn:Z.next=J5.next+2:=by rw[←hZ];simp only[AHeap.next_set,AHeap.next_allocAt];omega
 have zo:∀k,k<H1.next→Z.get k=H1.get k:=fun k hk=>by rw[←hZ,AHeap.get_set_ne _ _ (by omega),AHeap.get_allocAt_ne _ _ (by omega),AHeap.get_allocAt_ne _ _ (by omega)];exact yo k hk
 clear hZ
 refine AInv.retK B9 (h_html_ok E B P X hB hexB Z) (fun v H2 hq=>?_) (fun v H2 hq=>by cases hq.1)
 obtain⟨hv,h2⟩:=hq
 cases hv
 rw[hexB_eq]
 have n2:=h2.1
 have a0:=(h2.2 _ (by omega)).trans z0
 have a1:=(h2.2 _ (by omega)).trans z1
 have a2:=(h2.2 _ (by omega)).trans z2
 have ao:∀k,k<H1.next→H2.get k=H1.get k:=fun k hk=>(h2.2 _ (by omega)).trans (zo k hk)
 simp only[treeA]
 simp (maxSteps:=400000) only[wF,storeA,reduceCtorEq,Nat.reduceAdd,Nat.reduceSub,Nat.reduceEqDiff,Nat.reduceLeDiff,Int.reduceToNat,Int.reduceLE,Int.reduceLT,Int.reduceAdd,Int.reduceNeg,Nat.reduceMul,T8,AV.boxable]
 generalize hY:AHeap.set _ H2.next _=Y
 have b0:Y.get H1.next=some (.cells 25 [.lst ndsA.length (ndsH ndsA)]):=by rw[←hY,AHeap.get_set_ne _ _ (by omega),AHeap.get_allocAt_ne _ _ (by omega)];exact a0
 have b1:Y.get J5.next=some (.row 36 4 (ndsH ndsA)):=by rw[←hY,AHeap.get_set_ne _ _ (by omega),AHeap.get_allocAt_ne _ _ (by omega)];exact a1
 have b2:Y.get (J5.next+1)=some (.cells 25 [.slc J5.next 5]):=by rw[←hY,AHeap.get_set_ne _ _ (by omega),AHeap.get_allocAt_ne _ _ (by omega)];exact a2
 have b3:Y.get H2.next=some (.cells 25 [.lst ndsB.length (ndsH ndsB)]):=by rw[←hY,AHeap.get_set_same]
 have bn:Y.next=H2.next+1:=by rw[←hY];simp only[AHeap.next_set,AHeap.next_allocAt];omega
 have bo:∀k,k<H1.next→Y.get k=H1.get k:=fun k hk=>by rw[←hY,AHeap.get_set_ne _ _ (by omega),AHeap.get_allocAt_ne _ _ (by omega)];exact ao k hk
 clear hY
 refine AInv.retK B9 (h_html_ok E B P X hB hexC Y) (fun v H3 hq=>?_) (fun v H3 hq=>by cases hq.1)
 obtain⟨hv,h3⟩:=hq
 cases hv
 rw[hexC_eq]
 have n3:=h3.1
 have c0:=(h3.2 _ (by omega)).trans b0
 have c1:=(h3.2 _ (by omega)).trans b1
 have c2:=(h3.2 _ (by omega)).trans b2
 have c3:=(h3.2 _ (by omega)).trans b3
 have co:∀k,k<H1.next→H3.get k=H1.get k:=fun k hk=>(h3.2 _ (by omega)).trans (bo k hk)
 have e0:((0:Int)==0)=true:=rfl
 have v1:(H1.next=H3.next)=False:=by simp;omega
 have v2:(J5.next+1=H3.next)=False:=by simp;omega
 simp only[treeA]
 simp (maxSteps:=400000) only[wF,storeA,reduceCtorEq,Nat.reduceAdd,Nat.reduceSub,Nat.reduceEqDiff,Nat.reduceLeDiff,Int.reduceToNat,Int.reduceLE,Int.reduceLT,Int.reduceAdd,Int.reduceNeg,Nat.reduceMul,T8,AV.boxable,e0,v1,v2,c0,c2]
 generalize hW:AHeap.set _ H3.next _=W
 have d0:W.get H1.next=some (.cells 25 [.lst ndsA.length (ndsH ndsA)]):=by rw[←hW,AHeap.get_set_ne _ _ (by omega),AHeap.get_allocAt_ne _ _ (by omega)];exact c0
 have d1:W.get J5.next=some (.row 36 4 (ndsH ndsA)):=by rw[←hW,AHeap.get_set_ne _ _ (by omega),AHeap.get_allocAt_ne _ _ (by omega)];exact c1
 have d3:W.get H2.next=some (.cells 25 [.lst ndsB.length (ndsH ndsB)]):=by rw[←hW,AHeap.get_set_ne _ _ (by omega),AHeap.get_allocAt_ne _ _ (by omega)];exact c3
 have dn:W.next=H3.next+1:=by rw[←hW];simp only[AHeap.next_set,AHeap.next_allocAt];omega
 have d_o:∀k,k<H1.next→W.get k=H1.get k:=fun k hk=>by rw[←hW,AHeap.get_set_ne _ _ (by omega),AHeap.get_allocAt_ne _ _ (by omega)];exact co k hk
 clear hW
 have hw:=Weak.h_freezeVals (G:=G) (a:=[.agg [.lst ndsA.length (ndsH ndsA)],.agg [.slc J5.next 5]]) (a':=[.agg [.lst ndsA.length (ndsH ndsA)],.agg [.lst 5 (ndsH ndsA)]]) d1 (by omega) ⟨.same _,.agg' ⟨.slc _ _ rfl,trivial⟩,trivial⟩
 refine AInv.retK B11 (ACalls.weak hw (e_equal_ok G (l:=ndsA) (m:=ndsA) (by decide) _)) (fun v H4 hq=>?_) (fun v H4 hq=>by cases hq.1)
 obtain⟨hv,h4⟩:=hq
 cases hv
 rw[decide_eq_true (rfl:ndsA=ndsA)]
 have n4:=h4.1
 simp only[AHeap.next_del]at n4
 have f3:H4.get H2.next=some (.cells 25 [.lst ndsB.length (ndsH ndsB)]):=by rw[h4.2,AHeap.get_del_ne _ (by omega)];exact d3
 have fo:∀k,k<H1.next→H4.get k=H1.get k:=fun k hk=>by rw[h4.2,AHeap.get_del_ne _ (by omega)];exact d_o k hk
 simp (maxSteps:=400000) only[wF,storeA,reduceCtorEq,Nat.reduceAdd,Nat.reduceSub,Nat.reduceEqDiff,Nat.reduceLeDiff,Int.reduceToNat,Int.reduceLE,Int.reduceLT,Int.reduceAdd,Int.reduceNeg,Nat.reduceMul,T8,e0,f3]
 have htx:=t_Text_ok E X T B validB (node:=0) (by decide) (.inl rfl) (by decide)
 rw[textB]at htx
 refine AInv.pureK B15 htx fun H5 h5=>?_
 have n5:=h5.1
 have e1:(([97,32,60,32,98,32,38,38,32,99]:List UInt8)==[97,32,60,32,98,32,38,38,32,99])=true:=by decide
 have e2:(((110:Nat):Int)==110)=true:=rfl
 simp (maxSteps:=400000) only[wF,storeA,reduceCtorEq,Nat.reduceAdd,Nat.reduceSub,Nat.reduceEqDiff,Nat.reduceLeDiff,Int.reduceToNat,Int.reduceLE,Int.reduceLT,Int.reduceAdd,Int.reduceNeg,Nat.reduceMul,T8,e1,e2]
 have n1:=h1.1
 refine⟨by omega,fun k hk=>?_⟩
 rw[h5.2,fo k (by omega)]
 exact h1.2 k hk
end Go.Ab
namespace Go.Ab
open Go Go.Lib Go.Proofs
end Go.Ab
