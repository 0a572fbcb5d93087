/- The reference of tree: Build, walked. The reference of reparse: HTML, walked. ReparseReads, walked. -/
import Derived.Test.YtojncnpmlhhccaaGreatDoorQE6
import Derived.Test.YtojncnpmlhhccaaGreatDoorHT14
set_option linter.all false
namespace Go.Ab
open Go Go.Lib Go.Proofs
def QBd (H:AHeap) (l:List Ev) (y:Nat × TSt × Nat × AHeap):Prop:=
 y.1≤l.length∧foldT (l.drop y.1) y.2.1=foldT l t0T∧DOk y.2.1∧TxOk y.2.1∧y.2.2.2.get H.next=some (.cells 25 [.nils]) ∧
 y.2.2.2.get (H.next+2)=some (.cells 119 [.slc y.2.2.1 y.2.1.l.length,.int .i64 y.2.1.op,.int .i64 y.2.1.bytes])∧y.2.2.2.get y.2.2.1=some (.row 36 4 (ndsH y.2.1.l)) ∧
 H.next<y.2.2.1∧y.2.2.1≠H.next+2∧y.2.2.1<y.2.2.2.next∧H.next+3≤y.2.2.2.next∧∀j,j<H.next→y.2.2.2.get j=H.get j
set_option maxHeartbeats 8000000 in
set_option maxRecDepth 100000 in
theorem e_build_ok (G:Nat→Option (List AV)) {l:List Ev} {H:AHeap} (hl:l.length≤100000000) (hx:∀x∈l,EvB 10000000 x) :
  ACalls Tryz.prog G 28 [.lst l.length (evsH l)] H fun r H'=>r = .ret (treeA (buildS l))∧Kept H H':=by
 refine ACalls.ret (ACalls.of Tryz.func28 S28_eq R28 N28 rfl rfl ?_)
 have u1:(H.next=H.next+1)=False:=by simp
 have u2:(H.next+1=H.next)=False:=by simp
 have u3:(H.next=H.next+2)=False:=by simp
 have u4:(H.next+2=H.next)=False:=by simp
 have u5:(H.next+1=H.next+2)=False:=by simp
 have u6:(H.next+2=H.next+1)=False:=by simp
 have u7:H.next+1+1=H.next+2:=by omega
 simp (maxSteps:=400000) only[wF,storeA,reduceCtorEq,Nat.reduceAdd,Nat.reduceSub,Nat.reduceEqDiff,Nat.reduceLeDiff,Int.reduceToNat,Int.reduceLE,Int.reduceLT,Int.reduceAdd,Int.reduceNeg,Nat.reduceMul,S28,N28,R28,T28,AV.boxable,buildA,sliceLit,fillA,zerosA,srcCells,Nat.reduceLT,Nat.le_refl,u1,u2,u3,u4,u5,u6,u7]
 generalize hX0:AHeap.set _ (H.next+2) _=X
 have x0:X.get H.next=some (.cells 25 [.nils]):=by rw[←hX0,AHeap.get_set_ne _ _ (by omega),AHeap.get_allocAt_ne _ _ (by omega),AHeap.get_allocAt_ne _ _ (by omega),AHeap.get_allocAt_same]
 have x1:X.get (H.next+1)=some (.row 36 4 (ndsH t0T.l)):=by rw[←hX0,AHeap.get_set_ne _ _ (by omega),AHeap.get_allocAt_ne _ _ (by omega),AHeap.get_allocAt_same];rfl
 have x2:X.get (H.next+2)=some (.cells 119 [.slc (H.next+1) t0T.l.length,.int .i64 t0T.op,.int .i64 t0T.bytes]):=by rw[←hX0,AHeap.get_set_same];rfl
 have xn:H.next+3≤X.next:=by rw[←hX0];simp only[AHeap.next_set,AHeap.next_allocAt];omega
 have xo:∀j,j<H.next→X.get j=H.get j:=fun j hj=>by rw[←hX0,AHeap.get_set_ne _ _ (by omega),AHeap.get_allocAt_ne _ _ (by omega),AHeap.get_allocAt_ne _ _ (by omega),AHeap.get_allocAt_ne _ _ (by omega)]
 clear hX0
 refine ATrS.loopK (κ:=Nat × TSt × Nat × AHeap) (fun y=>[.lst l.length (evsH l),.und,.ptr H.next 0,.und,.ptr (H.next+2) 0,.int .i64 y.1]++List.replicate 32 .und) (fun y=>y.2.2.2)
  (QBd H l) (fun y=>l.length-y.1) ⟨(0,t0T,H.next+1,X),⟨Nat.zero_le _,rfl,DOk.init,TxOk.init,x0,x2,x1,by simp only;omega,by simp only;omega,by simp only;omega,xn,xo⟩,by simp[Fg],HW.refl _⟩ ?_
 clear x0 x1 x2 xo
 rintro⟨k,t,m,K⟩ ⟨hk,hfo,hd,htx,z0,z2,zm,hm1,hm2,hm3,hKn,zo⟩
 simp only at hk hfo hd htx z0 z2 zm hm1 hm2 hm3 hKn zo
 by_cases hlt:k<l.length
 case neg=>
  have d0:decide ((k:Int)<(l.length:Int))=false:=by simp;omega
  rw[List.drop_eq_nil_of_le (by omega)]at hfo
  simp only[foldT]at hfo
  by_cases ho:t.op=0
  ·have d1:((t.op:Int) != 0)=false:=by rw[ho];rfl
   have hR:buildS l = .ok t.l:=by unfold buildS;rw[←hfo];simp only;rw[if_neg (by simp[ho])]
   simp (maxSteps:=400000) only[wF,storeA,reduceCtorEq,Nat.reduceAdd,Nat.reduceSub,Nat.reduceEqDiff,Nat.reduceLeDiff,Int.reduceToNat,Int.reduceLE,Int.reduceLT,Int.reduceAdd,Int.reduceNeg,Nat.reduceMul,T28,d0,z2,d1,z0,buildA,fillA,AV.boxable]
   refine⟨_,_,Weak.h_freezeVal G (j:=m) (e:=36) (size:=4) (cs:=ndsH t.l) ?_ (by omega) (v':=treeA (.ok t.l)) (.tup' ⟨.agg' ⟨.slc _ _ rfl,trivial⟩,.same _,trivial⟩),by rw[hR],?_,fun j hj=>?_⟩
   ·rw[AHeap.get_set_ne _ _ (by omega)];exact zm
   ·simp only[AHeap.next_del,AHeap.next_set];omega
   ·rw[AHeap.get_del_ne _ (by omega),AHeap.get_set_ne _ _ (by omega)]
    exact zo j hj
  ·have d1:((t.op:Int) != 0)=true:=by rw[bne_iff_ne];omega
   have hR:buildS l = .error 110:=by unfold buildS;rw[←hfo];simp only;rw[if_pos ho]
   simp (maxSteps:=400000) only[wF,storeA,reduceCtorEq,Nat.reduceAdd,Nat.reduceSub,Nat.reduceEqDiff,Nat.reduceLeDiff,Int.reduceToNat,Int.reduceLE,Int.reduceLT,Int.reduceAdd,Int.reduceNeg,Nat.reduceMul,T28,d0,z2,d1,z0,buildA,fillA,AV.boxable]
   refine⟨_,_,Weak.treeNil G 110 _,by rw[hR],by simp only[AHeap.next_set];omega,fun j hj=>?_⟩
   rw[AHeap.get_set_ne _ _ (by omega)]
   exact zo j hj
 have d0:decide ((k:Int)<(l.length:Int))=true:=by simp;omega
 have ew:IntKind.i64.wrap ((k:Int)+1)=((k+1:Nat):Int):=by rw[wrap64]<;>omega
 have q0:((k:Int)<(l.length:Int))=True:=by simp;omega
 have q1:(0≤(k:Int)∧(k:Int)<(l.length:Int))=True:=by simp;omega
 have hat:=evsH_at l k hlt
 have hle:(k*6+6≤(evsH l).length)=True:=by rw[evsH_len];simp;omega
 have hxk:=hx _ (List.getElem_mem hlt)
 rw[List.drop_eq_getElem_cons hlt]at hfo
 simp only[foldT]at hfo
 generalize l[k]=x at hat hxk hfo
 have hsame:=evR_same t x
 simp (maxSteps:=400000) only[wF,storeA,reduceCtorEq,Nat.reduceAdd,Nat.reduceSub,Nat.reduceEqDiff,Nat.reduceLeDiff,Int.reduceToNat,Int.reduceLE,Int.reduceLT,Int.reduceAdd,Int.reduceNeg,Nat.reduceMul,T28,d0]
 refine ATrS.weak (Weak.hold 2) ?_
 generalize hK:(AHeap.mk (K.next+2) fun j=>if K.next≤j∧j<K.next+2 then some .held else K.get j)=L
 have ln:L.next=K.next+2:=by rw[←hK]
 have lN:L.get K.next=some .held:=by rw[←hK];simp
 have lA:L.get (K.next+1)=some .held:=by rw[←hK];simp
 have lg:∀j,j<K.next→L.get j=K.get j:=fun j hj=>by rw[←hK];simp only;rw[if_neg (by omega)]
 clear hK
 replace z0:=(lg _ (by omega)).trans z0
 replace z2:=(lg _ (by omega)).trans z2
 replace zm:=(lg _ hm3).trans zm
 refine drawH_ok mixedOrders L28_5_eq P28_5_eq ?_
 simp (maxSteps:=400000) only[wF,storeA,reduceCtorEq,Nat.reduceAdd,Nat.reduceSub,Nat.reduceEqDiff,Nat.reduceLeDiff,Int.reduceToNat,Int.reduceLE,Int.reduceLT,Int.reduceAdd,Int.reduceNeg,Nat.reduceMul,L28_5,w_hop,w_hnext,w_hnil,stepH.eq_1,stepH.eq_2,T28,z2,q0,q1,hle,hat,indexAddrA,Int.toNat_natCast,Nat.add_zero]
 refine⟨rfl,_,_,_,_,e_local G B72 zm lN (fun J' h1 h2=>e_event_ok G hd htx hxk h1 h2),?_⟩
 generalize evR t x=p at hsame ⊢
 generalize hg:(fun k=>if k=K.next then some (AObj.row 36 4 (ndsH p.2.l))else if k=m then none else L.get k)=Hg
 have hgA:Hg (K.next+1)=some .held:=by rw[←hg];simp only;rw[if_neg (by omega),if_neg (by omega)];exact lA
 simp (maxSteps:=400000) only[wF,storeA,reduceCtorEq,Nat.reduceAdd,Nat.reduceSub,Nat.reduceEqDiff,Nat.reduceLeDiff,Int.reduceToNat,Int.reduceLE,Int.reduceLT,Int.reduceAdd,Int.reduceNeg,Nat.reduceMul,w_hop,w_hnext,w_hnil,stepH.eq_1,stepH.eq_2,T28,stV]
 refine⟨K.next+1,_,hgA,rfl,?_⟩
 refine⟨by decide,by simp;omega,fun n hn=>?_⟩
 generalize hZ:(AHeap.mk n _)=Z
 have zn:Z.next=n:=by rw[←hZ]
 have hmA:m≠K.next+1:=by omega
 have yA:Z.get (K.next+1)=some (.cells 119 [.slc K.next p.2.l.length,.int .i64 p.2.op,.int .i64 p.2.bytes]):=by rw[←hZ];simp;rfl
 have yg:∀j,j≠K.next+1→Z.get j=Hg j:=fun j hj=>by rw[←hZ];simp[hj,AHeap.get_set_ne _ _ hj,AHeap.get_allocAt_ne _ _ hj]
 have yl:∀j,j<K.next→j≠m→Z.get j=L.get j:=fun j hj hjm=>(yg j (by omega)).trans (by rw[←hg];simp only;rw[if_neg (by omega),if_neg hjm])
 have y0:=(yl _ (by omega) (by omega)).trans z0
 have y2:=(yl _ (by omega) (by omega)).trans z2
 have yr:Z.get K.next=some (.row 36 4 (ndsH p.2.l)):=(yg _ (by omega)).trans (by rw[←hg];simp)
 have yo:∀j,j<H.next→Z.get j=H.get j:=fun j hj=>(yl _ (by omega) (by omega)).trans ((lg j (by omega)).trans (zo j hj))
 clear hZ hg hgA yg yl
 cases he:eventT t x with
 | error e=>
  rw[he]at hsame hfo
  simp only[SameR]at hsame hfo
  have d1:((p.1:Int) != 0)=true:=by rw[bne_iff_ne];omega
  have hR:buildS l = .error e:=by unfold buildS;rw[←hfo]
  simp (maxSteps:=400000) only[wF,storeA,reduceCtorEq,Nat.reduceAdd,Nat.reduceSub,Nat.reduceEqDiff,Nat.reduceLeDiff,Int.reduceToNat,Int.reduceLE,Int.reduceLT,Int.reduceAdd,Int.reduceNeg,Nat.reduceMul,T28,d1,y0,buildA,fillA,AV.boxable]
  rw[hsame.1]
  refine⟨_,_,Weak.treeNil G e _,by rw[hR],by simp only[AHeap.next_set];omega,fun j hj=>?_⟩
  rw[AHeap.get_set_ne _ _ (by omega)]
  exact yo j hj
 | ok t'=>
  rw[he]at hsame hfo
  simp only[SameR]at hsame hfo
  have d1:(((0:Nat):Int) != 0)=false:=rfl
  subst hsame
  simp only at yA yr
  simp (maxSteps:=400000) only[wF,storeA,reduceCtorEq,Nat.reduceAdd,Nat.reduceSub,Nat.reduceEqDiff,Nat.reduceLeDiff,Int.reduceToNat,Int.reduceLE,Int.reduceLT,Int.reduceAdd,Int.reduceNeg,Nat.reduceMul,T28,d1,yA,y2,ew]
  refine⟨(k+1,t',K.next,_),⟨hlt,hfo,hd.event he,htx.event hd.tok he,?_,?_,?_,by simp only;omega,by simp only;omega,?_,?_,fun j hj=>?_⟩,by simp only;omega,by simp[Fg],HW.refl _⟩
  ·show(AHeap.set _ _ _).get _=_
   rw[AHeap.get_set_ne _ _ (by omega)];exact y0
  ·show(AHeap.set _ _ _).get _=_
   rw[AHeap.get_set_same]
  ·show(AHeap.set _ _ _).get K.next=_
   rw[AHeap.get_set_ne _ _ (by omega)];exact yr
  ·simp only[AHeap.next_set];omega
  ·simp only[AHeap.next_set];omega
  ·show(AHeap.set _ _ _).get j=_
   rw[AHeap.get_set_ne _ _ (by omega)];exact yo j hj
end Go.Ab
namespace Go.Ab
open Go Go.Lib Go.Proofs
theorem eventsRF_err {s:List UInt8} {c:Nat}:∀(f i:Nat) (raw:Bool) (l:List Ev) (o:List (List UInt8)),eventsRF f s i raw l o = .error c→1≤c
 | 0,_,_,_,_,h=>by cases h
 | f+1,i,raw,l,o,h=>by
  rw[eventsRF]at h
  repeat' split at h
  all_goals first
   | (cases h;decide)
   | exact eventsRF_err f _ _ _ _ h
   | cases h
set_option maxHeartbeats 4000000 in
set_option maxRecDepth 100000 in
theorem q_html_ok (G:Nat→Option (List AV)) {s:List UInt8} (hs:s.length≤100000000) (H:AHeap) :
  ACalls Tryz.prog G 10 [.str s] H fun r H'=>r = .ret (treeA (htmlS s))∧Kept H H':=by
 refine ACalls.ret (ACalls.of Tryz.func10 S10_eq R10 N10 rfl rfl ?_)
 simp (maxSteps:=400000) only[wF,storeA,reduceCtorEq,Nat.reduceAdd,Nat.reduceSub,Nat.reduceEqDiff,Nat.reduceLeDiff,Int.reduceToNat,Int.reduceLE,Int.reduceLT,Int.reduceAdd,Int.reduceNeg,Nat.reduceMul,S10,N10,R10,T10,AV.boxable]
 generalize hX0:AHeap.allocAt H H.next _=X
 have x0:X.get H.next=some (.cells 25 [.nils]):=by rw[←hX0,AHeap.get_allocAt_same]
 have xn:H.next+1≤X.next:=by rw[←hX0];simp only[AHeap.next_allocAt];omega
 have xo:∀j,j<H.next→X.get j=H.get j:=fun j hj=>by rw[←hX0,AHeap.get_allocAt_ne _ _ (by omega)]
 clear hX0
 have bad:∀(e:Nat) (J:AHeap) (o:AObj),H.next+1≤J.next→(∀j,j<H.next→J.get j=H.get j)→htmlS s = .error e →
   ∃v' H2,Weak G [.tup [.agg [.nils],.int .i64 e]] (J.set H.next o) [v'] H2∧ARes.ret v' = .ret (treeA (htmlS s))∧Kept H H2:=fun e J o a b c=>
  ⟨_,_,Weak.treeNil G e _,by rw[c],by simp only[AHeap.next_set];omega,fun j hj=>by rw[AHeap.get_set_ne _ _ (by omega)];exact b j hj⟩
 by_cases hlong:1048576<s.length
 ·have d0:decide ((s.length:Int)>1048576)=true:=by simp;omega
  have hR:htmlS s = .error 2:=by unfold htmlS;rw[if_pos hlong]
  simp (maxSteps:=400000) only[wF,storeA,reduceCtorEq,Nat.reduceAdd,Nat.reduceSub,Nat.reduceEqDiff,Nat.reduceLeDiff,Int.reduceToNat,Int.reduceLE,Int.reduceLT,Int.reduceAdd,Int.reduceNeg,Nat.reduceMul,T10,d0,x0,buildA,fillA,AV.boxable]
  exact bad 2 X _ xn xo hR
 have d0:decide ((s.length:Int)>1048576)=false:=by simp;omega
 simp (maxSteps:=400000) only[wF,storeA,reduceCtorEq,Nat.reduceAdd,Nat.reduceSub,Nat.reduceEqDiff,Nat.reduceLeDiff,Int.reduceToNat,Int.reduceLE,Int.reduceLT,Int.reduceAdd,Int.reduceNeg,Nat.reduceMul,T10,d0]
 refine AInv.pureK B26 (r_isText_ok G (by omega)) fun J k1=>?_
 have p1:=k1.1
 replace x0:=(congrFun k1.2 _).trans x0
 replace xo:∀j,j<H.next→J.get j=H.get j:=fun j hj=>(congrFun k1.2 _).trans (xo j hj)
 replace xn:H.next+1≤J.next:=by omega
 clear k1 p1
 cases hT:isTextS s with
 | false=>
  have hR:htmlS s = .error 10:=by unfold htmlS;rw[if_neg hlong,hT,if_pos rfl]
  simp (maxSteps:=400000) only[wF,storeA,reduceCtorEq,Nat.reduceAdd,Nat.reduceSub,Nat.reduceEqDiff,Nat.reduceLeDiff,Int.reduceToNat,Int.reduceLE,Int.reduceLT,Int.reduceAdd,Int.reduceNeg,Nat.reduceMul,T10,Bool.not_false,x0,buildA,fillA,AV.boxable]
  exact bad 10 J _ xn xo hR
 | true=>
 have hR:htmlS s=match eventsHS s with
   | .error e => .error e
   | .ok l=>buildS l:=by unfold htmlS;rw[if_neg hlong,hT,if_neg (by simp)];rfl
 simp (maxSteps:=400000) only[wF,storeA,reduceCtorEq,Nat.reduceAdd,Nat.reduceSub,Nat.reduceEqDiff,Nat.reduceLeDiff,Int.reduceToNat,Int.reduceLE,Int.reduceLT,Int.reduceAdd,Int.reduceNeg,Nat.reduceMul,T10,Bool.not_true]
 refine AInv.retK B27 (q_events_ok G hs J) (fun v J2 hq=>?_) (fun v J2 hq=>by cases hq.1)
 obtain⟨hq,h2⟩:=hq
 cases hq
 have p2:=h2.1
 replace x0:=(h2.2 _ (by omega)).trans x0
 replace xo:∀j,j<H.next→J2.get j=H.get j:=fun j hj=>(h2.2 _ (by omega)).trans (xo j hj)
 rw[eventsRS_eq]
 cases he:eventsHS s with
 | error c=>
  rw[he]at hR
  have hc:1≤c:=by
   have:=eventsRS_eq s
   rw[he]at this
   exact eventsRF_err _ _ _ _ _ this
  have d1:((c:Int) != 0)=true:=by rw[bne_iff_ne];omega
  simp (maxSteps:=400000) only[wF,storeA,reduceCtorEq,Nat.reduceAdd,Nat.reduceSub,Nat.reduceEqDiff,Nat.reduceLeDiff,Int.reduceToNat,Int.reduceLE,Int.reduceLT,Int.reduceAdd,Int.reduceNeg,Nat.reduceMul,T10,eventsV,d1,x0,buildA,fillA,AV.boxable]
  exact bad c J2 _ (by omega) xo hR
 | ok l=>
  rw[he]at hR
  simp only at hR
  obtain⟨b1,b2⟩:=eventsHS_EvB he
  have d1:((0:Int) != 0)=false:=rfl
  simp (maxSteps:=400000) only[wF,storeA,reduceCtorEq,Nat.reduceAdd,Nat.reduceSub,Nat.reduceEqDiff,Nat.reduceLeDiff,Int.reduceToNat,Int.reduceLE,Int.reduceLT,Int.reduceAdd,Int.reduceNeg,Nat.reduceMul,T10,eventsV,d1]
  refine AInv.retK B28 (e_build_ok G (by omega) (fun x hx=>(b1 x hx).mono (by omega))) (fun v J3 hq=>?_) (fun v J3 hq=>by cases hq.1)
  obtain⟨hq,h3⟩:=hq
  cases hq
  have p3:=h3.1
  replace x0:=(h3.2 _ (by omega)).trans x0
  replace xo:∀j,j<H.next→J3.get j=H.get j:=fun j hj=>(h3.2 _ (by omega)).trans (xo j hj)
  rw[hR]
  have fin:∀o:AObj,Kept H (J3.set H.next o):=fun o=>⟨by simp only[AHeap.next_set];omega,fun j hj=>by rw[AHeap.get_set_ne _ _ (by omega)];exact xo j hj⟩
  cases hb:buildS l with
  | error e=>
   simp (maxSteps:=400000) only[wF,storeA,reduceCtorEq,Nat.reduceAdd,Nat.reduceSub,Nat.reduceEqDiff,Nat.reduceLeDiff,Int.reduceToNat,Int.reduceLE,Int.reduceLT,Int.reduceAdd,Int.reduceNeg,Nat.reduceMul,T10,treeA,x0,AV.boxable]
   exact⟨_,_,Weak.refl G _ _,rfl,fin _⟩
  | ok m=>
   simp (maxSteps:=400000) only[wF,storeA,reduceCtorEq,Nat.reduceAdd,Nat.reduceSub,Nat.reduceEqDiff,Nat.reduceLeDiff,Int.reduceToNat,Int.reduceLE,Int.reduceLT,Int.reduceAdd,Int.reduceNeg,Nat.reduceMul,T10,treeA,x0,AV.boxable]
   exact⟨_,_,Weak.refl G _ _,rfl,fin _⟩
end Go.Ab
namespace Go.Ab
open Go Go.Lib Go.Proofs
theorem treeA_form (o:Except Nat (List Nd)) (h:∀m,o = .ok m→m.length≤65536):∃(m:List Nd) (c:Nat),treeA o = .tup [.agg [.lst m.length (ndsH m)],.int .i64 c]∧m.length≤65536:=by
 cases o with
 | error e=>exact⟨[],e,rfl,by simp⟩
 | ok m=>exact⟨m,0,rfl,h m rfl⟩
theorem htmlS_len {s:List UInt8} {m:List Nd} (h:htmlS s = .ok m):m.length≤65536:=by
 unfold htmlS at h
 split at h
 ·cases h
 split at h
 ·cases h
 split at h
 ·cases h
 ·exact buildS_len h
set_option maxHeartbeats 4000000 in
set_option maxRecDepth 100000 in
theorem reparseReads_ok {G:Nat→Option (List AV)} (E:Env G) (B:EnvB G) (P:EnvP G) (X:EnvH G) (T:EnvT G) (text:List UInt8) (H:AHeap) :
  ACalls Tryz.prog G 3 [.str text] H fun r H'=>r = .ret (.bool true)∧Kept H H':=by
 refine ACalls.of Tryz.func3 S3_eq R3 N3 rfl rfl ?_
 by_cases hl:3000<text.length
 ·have d0:decide ((text.length:Int)>3000)=true:=by simp;omega
  simp (maxSteps:=400000) only[wF,storeA,reduceCtorEq,Nat.reduceAdd,Nat.reduceSub,Nat.reduceEqDiff,Nat.reduceLeDiff,Int.reduceToNat,Int.reduceLE,Int.reduceLT,Int.reduceAdd,Int.reduceNeg,Nat.reduceMul,S3,N3,R3,T3,d0]
  refine AInv.retK B8 (hl_works_ok E B P X T H) (fun v J hq=>?_) (fun v J hq=>by cases hq.1)
  obtain⟨hq,h1⟩:=hq
  cases hq
  simp (maxSteps:=400000) only[wF,storeA,reduceCtorEq,Nat.reduceAdd,Nat.reduceSub,Nat.reduceEqDiff,Nat.reduceLeDiff,Int.reduceToNat,Int.reduceLE,Int.reduceLT,Int.reduceAdd,Int.reduceNeg,Nat.reduceMul,T3]
  exact h1
 have d0:decide ((text.length:Int)>3000)=false:=by simp;omega
 simp (maxSteps:=400000) only[wF,storeA,reduceCtorEq,Nat.reduceAdd,Nat.reduceSub,Nat.reduceEqDiff,Nat.reduceLeDiff,Int.reduceToNat,Int.reduceLE,Int.reduceLT,Int.reduceAdd,Int.reduceNeg,Nat.reduceMul,S3,N3,R3,T3,d0]
 obtain⟨m,c,hm,hml⟩:=treeA_form (htmlS text) fun m h=>htmlS_len h
 refine AInv.retK B9 (h_html_ok E B P X (t_build_ok E X T) text H) (fun v J hq=>?_) (fun v J hq=>by cases hq.1)
 obtain⟨hq,h1⟩:=hq
 rw[hm]at hq
 cases hq
 have p1:=h1.1
 simp (maxSteps:=400000) only[wF,storeA,reduceCtorEq,Nat.reduceAdd,Nat.reduceSub,Nat.reduceEqDiff,Nat.reduceLeDiff,Int.reduceToNat,Int.reduceLE,Int.reduceLT,Int.reduceAdd,Int.reduceNeg,Nat.reduceMul,T3,AV.boxable]
 generalize hX1:AHeap.set (AHeap.allocAt J J.next _) J.next _=J1
 have x0:J1.get J.next=some (.cells 25 [.lst m.length (ndsH m)]):=by rw[←hX1,AHeap.get_set_same]
 have xn:J1.next=J.next+1:=by rw[←hX1];simp only[AHeap.next_set,AHeap.next_allocAt];omega
 have xo:∀j,j<H.next→J1.get j=H.get j:=fun j hj=>by rw[←hX1,AHeap.get_set_ne _ _ (by omega),AHeap.get_allocAt_ne _ _ (by omega)];exact h1.2 j hj
 clear hX1
 refine AInv.retK B10 (q_html_ok G (by omega) J1) (fun v J2 hq=>?_) (fun v J2 hq=>by cases hq.1)
 obtain⟨hq,h2⟩:=hq
 rw[hm]at hq
 cases hq
 have p2:=h2.1
 replace x0:=(h2.2 _ (by omega)).trans x0
 replace xo:∀j,j<H.next→J2.get j=H.get j:=fun j hj=>(h2.2 _ (by omega)).trans (xo j hj)
 have hcc:((c:Int)==(c:Int))=true:=by simp
 have u1:(J.next=J2.next)=False:=eq_false (by omega)
 have u2:(J2.next=J.next)=False:=eq_false (by omega)
 simp (maxSteps:=400000) only[wF,storeA,reduceCtorEq,Nat.reduceAdd,Nat.reduceSub,Nat.reduceEqDiff,Nat.reduceLeDiff,Int.reduceToNat,Int.reduceLE,Int.reduceLT,Int.reduceAdd,Int.reduceNeg,Nat.reduceMul,T3,AV.boxable,hcc,x0,u1,u2]
 refine AInv.pureK B11 (e_equal_ok G (by omega)) fun J3 k3=>?_
 have p3:=k3.1
 simp only[AHeap.next_set,AHeap.next_allocAt]at p3
 have hmm:decide (m=m)=true:=by simp
 rw[hmm]
 simp (maxSteps:=400000) only[wF,storeA,reduceCtorEq,Nat.reduceAdd,Nat.reduceSub,Nat.reduceEqDiff,Nat.reduceLeDiff,Int.reduceToNat,Int.reduceLE,Int.reduceLT,Int.reduceAdd,Int.reduceNeg,Nat.reduceMul,T3]
 refine AInv.retK B8 (hl_works_ok E B P X T J3) (fun v J4 hq=>?_) (fun v J4 hq=>by cases hq.1)
 obtain⟨hq,h4⟩:=hq
 cases hq
 have p4:=h4.1
 simp (maxSteps:=400000) only[wF,storeA,reduceCtorEq,Nat.reduceAdd,Nat.reduceSub,Nat.reduceEqDiff,Nat.reduceLeDiff,Int.reduceToNat,Int.reduceLE,Int.reduceLT,Int.reduceAdd,Int.reduceNeg,Nat.reduceMul,T3]
 refine⟨by omega,fun j hj=>?_⟩
 rw[h4.2 j (by omega),k3.2,AHeap.get_set_ne _ _ (by omega),AHeap.get_allocAt_ne _ _ (by omega)]
 exact xo j hj
end Go.Ab
