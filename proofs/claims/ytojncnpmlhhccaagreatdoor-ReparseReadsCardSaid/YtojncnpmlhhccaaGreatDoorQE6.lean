/- The reference of tree: event, walked. -/
import Derived.Test.YtojncnpmlhhccaaGreatDoorQE5
import Derived.Test.YtojncnpmlhhccaaGreatDoorQ10
set_option linter.all false
namespace Go.Ab
open Go Go.Lib Go.Proofs
set_option maxHeartbeats 8000000 in
set_option maxRecDepth 100000 in
theorem e_event0_ok (G:Nat→Option (List AV)) {t:TSt} {x:Ev} {m:Nat} {H:AHeap} (hk:x.kind=0) (hd:DOk t) (htx:TxOk t) (hx:EvB 10000000 x) (hm:H.get m=some (.row 36 4 (ndsH t.l))) (hmn:m<H.next) :
  ACalls Tryz.prog G 72 [stV m t,.agg (evH x)] H (EPo (evR t x) m H):=by
 refine ACalls.of Tryz.func72 S72_eq R72 N72 rfl rfl ?_
 have u1:(H.next=H.next+1)=False:=by simp
 have u2:(H.next+1=H.next)=False:=by simp
 have u3:(H.next=H.next+2)=False:=by simp
 have u4:(H.next+2=H.next)=False:=by simp
 have u5:(H.next+1=H.next+2)=False:=by simp
 have u6:(H.next+2=H.next+1)=False:=by simp
 have u7:H.next+1+1=H.next+2:=by omega
 have hone:=atH_one x.attrs
 have z0:((x.kind:Int)==0)=true:=by rw[hk];rfl
 simp (maxSteps:=400000) only[wF,storeA,reduceCtorEq,Nat.reduceAdd,Nat.reduceSub,Nat.reduceEqDiff,Nat.reduceLeDiff,Int.reduceToNat,Int.reduceLE,Int.reduceLT,Int.reduceAdd,Int.reduceNeg,Nat.reduceMul,S72,N72,R72,T72,stV,evH,AV.boxable,hone,u1,u2,u3,u4,u5,u6,u7,z0]
 generalize hX0:AHeap.allocAt _ (H.next+2) _=X
 have x0:X.get H.next=some (.cells 119 [.slc m t.l.length,.int .i64 t.op,.int .i64 t.bytes]):=by
  rw[←hX0,AHeap.get_allocAt_ne _ _ (by omega),AHeap.get_allocAt_ne _ _ (by omega),AHeap.get_allocAt_same]
 have x1:X.get (H.next+1)=some (.cells 88 [.int .i64 x.kind,.str x.name,.str x.text,atH x.attrs,.int .i64 x.line,.int .i64 x.col]):=by
  rw[←hX0,AHeap.get_allocAt_ne _ _ (by omega),AHeap.get_allocAt_same]
 have x2:X.get (H.next+2)=some (.cells 119 [.nils,.int .i64 0,.int .i64 0]):=by
  rw[←hX0,AHeap.get_allocAt_same]
 have xn:H.next+3≤X.next:=by rw[←hX0];simp only[AHeap.next_allocAt];omega
 have xo:∀j,j<H.next→X.get j=H.get j:=fun j hj=>by rw[←hX0,AHeap.get_allocAt_ne _ _ (by omega),AHeap.get_allocAt_ne _ _ (by omega),AHeap.get_allocAt_ne _ _ (by omega)]
 clear hX0
 have xm:=(xo m hmn).trans hm
 have stay:∀(e:Nat) (J:AHeap) (o:AObj),J.get m=some (.row 36 4 (ndsH t.l))→H.next+3≤J.next→(∀j,j<H.next→J.get j=H.get j)→EPo (e,t) m H (.ret (.tup [stV m t,.int .i64 e])) (J.set (H.next+2) o):=fun e J o a b c=>
  ⟨m,rfl,by rw[AHeap.get_set_ne _ _ (by omega)];exact a,.inl rfl,by simp only[AHeap.next_set];omega,by simp only[AHeap.next_set];omega,fun j hj _=>by rw[AHeap.get_set_ne _ _ (by omega)];exact c j hj⟩
 have done:∀{p:Nat × TSt} {J:AHeap} {r:ARes} {J2:AHeap},EPo p m J r J2→H.next+3≤J.next→(∀j,j<H.next→J.get j=H.get j)→∃m',r = .ret (.tup [stV m' p.2,.int .i64 p.1])∧J2.get (H.next+2)=J.get (H.next+2)∧∀o:AObj,EPo p m H (.ret (.tup [stV m' p.2,.int .i64 p.1])) (J2.set (H.next+2) o):=fun {p J r J2} h hn ho=>by
  obtain⟨m1,h1,h2,h3,h4,h5,h6⟩:=h
  refine⟨m1,h1,h6 _ (by omega) (by omega),fun o=>⟨m1,rfl,by rw[AHeap.get_set_ne _ _ (by omega)];exact h2,by omega,by simp only[AHeap.next_set];omega,by simp only[AHeap.next_set];omega,fun j hj hjm=>?_⟩⟩
  rw[AHeap.get_set_ne _ _ (by omega),h6 j (by omega) hjm]
  exact ho j hj
 have hev:evR t x=beginR t x:=by simp only[evR,hk]
 rw[hev]
 refine AInv.call B111 (e_start_ok G (m:=m) hd hx xm (by omega)) fun r J2 h=>?_
 obtain⟨m1,rfl,h2,h3⟩:=done h xn xo
 have y2:=h2.trans x2
 simp (maxSteps:=400000) only[wF,storeA,reduceCtorEq,Nat.reduceAdd,Nat.reduceSub,Nat.reduceEqDiff,Nat.reduceLeDiff,Int.reduceToNat,Int.reduceLE,Int.reduceLT,Int.reduceAdd,Int.reduceNeg,Nat.reduceMul,T72,stV,y2]
 exact h3 _
set_option maxHeartbeats 8000000 in
set_option maxRecDepth 100000 in
theorem e_event2_ok (G:Nat→Option (List AV)) {t:TSt} {x:Ev} {m:Nat} {H:AHeap} (hk:x.kind=2) (hd:DOk t) (htx:TxOk t) (hx:EvB 10000000 x) (hm:H.get m=some (.row 36 4 (ndsH t.l))) (hmn:m<H.next) :
  ACalls Tryz.prog G 72 [stV m t,.agg (evH x)] H (EPo (evR t x) m H):=by
 refine ACalls.of Tryz.func72 S72_eq R72 N72 rfl rfl ?_
 have u1:(H.next=H.next+1)=False:=by simp
 have u2:(H.next+1=H.next)=False:=by simp
 have u3:(H.next=H.next+2)=False:=by simp
 have u4:(H.next+2=H.next)=False:=by simp
 have u5:(H.next+1=H.next+2)=False:=by simp
 have u6:(H.next+2=H.next+1)=False:=by simp
 have u7:H.next+1+1=H.next+2:=by omega
 have hone:=atH_one x.attrs
 have z0:((x.kind:Int)==0)=false:=by rw[hk];rfl
 have z1:((x.kind:Int)==1)=false:=by rw[hk];rfl
 have z2:((x.kind:Int)==2)=true:=by rw[hk];rfl
 simp (maxSteps:=400000) only[wF,storeA,reduceCtorEq,Nat.reduceAdd,Nat.reduceSub,Nat.reduceEqDiff,Nat.reduceLeDiff,Int.reduceToNat,Int.reduceLE,Int.reduceLT,Int.reduceAdd,Int.reduceNeg,Nat.reduceMul,S72,N72,R72,T72,stV,evH,AV.boxable,hone,u1,u2,u3,u4,u5,u6,u7,z0,z1,z2]
 generalize hX0:AHeap.allocAt _ (H.next+2) _=X
 have x0:X.get H.next=some (.cells 119 [.slc m t.l.length,.int .i64 t.op,.int .i64 t.bytes]):=by
  rw[←hX0,AHeap.get_allocAt_ne _ _ (by omega),AHeap.get_allocAt_ne _ _ (by omega),AHeap.get_allocAt_same]
 have x1:X.get (H.next+1)=some (.cells 88 [.int .i64 x.kind,.str x.name,.str x.text,atH x.attrs,.int .i64 x.line,.int .i64 x.col]):=by
  rw[←hX0,AHeap.get_allocAt_ne _ _ (by omega),AHeap.get_allocAt_same]
 have x2:X.get (H.next+2)=some (.cells 119 [.nils,.int .i64 0,.int .i64 0]):=by
  rw[←hX0,AHeap.get_allocAt_same]
 have xn:H.next+3≤X.next:=by rw[←hX0];simp only[AHeap.next_allocAt];omega
 have xo:∀j,j<H.next→X.get j=H.get j:=fun j hj=>by rw[←hX0,AHeap.get_allocAt_ne _ _ (by omega),AHeap.get_allocAt_ne _ _ (by omega),AHeap.get_allocAt_ne _ _ (by omega)]
 clear hX0
 have xm:=(xo m hmn).trans hm
 have stay:∀(e:Nat) (J:AHeap) (o:AObj),J.get m=some (.row 36 4 (ndsH t.l))→H.next+3≤J.next→(∀j,j<H.next→J.get j=H.get j)→EPo (e,t) m H (.ret (.tup [stV m t,.int .i64 e])) (J.set (H.next+2) o):=fun e J o a b c=>
  ⟨m,rfl,by rw[AHeap.get_set_ne _ _ (by omega)];exact a,.inl rfl,by simp only[AHeap.next_set];omega,by simp only[AHeap.next_set];omega,fun j hj _=>by rw[AHeap.get_set_ne _ _ (by omega)];exact c j hj⟩
 have done:∀{p:Nat × TSt} {J:AHeap} {r:ARes} {J2:AHeap},EPo p m J r J2→H.next+3≤J.next→(∀j,j<H.next→J.get j=H.get j)→∃m',r = .ret (.tup [stV m' p.2,.int .i64 p.1])∧J2.get (H.next+2)=J.get (H.next+2)∧∀o:AObj,EPo p m H (.ret (.tup [stV m' p.2,.int .i64 p.1])) (J2.set (H.next+2) o):=fun {p J r J2} h hn ho=>by
  obtain⟨m1,h1,h2,h3,h4,h5,h6⟩:=h
  refine⟨m1,h1,h6 _ (by omega) (by omega),fun o=>⟨m1,rfl,by rw[AHeap.get_set_ne _ _ (by omega)];exact h2,by omega,by simp only[AHeap.next_set];omega,by simp only[AHeap.next_set];omega,fun j hj hjm=>?_⟩⟩
  rw[AHeap.get_set_ne _ _ (by omega),h6 j (by omega) hjm]
  exact ho j hj
 have hev:evR t x=txtR t x.text:=by simp only[evR,hk]
 rw[hev]
 refine AInv.call B113 (e_text_ok G (m:=m) hd htx (by have:=hx.2.1;omega) xm (by omega)) fun r J2 h=>?_
 obtain⟨m1,rfl,h2,h3⟩:=done h xn xo
 have y2:=h2.trans x2
 simp (maxSteps:=400000) only[wF,storeA,reduceCtorEq,Nat.reduceAdd,Nat.reduceSub,Nat.reduceEqDiff,Nat.reduceLeDiff,Int.reduceToNat,Int.reduceLE,Int.reduceLT,Int.reduceAdd,Int.reduceNeg,Nat.reduceMul,T72,stV,y2]
 exact h3 _
set_option maxHeartbeats 8000000 in
set_option maxRecDepth 100000 in
theorem e_event3_ok (G:Nat→Option (List AV)) {t:TSt} {x:Ev} {m:Nat} {H:AHeap} (hk:x.kind=3) (hd:DOk t) (htx:TxOk t) (hx:EvB 10000000 x) (hm:H.get m=some (.row 36 4 (ndsH t.l))) (hmn:m<H.next) :
  ACalls Tryz.prog G 72 [stV m t,.agg (evH x)] H (EPo (evR t x) m H):=by
 refine ACalls.of Tryz.func72 S72_eq R72 N72 rfl rfl ?_
 have u1:(H.next=H.next+1)=False:=by simp
 have u2:(H.next+1=H.next)=False:=by simp
 have u3:(H.next=H.next+2)=False:=by simp
 have u4:(H.next+2=H.next)=False:=by simp
 have u5:(H.next+1=H.next+2)=False:=by simp
 have u6:(H.next+2=H.next+1)=False:=by simp
 have u7:H.next+1+1=H.next+2:=by omega
 have hone:=atH_one x.attrs
 have z0:((x.kind:Int)==0)=false:=by rw[hk];rfl
 have z1:((x.kind:Int)==1)=false:=by rw[hk];rfl
 have z2:((x.kind:Int)==2)=false:=by rw[hk];rfl
 have z3:((x.kind:Int)==3)=true:=by rw[hk];rfl
 simp (maxSteps:=400000) only[wF,storeA,reduceCtorEq,Nat.reduceAdd,Nat.reduceSub,Nat.reduceEqDiff,Nat.reduceLeDiff,Int.reduceToNat,Int.reduceLE,Int.reduceLT,Int.reduceAdd,Int.reduceNeg,Nat.reduceMul,S72,N72,R72,T72,stV,evH,AV.boxable,hone,u1,u2,u3,u4,u5,u6,u7,z0,z1,z2,z3]
 generalize hX0:AHeap.allocAt _ (H.next+2) _=X
 have x0:X.get H.next=some (.cells 119 [.slc m t.l.length,.int .i64 t.op,.int .i64 t.bytes]):=by
  rw[←hX0,AHeap.get_allocAt_ne _ _ (by omega),AHeap.get_allocAt_ne _ _ (by omega),AHeap.get_allocAt_same]
 have x1:X.get (H.next+1)=some (.cells 88 [.int .i64 x.kind,.str x.name,.str x.text,atH x.attrs,.int .i64 x.line,.int .i64 x.col]):=by
  rw[←hX0,AHeap.get_allocAt_ne _ _ (by omega),AHeap.get_allocAt_same]
 have x2:X.get (H.next+2)=some (.cells 119 [.nils,.int .i64 0,.int .i64 0]):=by
  rw[←hX0,AHeap.get_allocAt_same]
 have xn:H.next+3≤X.next:=by rw[←hX0];simp only[AHeap.next_allocAt];omega
 have xo:∀j,j<H.next→X.get j=H.get j:=fun j hj=>by rw[←hX0,AHeap.get_allocAt_ne _ _ (by omega),AHeap.get_allocAt_ne _ _ (by omega),AHeap.get_allocAt_ne _ _ (by omega)]
 clear hX0
 have xm:=(xo m hmn).trans hm
 have stay:∀(e:Nat) (J:AHeap) (o:AObj),J.get m=some (.row 36 4 (ndsH t.l))→H.next+3≤J.next→(∀j,j<H.next→J.get j=H.get j)→EPo (e,t) m H (.ret (.tup [stV m t,.int .i64 e])) (J.set (H.next+2) o):=fun e J o a b c=>
  ⟨m,rfl,by rw[AHeap.get_set_ne _ _ (by omega)];exact a,.inl rfl,by simp only[AHeap.next_set];omega,by simp only[AHeap.next_set];omega,fun j hj _=>by rw[AHeap.get_set_ne _ _ (by omega)];exact c j hj⟩
 have done:∀{p:Nat × TSt} {J:AHeap} {r:ARes} {J2:AHeap},EPo p m J r J2→H.next+3≤J.next→(∀j,j<H.next→J.get j=H.get j)→∃m',r = .ret (.tup [stV m' p.2,.int .i64 p.1])∧J2.get (H.next+2)=J.get (H.next+2)∧∀o:AObj,EPo p m H (.ret (.tup [stV m' p.2,.int .i64 p.1])) (J2.set (H.next+2) o):=fun {p J r J2} h hn ho=>by
  obtain⟨m1,h1,h2,h3,h4,h5,h6⟩:=h
  refine⟨m1,h1,h6 _ (by omega) (by omega),fun o=>⟨m1,rfl,by rw[AHeap.get_set_ne _ _ (by omega)];exact h2,by omega,by simp only[AHeap.next_set];omega,by simp only[AHeap.next_set];omega,fun j hj hjm=>?_⟩⟩
  rw[AHeap.get_set_ne _ _ (by omega),h6 j (by omega) hjm]
  exact ho j hj
 have hev:evR t x=othR t 4 [] x.text:=by simp only[evR,hk]
 rw[hev]
 refine AInv.pureK B114 (e_allowed4_ok G (by have:=hx.2.1;omega)) fun J k1=>?_
 have p1:=k1.1
 replace x0:=(congrFun k1.2 _).trans x0
 replace x1:=(congrFun k1.2 _).trans x1
 replace x2:=(congrFun k1.2 _).trans x2
 replace xm:=(congrFun k1.2 _).trans xm
 replace xo:∀j,j<H.next→J.get j=H.get j:=fun j hj=>(congrFun k1.2 _).trans (xo j hj)
 replace xn:H.next+3≤J.next:=by omega
 clear k1 p1
 unfold othR
 cases hA:allowedS 4 [] x.text with
 | false=>
  rw[if_pos rfl]
  simp (maxSteps:=400000) only[wF,storeA,reduceCtorEq,Nat.reduceAdd,Nat.reduceSub,Nat.reduceEqDiff,Nat.reduceLeDiff,Int.reduceToNat,Int.reduceLE,Int.reduceLT,Int.reduceAdd,Int.reduceNeg,Nat.reduceMul,T72,Bool.not_false,x0,x2,u1,u2,u3,u4,u5,u6]
  exact stay 1 J _ xm xn xo
 | true=>
 rw[if_neg (by simp)]
 simp (maxSteps:=400000) only[wF,storeA,reduceCtorEq,Nat.reduceAdd,Nat.reduceSub,Nat.reduceEqDiff,Nat.reduceLeDiff,Int.reduceToNat,Int.reduceLE,Int.reduceLT,Int.reduceAdd,Int.reduceNeg,Nat.reduceMul,T72,Bool.not_true,x0,x1,u1,u2,u3,u4,u5,u6]
 refine AInv.call B115 (e_add_ok G (m:=m) (kind:=4) (name:=[]) hd (by have:=hx.2.1;omega) xm (by omega)) fun r J2 h=>?_
 obtain⟨m1,rfl,h2,h3⟩:=done h xn xo
 have y2:=h2.trans x2
 simp (maxSteps:=400000) only[wF,storeA,reduceCtorEq,Nat.reduceAdd,Nat.reduceSub,Nat.reduceEqDiff,Nat.reduceLeDiff,Int.reduceToNat,Int.reduceLE,Int.reduceLT,Int.reduceAdd,Int.reduceNeg,Nat.reduceMul,T72,stV,y2]
 exact h3 _
set_option maxHeartbeats 8000000 in
set_option maxRecDepth 100000 in
theorem e_event4_ok (G:Nat→Option (List AV)) {t:TSt} {x:Ev} {m:Nat} {H:AHeap} (hk:x.kind=4) (hd:DOk t) (htx:TxOk t) (hx:EvB 10000000 x) (hm:H.get m=some (.row 36 4 (ndsH t.l))) (hmn:m<H.next) :
  ACalls Tryz.prog G 72 [stV m t,.agg (evH x)] H (EPo (evR t x) m H):=by
 refine ACalls.of Tryz.func72 S72_eq R72 N72 rfl rfl ?_
 have u1:(H.next=H.next+1)=False:=by simp
 have u2:(H.next+1=H.next)=False:=by simp
 have u3:(H.next=H.next+2)=False:=by simp
 have u4:(H.next+2=H.next)=False:=by simp
 have u5:(H.next+1=H.next+2)=False:=by simp
 have u6:(H.next+2=H.next+1)=False:=by simp
 have u7:H.next+1+1=H.next+2:=by omega
 have hone:=atH_one x.attrs
 have z0:((x.kind:Int)==0)=false:=by rw[hk];rfl
 have z1:((x.kind:Int)==1)=false:=by rw[hk];rfl
 have z2:((x.kind:Int)==2)=false:=by rw[hk];rfl
 have z3:((x.kind:Int)==3)=false:=by rw[hk];rfl
 have z4:((x.kind:Int)==4)=true:=by rw[hk];rfl
 simp (maxSteps:=400000) only[wF,storeA,reduceCtorEq,Nat.reduceAdd,Nat.reduceSub,Nat.reduceEqDiff,Nat.reduceLeDiff,Int.reduceToNat,Int.reduceLE,Int.reduceLT,Int.reduceAdd,Int.reduceNeg,Nat.reduceMul,S72,N72,R72,T72,stV,evH,AV.boxable,hone,u1,u2,u3,u4,u5,u6,u7,z0,z1,z2,z3,z4]
 generalize hX0:AHeap.allocAt _ (H.next+2) _=X
 have x0:X.get H.next=some (.cells 119 [.slc m t.l.length,.int .i64 t.op,.int .i64 t.bytes]):=by
  rw[←hX0,AHeap.get_allocAt_ne _ _ (by omega),AHeap.get_allocAt_ne _ _ (by omega),AHeap.get_allocAt_same]
 have x1:X.get (H.next+1)=some (.cells 88 [.int .i64 x.kind,.str x.name,.str x.text,atH x.attrs,.int .i64 x.line,.int .i64 x.col]):=by
  rw[←hX0,AHeap.get_allocAt_ne _ _ (by omega),AHeap.get_allocAt_same]
 have x2:X.get (H.next+2)=some (.cells 119 [.nils,.int .i64 0,.int .i64 0]):=by
  rw[←hX0,AHeap.get_allocAt_same]
 have xn:H.next+3≤X.next:=by rw[←hX0];simp only[AHeap.next_allocAt];omega
 have xo:∀j,j<H.next→X.get j=H.get j:=fun j hj=>by rw[←hX0,AHeap.get_allocAt_ne _ _ (by omega),AHeap.get_allocAt_ne _ _ (by omega),AHeap.get_allocAt_ne _ _ (by omega)]
 clear hX0
 have xm:=(xo m hmn).trans hm
 have stay:∀(e:Nat) (J:AHeap) (o:AObj),J.get m=some (.row 36 4 (ndsH t.l))→H.next+3≤J.next→(∀j,j<H.next→J.get j=H.get j)→EPo (e,t) m H (.ret (.tup [stV m t,.int .i64 e])) (J.set (H.next+2) o):=fun e J o a b c=>
  ⟨m,rfl,by rw[AHeap.get_set_ne _ _ (by omega)];exact a,.inl rfl,by simp only[AHeap.next_set];omega,by simp only[AHeap.next_set];omega,fun j hj _=>by rw[AHeap.get_set_ne _ _ (by omega)];exact c j hj⟩
 have done:∀{p:Nat × TSt} {J:AHeap} {r:ARes} {J2:AHeap},EPo p m J r J2→H.next+3≤J.next→(∀j,j<H.next→J.get j=H.get j)→∃m',r = .ret (.tup [stV m' p.2,.int .i64 p.1])∧J2.get (H.next+2)=J.get (H.next+2)∧∀o:AObj,EPo p m H (.ret (.tup [stV m' p.2,.int .i64 p.1])) (J2.set (H.next+2) o):=fun {p J r J2} h hn ho=>by
  obtain⟨m1,h1,h2,h3,h4,h5,h6⟩:=h
  refine⟨m1,h1,h6 _ (by omega) (by omega),fun o=>⟨m1,rfl,by rw[AHeap.get_set_ne _ _ (by omega)];exact h2,by omega,by simp only[AHeap.next_set];omega,by simp only[AHeap.next_set];omega,fun j hj hjm=>?_⟩⟩
  rw[AHeap.get_set_ne _ _ (by omega),h6 j (by omega) hjm]
  exact ho j hj
 have hev:evR t x=othR t 5 x.name x.text:=by simp only[evR,hk]
 rw[hev]
 refine AInv.pureK B114 (e_allowed5_ok G (by have:=hx.1;omega) (by have:=hx.2.1;omega)) fun J k1=>?_
 have p1:=k1.1
 replace x0:=(congrFun k1.2 _).trans x0
 replace x1:=(congrFun k1.2 _).trans x1
 replace x2:=(congrFun k1.2 _).trans x2
 replace xm:=(congrFun k1.2 _).trans xm
 replace xo:∀j,j<H.next→J.get j=H.get j:=fun j hj=>(congrFun k1.2 _).trans (xo j hj)
 replace xn:H.next+3≤J.next:=by omega
 clear k1 p1
 unfold othR
 cases hA:allowedS 5 x.name x.text with
 | false=>
  rw[if_pos rfl]
  simp (maxSteps:=400000) only[wF,storeA,reduceCtorEq,Nat.reduceAdd,Nat.reduceSub,Nat.reduceEqDiff,Nat.reduceLeDiff,Int.reduceToNat,Int.reduceLE,Int.reduceLT,Int.reduceAdd,Int.reduceNeg,Nat.reduceMul,T72,Bool.not_false,x0,x2,u1,u2,u3,u4,u5,u6]
  exact stay 1 J _ xm xn xo
 | true=>
 rw[if_neg (by simp)]
 simp (maxSteps:=400000) only[wF,storeA,reduceCtorEq,Nat.reduceAdd,Nat.reduceSub,Nat.reduceEqDiff,Nat.reduceLeDiff,Int.reduceToNat,Int.reduceLE,Int.reduceLT,Int.reduceAdd,Int.reduceNeg,Nat.reduceMul,T72,Bool.not_true,x0,x1,u1,u2,u3,u4,u5,u6]
 refine AInv.call B115 (e_add_ok G (m:=m) (kind:=5) (name:=x.name) hd (by have:=hx.2.1;omega) xm (by omega)) fun r J2 h=>?_
 obtain⟨m1,rfl,h2,h3⟩:=done h xn xo
 have y2:=h2.trans x2
 simp (maxSteps:=400000) only[wF,storeA,reduceCtorEq,Nat.reduceAdd,Nat.reduceSub,Nat.reduceEqDiff,Nat.reduceLeDiff,Int.reduceToNat,Int.reduceLE,Int.reduceLT,Int.reduceAdd,Int.reduceNeg,Nat.reduceMul,T72,stV,y2]
 exact h3 _
set_option maxHeartbeats 8000000 in
set_option maxRecDepth 100000 in
theorem e_event1_ok (G:Nat→Option (List AV)) {t:TSt} {x:Ev} {m:Nat} {H:AHeap} (hk:x.kind=1) (hd:DOk t) (htx:TxOk t) (hx:EvB 10000000 x) (hm:H.get m=some (.row 36 4 (ndsH t.l))) (hmn:m<H.next) :
  ACalls Tryz.prog G 72 [stV m t,.agg (evH x)] H (EPo (evR t x) m H):=by
 refine ACalls.of Tryz.func72 S72_eq R72 N72 rfl rfl ?_
 have u1:(H.next=H.next+1)=False:=by simp
 have u2:(H.next+1=H.next)=False:=by simp
 have u3:(H.next=H.next+2)=False:=by simp
 have u4:(H.next+2=H.next)=False:=by simp
 have u5:(H.next+1=H.next+2)=False:=by simp
 have u6:(H.next+2=H.next+1)=False:=by simp
 have u7:H.next+1+1=H.next+2:=by omega
 have hone:=atH_one x.attrs
 have z0:((x.kind:Int)==0)=false:=by rw[hk];rfl
 have z1:((x.kind:Int)==1)=true:=by rw[hk];rfl
 simp (maxSteps:=400000) only[wF,storeA,reduceCtorEq,Nat.reduceAdd,Nat.reduceSub,Nat.reduceEqDiff,Nat.reduceLeDiff,Int.reduceToNat,Int.reduceLE,Int.reduceLT,Int.reduceAdd,Int.reduceNeg,Nat.reduceMul,S72,N72,R72,T72,stV,evH,AV.boxable,hone,u1,u2,u3,u4,u5,u6,u7,z0,z1]
 generalize hX0:AHeap.allocAt _ (H.next+2) _=X
 have x0:X.get H.next=some (.cells 119 [.slc m t.l.length,.int .i64 t.op,.int .i64 t.bytes]):=by
  rw[←hX0,AHeap.get_allocAt_ne _ _ (by omega),AHeap.get_allocAt_ne _ _ (by omega),AHeap.get_allocAt_same]
 have x1:X.get (H.next+1)=some (.cells 88 [.int .i64 x.kind,.str x.name,.str x.text,atH x.attrs,.int .i64 x.line,.int .i64 x.col]):=by
  rw[←hX0,AHeap.get_allocAt_ne _ _ (by omega),AHeap.get_allocAt_same]
 have x2:X.get (H.next+2)=some (.cells 119 [.nils,.int .i64 0,.int .i64 0]):=by
  rw[←hX0,AHeap.get_allocAt_same]
 have xn:H.next+3≤X.next:=by rw[←hX0];simp only[AHeap.next_allocAt];omega
 have xo:∀j,j<H.next→X.get j=H.get j:=fun j hj=>by rw[←hX0,AHeap.get_allocAt_ne _ _ (by omega),AHeap.get_allocAt_ne _ _ (by omega),AHeap.get_allocAt_ne _ _ (by omega)]
 clear hX0
 have xm:=(xo m hmn).trans hm
 have stay:∀(e:Nat) (J:AHeap) (o:AObj),J.get m=some (.row 36 4 (ndsH t.l))→H.next+3≤J.next→(∀j,j<H.next→J.get j=H.get j)→EPo (e,t) m H (.ret (.tup [stV m t,.int .i64 e])) (J.set (H.next+2) o):=fun e J o a b c=>
  ⟨m,rfl,by rw[AHeap.get_set_ne _ _ (by omega)];exact a,.inl rfl,by simp only[AHeap.next_set];omega,by simp only[AHeap.next_set];omega,fun j hj _=>by rw[AHeap.get_set_ne _ _ (by omega)];exact c j hj⟩
 have done:∀{p:Nat × TSt} {J:AHeap} {r:ARes} {J2:AHeap},EPo p m J r J2→H.next+3≤J.next→(∀j,j<H.next→J.get j=H.get j)→∃m',r = .ret (.tup [stV m' p.2,.int .i64 p.1])∧J2.get (H.next+2)=J.get (H.next+2)∧∀o:AObj,EPo p m H (.ret (.tup [stV m' p.2,.int .i64 p.1])) (J2.set (H.next+2) o):=fun {p J r J2} h hn ho=>by
  obtain⟨m1,h1,h2,h3,h4,h5,h6⟩:=h
  refine⟨m1,h1,h6 _ (by omega) (by omega),fun o=>⟨m1,rfl,by rw[AHeap.get_set_ne _ _ (by omega)];exact h2,by omega,by simp only[AHeap.next_set];omega,by simp only[AHeap.next_set];omega,fun j hj hjm=>?_⟩⟩
  rw[AHeap.get_set_ne _ _ (by omega),h6 j (by omega) hjm]
  exact ho j hj
 have hev:evR t x=closeR t x.name:=by simp only[evR,hk]
 rw[hev]
 refine AInv.pureK B112 (r_isName_ok G (by have:=hx.1;omega)) fun J k1=>?_
 have p1:=k1.1
 replace x0:=(congrFun k1.2 _).trans x0
 replace x1:=(congrFun k1.2 _).trans x1
 replace x2:=(congrFun k1.2 _).trans x2
 replace xm:=(congrFun k1.2 _).trans xm
 replace xo:∀j,j<H.next→J.get j=H.get j:=fun j hj=>(congrFun k1.2 _).trans (xo j hj)
 replace xn:H.next+3≤J.next:=by omega
 clear k1 p1
 rw[isNameR_eq]
 unfold closeR
 cases hA:isNameS x.name with
 | false=>
  rw[if_pos rfl]
  simp (maxSteps:=400000) only[wF,storeA,reduceCtorEq,Nat.reduceAdd,Nat.reduceSub,Nat.reduceEqDiff,Nat.reduceLeDiff,Int.reduceToNat,Int.reduceLE,Int.reduceLT,Int.reduceAdd,Int.reduceNeg,Nat.reduceMul,T72,Bool.not_false,x0,x2,u1,u2,u3,u4,u5,u6]
  exact stay 1 J _ xm xn xo
 | true=>
 rw[if_neg (by simp)]
 simp (maxSteps:=400000) only[wF,storeA,reduceCtorEq,Nat.reduceAdd,Nat.reduceSub,Nat.reduceEqDiff,Nat.reduceLeDiff,Int.reduceToNat,Int.reduceLE,Int.reduceLT,Int.reduceAdd,Int.reduceNeg,Nat.reduceMul,T72,Bool.not_true]
 have hop:=hd.op
 have hlen:=hd.len
 have q0:((0:Int)≤(t.op:Int))=True:=by simp
 have q1:((t.op:Int)<(t.l.length:Int))=True:=by simp;omega
 have hcur:t.l[t.op]=t.cur:=by unfold TSt.cur;rw[List.getD_eq_getElem?_getD,List.getElem?_eq_getElem hop];rfl
 have g0:=ndsH_get t.l t.op 0 hop (by omega)
 have g1:=ndsH_get t.l t.op 1 hop (by omega)
 have g3:=ndsH_get t.l t.op 3 hop (by omega)
 rw[hcur]at g0 g1 g3
 simp only[ndH,List.getElem?_cons_zero,List.getElem?_cons_succ,Nat.add_zero]at g0 g1 g3
 have v1:(m=H.next)=False:=eq_false (by omega)
 refine drawW_fixed mixedOrders L72_7_eq P72_7_eq ?_
 by_cases c1:t.cur.kind=1
 case neg=>
  have b1:((t.cur.kind:Int) != 1)=true:=by rw[bne_iff_ne];omega
  rw[if_pos (.inl c1)]
  simp (maxSteps:=400000) only[wF,storeA,reduceCtorEq,Nat.reduceAdd,Nat.reduceSub,Nat.reduceEqDiff,Nat.reduceLeDiff,Int.reduceToNat,Int.reduceLE,Int.reduceLT,Int.reduceAdd,Int.reduceNeg,Nat.reduceMul,L72_7,T72,x0,x1,x2,xm,q0,q1,indexAddrA,g0,g1,b1,Bool.not_false,u1,u2,u3,u4,u5,u6]
  exact stay 110 J _ xm xn xo
 have b1:((t.cur.kind:Int) != 1)=false:=by rw[c1];rfl
 by_cases c2:t.cur.name=x.name
 case neg=>
  have b2:(t.cur.name==x.name)=false:=by simpa using c2
  rw[if_pos (.inr c2)]
  simp (maxSteps:=400000) only[wF,storeA,reduceCtorEq,Nat.reduceAdd,Nat.reduceSub,Nat.reduceEqDiff,Nat.reduceLeDiff,Int.reduceToNat,Int.reduceLE,Int.reduceLT,Int.reduceAdd,Int.reduceNeg,Nat.reduceMul,L72_7,T72,x0,x1,x2,xm,q0,q1,indexAddrA,g0,g1,b1,b2,Bool.not_false,Bool.not_true,u1,u2,u3,u4,u5,u6]
  exact stay 110 J _ xm xn xo
 have b2:(t.cur.name==x.name)=true:=by simpa using c2
 have h0:0<t.op:=by
  rcases Nat.eq_zero_or_pos t.op with h0 | h0
  ·unfold TSt.cur at c1
   rw[h0,hd.root]at c1
   cases c1
  ·exact h0
 have hup:=hd.up t.op h0 hop
 have hcd:t.cur=t.l.getD t.op nd0:=rfl
 rw[←hcd]at hup
 have hux:t.cur.up=((t.cur.up.toNat:Nat):Int):=by omega
 rw[if_neg (fun h=>by rcases h with h | h;exact h c1;exact h c2)]
 simp (maxSteps:=400000) only[wF,storeA,reduceCtorEq,Nat.reduceAdd,Nat.reduceSub,Nat.reduceEqDiff,Nat.reduceLeDiff,Int.reduceToNat,Int.reduceLE,Int.reduceLT,Int.reduceAdd,Int.reduceNeg,Nat.reduceMul,L72_7,T72,x0,x1,x2,xm,q0,q1,indexAddrA,g0,g1,g3,b1,b2,Bool.not_true,u1,u2,u3,u4,u5,u6]
 refine⟨m,?_,?_,.inl rfl,?_,?_,fun j hj _=>?_⟩
 ·simp only[stV];rw[←hux];rfl
 ·rw[AHeap.get_set_ne _ _ (by omega),AHeap.get_set_ne _ _ (by omega)];exact xm
 ·simp only[AHeap.next_set];omega
 ·simp only[AHeap.next_set];omega
 ·rw[AHeap.get_set_ne _ _ (by omega),AHeap.get_set_ne _ _ (by omega)];exact xo j hj
theorem e_event_ok (G:Nat→Option (List AV)) {t:TSt} {x:Ev} {m:Nat} {H:AHeap} (hd:DOk t) (htx:TxOk t) (hx:EvB 10000000 x) (hm:H.get m=some (.row 36 4 (ndsH t.l))) (hmn:m<H.next) :
  ACalls Tryz.prog G 72 [stV m t,.agg (evH x)] H (EPo (evR t x) m H):=by
 have h4:=hx.2.2.2.2
 match hk:x.kind with
 | 0=>exact e_event0_ok G hk hd htx hx hm hmn
 | 1=>exact e_event1_ok G hk hd htx hx hm hmn
 | 2=>exact e_event2_ok G hk hd htx hx hm hmn
 | 3=>exact e_event3_ok G hk hd htx hx hm hmn
 | 4=>exact e_event4_ok G hk hd htx hx hm hmn
 | n+5=>omega
end Go.Ab
