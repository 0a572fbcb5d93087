/- PullSteps, walked. -/
import Derived.Test.YtebgjmoihhbjjaaGreatDoorRD
import Derived.Test.YtebgjmoihhbjjaaGreatDoorLA
import Derived.Test.YtebgjmoihhbjjaaGreatDoorW25
import Derived.Test.YtebgjmoihhbjjaaGreatDoorCodes7
set_option linter.all false
namespace Go.Ab
open Go Go.Lib Go.Proofs
theorem Steps.inv {s:List UInt8} {q q2:Par} {x:Ev} {e:Nat} {xs:List Ev} {es:List Nat} (h:Steps s q (x::xs) (e::es) q2):∃q',nextS s q=((x,true,0),q')∧q'.last.2=placeS s e∧e≤s.length∧Steps s q' xs es q2:=by
 cases h with
 | cons h hl he r=>exact⟨_,h,hl,he,r⟩
theorem Steps.inv0 {s:List UInt8} {q q':Par} {es:List Nat} (h:Steps s q [] es q'):q=q':=by
 cases h
 rfl
theorem Steps.len {s:List UInt8} {q q':Par} {xs:List Ev} {es:List Nat} (h:Steps s q xs es q'):es.length=xs.length:=by
 induction h with
 | nil=>rfl
 | cons _ _ _ _ ih=>simp[ih]
theorem Steps.pot {s:List UInt8} {q q2:Par} {xs:List Ev} {es:List Nat} (h:Steps s q xs es q2):q.p.i≤s.length→xs.length≤potS s q:=by
 induction h with
 | nil=>intro _;exact Nat.zero_le _
 | @cons q q' q2 x e xs es h hl he r ih=>
  intro hi
  have hb:=nextS_bound hi
  rw[h]at hb
  have h1:=ih hb.1
  have h2:=(hb.2 rfl).2
  simp only at h2
  simp only[List.length_cons]
  omega
theorem ParAt.same3 {H X:AHeap} {pid ko m:Nat} {s:List UInt8} {q:Par} {cs:List AV} (h:ParAt H pid ko s q) (hm:H.get m=some (.cells 35 cs)) (hX:∀j,j≠m→X.get j=H.get j):ParAt X pid ko s q:=by
 obtain⟨i,h1,h2,⟨em,h3,h4⟩,h5⟩:=h
 refine⟨i,h1,h2,⟨em,(hX _ fun e=>by subst e;rw[h3]at hm;cases hm).trans h3,?_⟩,(hX _ fun e=>by subst e;rw[h5]at hm;cases hm).trans h5⟩
 revert h4
 unfold EmAt
 simp only
 cases q.p.empty with
 | none=>exact id
 | some z=>
  rintro⟨k1,ke,k2,k3,k4⟩
  exact⟨k1,ke,k2,k3,(hX _ fun e=>by subst e;rw[k4]at hm;cases hm).trans k4⟩
def TailAt (s:List UInt8) (e:Nat) (q2:Par) (pid:Nat) (did:Nat) (dc:AObj) (H:AHeap) (x:Nat × Nat × Par × AHeap):Prop:=
 x.1≤3∧nextS s x.2.2.1=((noEv,false,e),q2)∧ParOk s x.2.2.1∧ParAt x.2.2.2 pid x.2.1 s x.2.2.1∧(∀k o,x.2.2.2.get k=some o→k<x.2.2.2.next)∧x.2.2.2.get did=some dc∧did≠pid∧did≠x.2.1∧H.next≤did∧H.next≤pid∧H.next≤x.2.1∧H.next≤x.2.2.2.next∧∀j,j<H.next→x.2.2.2.get j=H.get j
def StepAt (s:List UInt8) (xs:List Ev) (es:List Nat) (q':Par) (pid:Nat) (did:Nat) (dc:AObj) (H:AHeap) (x:Nat × Nat × Nat × Par × AHeap):Prop:=
 x.1≤xs.length∧Steps s x.2.2.2.1 (xs.drop x.1) (es.drop x.1) q'∧ParOk s x.2.2.2.1∧ParAt x.2.2.2.2 pid x.2.2.1 s x.2.2.2.1∧x.2.2.2.1.last.2=placeS s x.2.1∧x.2.1≤s.length∧(∀k o,x.2.2.2.2.get k=some o→k<x.2.2.2.2.next)∧x.2.2.2.2.get did=some dc∧did≠pid∧did≠x.2.2.1∧H.next≤did∧H.next≤pid∧H.next≤x.2.2.1∧H.next≤x.2.2.2.2.next∧∀j,j<H.next→x.2.2.2.2.get j=H.get j
set_option maxHeartbeats 8000000 in
set_option maxRecDepth 100000 in
theorem steps_ok {G:Nat→Option (List AV)} (E:Env G) (B:EnvB G) (P:EnvP G) (R:EnvR G) (text:List UInt8) (H:AHeap):ACalls Tryz.prog G 4 [.str text] H fun r H'=>r = .ret (.bool true)∧Kept H H':=by
 refine ACalls.of Tryz.func4 S4_eq R4 N4 rfl rfl ?_
 by_cases hlong:3000<text.length
 ·have d1:decide ((text.length:Int)>3000)=true:=by simp;omega
  simp (maxSteps:=400000) only[wF,storeA,reduceCtorEq,Nat.reduceAdd,Nat.reduceSub,Nat.reduceEqDiff,Nat.reduceLeDiff,Int.reduceToNat,Int.reduceLE,Int.reduceLT,Int.reduceAdd,Int.reduceNeg,Nat.reduceMul,S4,N4,R4,T4,d1]
  refine AInv.retK B11 (works_ok E B P R H) (fun v H1 hq=>?_) (fun v H1 hq=>by cases hq.1)
  obtain⟨hv,h1⟩:=hq
  cases hv
  simp (maxSteps:=400000) only[wF,storeA,reduceCtorEq,Nat.reduceAdd,Nat.reduceSub,Nat.reduceEqDiff,Nat.reduceLeDiff,Int.reduceToNat,Int.reduceLE,Int.reduceLT,Int.reduceAdd,Int.reduceNeg,Nat.reduceMul,T4]
  exact h1
 have d1:decide ((text.length:Int)>3000)=false:=by simp;omega
 simp (maxSteps:=400000) only[wF,storeA,reduceCtorEq,Nat.reduceAdd,Nat.reduceSub,Nat.reduceEqDiff,Nat.reduceLeDiff,Int.reduceToNat,Int.reduceLE,Int.reduceLT,Int.reduceAdd,Int.reduceNeg,Nat.reduceMul,S4,N4,R4,T4,d1]
 refine AInv.retK B15 (new_ok E R text H).wfp (fun v H1 hq=>?_) (fun v H1 hq=>?_)
 case refine_2=>
  obtain⟨⟨_,hq⟩,_⟩:=hq
  split at hq
  ·obtain⟨_,_,h,_⟩:=hq
   cases h
  ·cases hq
 obtain⟨⟨h1,hq⟩,wf1⟩:=hq
 have n1:=h1.1
 cases ht:isTextS text with
 | false=>
  have hE:newErr text=10:=by unfold newErr;rw[if_neg (by omega),ht];rfl
  rw[hE]at hq
  have hv:=hq
  cases hv
  have d2:(((10:Nat):Int)==10)=true:=rfl
  simp (maxSteps:=400000) only[wF,storeA,reduceCtorEq,Nat.reduceAdd,Nat.reduceSub,Nat.reduceEqDiff,Nat.reduceLeDiff,Int.reduceToNat,Int.reduceLE,Int.reduceLT,Int.reduceAdd,Int.reduceNeg,Nat.reduceMul,T4]
  refine AInv.pureK B16 (r_isText_ok G (by omega)) fun H2 h2=>?_
  rw[ht]
  simp (maxSteps:=400000) only[wF,storeA,reduceCtorEq,Nat.reduceAdd,Nat.reduceSub,Nat.reduceEqDiff,Nat.reduceLeDiff,Int.reduceToNat,Int.reduceLE,Int.reduceLT,Int.reduceAdd,Int.reduceNeg,Nat.reduceMul,T4,Bool.not_false,d2,eqNeq]
  refine AInv.retK B11 (works_ok E B P R H2) (fun v H3 hq=>?_) (fun v H3 hq=>by cases hq.1)
  obtain⟨hv,h3⟩:=hq
  cases hv
  simp (maxSteps:=400000) only[wF,storeA,reduceCtorEq,Nat.reduceAdd,Nat.reduceSub,Nat.reduceEqDiff,Nat.reduceLeDiff,Int.reduceToNat,Int.reduceLE,Int.reduceLT,Int.reduceAdd,Int.reduceNeg,Nat.reduceMul,T4]
  exact(h1.trans h2.kept).trans h3
 | true=>
 have hE:newErr text=0:=by unfold newErr;rw[if_neg (by omega),ht];rfl
 rw[if_pos hE]at hq
 obtain⟨pid,ko,hv,hpid,hko,hpar⟩:=hq
 cases hv
 have z1:((0:Int) != 0)=false:=rfl
 simp (maxSteps:=400000) only[wF,storeA,reduceCtorEq,Nat.reduceAdd,Nat.reduceSub,Nat.reduceEqDiff,Nat.reduceLeDiff,Int.reduceToNat,Int.reduceLE,Int.reduceLT,Int.reduceAdd,Int.reduceNeg,Nat.reduceMul,T4]
 refine AInv.pureK B16 (r_isText_ok G (by omega)) fun H2 h2=>?_
 have n2:=h2.1
 rw[ht]
 simp (maxSteps:=400000) only[wF,storeA,reduceCtorEq,Nat.reduceAdd,Nat.reduceSub,Nat.reduceEqDiff,Nat.reduceLeDiff,Int.reduceToNat,Int.reduceLE,Int.reduceLT,Int.reduceAdd,Int.reduceNeg,Nat.reduceMul,T4,Bool.not_true,z1,eqNeq]
 refine AInv.pureK B17 (r_ends_ok G (by omega)) fun H3 h3=>?_
 have n3:=h3.1
 have hlen:(endsS text).length≤4000:=by rw[←linesS_ends];have:=linesS_len text;omega
 have hts:=isTextS_ends _ text (Nat.le_refl _) ht
 have hat:=rreadS_at (endsS text)
 rw[linesS_ends]at hpar
 generalize endsS text=s at hlen hat hpar hts
 obtain⟨xs,es,q',r1,r2,r3,q2,r4,r5,r6⟩:=steps hts s.length par0 rst0 (by simp[par0]) (par0_nr hts)
 change(rreadS s).1.l=[]++xs at r1
 change(rreadS s).1.ends=[]++es at r2
 change nextS s q'=((noEv,false,(rreadS s).2.2),q2)at r4
 change q2.last.2=placeS s (if(rreadS s).2.2=0 then s.length else(rreadS s).2.1)at r5
 change nextS s q2=((noEv,false,(rreadS s).2.2),q2)at r6
 simp (maxSteps:=400000) only[wF,storeA,reduceCtorEq,Nat.reduceAdd,Nat.reduceSub,Nat.reduceEqDiff,Nat.reduceLeDiff,Int.reduceToNat,Int.reduceLE,Int.reduceLT,Int.reduceAdd,Int.reduceNeg,Nat.reduceMul,T4]
 refine AInv.call B18 (r_read_ok G hlen _).wfp fun rv H4 h4=>?_
 obtain⟨⟨rfl,k4⟩,wf4⟩:=h4
 have n4:=k4.1
 have f4:∀j,j<H1.next→H4.get j=H1.get j:=fun j hj=>by rw[k4.2 j (by omega),h3.2,h2.2]
 have hpar4:ParAt H4 pid ko s par0:=hpar.same wf1 f4
 generalize rreadS s=d at r1 r2 r4 r5 r6 hat
 obtain⟨t,at_,e⟩:=d
 simp only[List.nil_append]at r1 r2 r4 r5 r6 hat
 simp only[docA,r1,r2]
 have hel:=r3.len
 have hxl:=r3.pot (by simp[par0])
 simp only[potS,par0,Option.isSome_none,Bool.false_eq_true,if_false]at hxl
 rw[hel]
 simp (maxSteps:=400000) only[wF,storeA,reduceCtorEq,Nat.reduceAdd,Nat.reduceSub,Nat.reduceEqDiff,Nat.reduceLeDiff,Int.reduceToNat,Int.reduceLE,Int.reduceLT,Int.reduceAdd,Int.reduceNeg,Nat.reduceMul,T4,AV.boxable,Nat.le_refl]
 generalize hX:AHeap.set (AHeap.allocAt H4 H4.next _) H4.next _=X
 have xn:X.next=H4.next+1:=by rw[←hX];simp only[AHeap.next_set,AHeap.next_allocAt];omega
 have xb:X.get H4.next=some (.cells 35 [.lst xs.length (evsA xs),.lst xs.length (natsA es),.int .i64 at_,.int .i64 e]):=by rw[←hX,AHeap.get_set_same]
 have xo:∀j,j<H4.next→X.get j=H4.get j:=fun j hj=>by rw[←hX,AHeap.get_set_ne _ _ (by omega),AHeap.get_allocAt_ne _ _ (by omega)]
 have wfX:∀k o,X.get k=some o→k<X.next:=fun k o hk=>by
  by_cases hj:k<H4.next
  ·omega
  ·by_cases hj2:k=H4.next
   ·omega
   ·rw[←hX,AHeap.get_set_ne _ _ (by omega),AHeap.get_allocAt_ne _ _ (by omega)]at hk
    have:=wf4 _ _ hk
    omega
 clear hX
 obtain⟨pp,hpp⟩:∃o,H1.get pid=some o:=by obtain⟨_,_,_,⟨_,h,_⟩,_⟩:=hpar;exact⟨_,h⟩
 obtain⟨kk,hkk⟩:∃o,H1.get ko=some o:=by obtain⟨_,_,_,_,h⟩:=hpar;exact⟨_,h⟩
 have hpn:=wf1 _ _ hpp
 have hkn:=wf1 _ _ hkk
 refine ATrS.loopK (κ:=Nat × Nat × Nat × Par × AHeap) (fun x=>[.und,.und,.und,.ptr pid 0,.und,.str s,.ptr H4.next 0,.int .i64 x.2.1]++List.replicate 48 .und++[.lst xs.length (evsA xs),.int .i64 xs.length,.int .i64 x.1]++List.replicate 104 .und) (fun x=>x.2.2.2.2)
  (StepAt s xs es q' pid H4.next (.cells 35 [.lst xs.length (evsA xs),.lst xs.length (natsA es),.int .i64 at_,.int .i64 e]) H) (fun x=>xs.length-x.1) ⟨(0,0,ko,par0,X),⟨Nat.zero_le _,r3,par0_ok s,hpar4.same wf4 xo,rfl,Nat.zero_le _,wfX,xb,by omega,by simp only;omega,by omega,by omega,by simp only;omega,by simp only;omega,fun j hj=>?_⟩,by simp[Fg],HW.refl _⟩ ?_
 ·simp only
  rw[xo j (by omega),f4 j (by omega)]
  exact h1.2 j hj
 clear hpar hpar4 r3
 rintro⟨k,at2,kx,q,J⟩ ⟨hk,hr,hq,hpar,hpl,hat2,wfJ,hdc,g0,g1,g2,g3,g4,g5,g6⟩
 simp only at hk hr hq hpar hpl hat2 wfJ hdc g0 g1 g2 g3 g4 g5 g6
 obtain⟨pp,hpp⟩:∃o,J.get pid=some o:=by obtain⟨_,_,_,⟨_,h,_⟩,_⟩:=hpar;exact⟨_,h⟩
 obtain⟨kk,hkk⟩:∃o,J.get kx=some o:=by obtain⟨_,_,_,_,h⟩:=hpar;exact⟨_,h⟩
 have hpn:=wfJ _ _ hpp
 have hkn:=wfJ _ _ hkk
 have hdn:=wfJ _ _ hdc
 have hnb:=nextS_bound hq.i
 by_cases hlt:k<xs.length
 ·have d0:decide ((k:Int)<(xs.length:Int))=true:=by simp;omega
  have q0:((k:Int)<(xs.length:Int))=True:=by simp;omega
  have hea:=evsA_at xs k hlt
  have hle:(k*6+6≤(evsA xs).length)=True:=by rw[evsA_len];simp;omega
  have hke:k<es.length:=by omega
  rw[List.drop_eq_getElem_cons hlt,List.drop_eq_getElem_cons hke]at hr
  have hna:(natsA es)[k]?=some (.int .i64 (es[k]:Nat)):=by simp[natsA,hke]
  generalize xs[k]=x at hea hr
  generalize es[k]=en at hna hr
  obtain⟨q1,hok,hl1,hen,hr'⟩:=hr.inv
  have ew:IntKind.i64.wrap ((k:Int)+1)=((k+1:Nat):Int):=by rw[wrap64]<;>omega
  simp (maxSteps:=400000) only[wF,storeA,reduceCtorEq,Nat.reduceAdd,Nat.reduceSub,Nat.reduceEqDiff,Nat.reduceLeDiff,Int.reduceToNat,Int.reduceLE,Int.reduceLT,Int.reduceAdd,Int.reduceNeg,Nat.reduceMul,T4,d0,q0,hea,hle,indexAddrA,evC]
  generalize hX2:AHeap.set (AHeap.allocAt _ J.next _) _ _=X2
  have xn2:X2.next=J.next+1:=by rw[←hX2];simp only[AHeap.next_set,AHeap.next_allocAt];omega
  have xx:X2.get J.next=some (.cells 39 (evC x)):=by rw[←hX2,AHeap.get_set_same];rfl
  have xo2:∀j,j<J.next→X2.get j=J.get j:=fun j hj=>by rw[←hX2,AHeap.get_set_ne _ _ (by omega),AHeap.get_allocAt_ne _ _ (by omega)]
  have wfX2:∀k o,X2.get k=some o→k<X2.next:=fun k o hk=>by
   by_cases hj:k<J.next
   ·omega
   ·by_cases hj2:k=J.next
    ·omega
    ·rw[←hX2,AHeap.get_set_ne _ _ (by omega),AHeap.get_allocAt_ne _ _ (by omega)]at hk
     have:=wfJ _ _ hk
     omega
  refine AInv.retK B19 (where_ok (hpar.same wfJ xo2)) (fun v J1 hv=>?_) (fun v J1 hv=>by cases hv.1)
  obtain⟨hv,hk1⟩:=hv
  cases hv
  have m1:=hk1.1
  rw[hpl]
  simp (maxSteps:=400000) only[wF,storeA,reduceCtorEq,Nat.reduceAdd,Nat.reduceSub,Nat.reduceEqDiff,Nat.reduceLeDiff,Int.reduceToNat,Int.reduceLE,Int.reduceLT,Int.reduceAdd,Int.reduceNeg,Nat.reduceMul,T4]
  refine AInv.pureK B20 (r_place_ok G hat2 (by omega)) fun J2 hk2=>?_
  have m2:=hk2.1
  simp (maxSteps:=400000) only[wF,storeA,reduceCtorEq,Nat.reduceAdd,Nat.reduceSub,Nat.reduceEqDiff,Nat.reduceLeDiff,Int.reduceToNat,Int.reduceLE,Int.reduceLT,Int.reduceAdd,Int.reduceNeg,Nat.reduceMul,T4]
  have xo3:J2.get=X2.get:=hk2.2.trans hk1.2
  have hpar2:ParAt J2 pid kx s q:=hpar.same wfJ fun j hj=>by rw[xo3];exact xo2 j hj
  refine AInv.retK B21 (next_ok E B P hpar2 hq (by omega)).wfp (fun v J3 hv=>?_) (fun v J3 hv=>by cases hv.1.1)
  obtain⟨⟨hv,ko',hpar1,hko1,hn1,hf1⟩,wf3⟩:=hv
  cases hv
  have hxa:=nextS_attrs (s:=s) hpar.emp
  rw[hok]at hxa hpar1 ⊢
  have hqn:=hq.next
  rw[hok]at hqn
  simp only at hxa hpar1 hqn ⊢
  simp only[evA]
  have y1:=(hf1 J.next (by omega) (by omega) (by omega)).trans ((congrFun xo3 _).trans xx)
  unfold evC at y1
  have z2:(((0:Nat):Int) != 0)=false:=rfl
  have u1:(J.next=J3.next)=False:=by simp;omega
  have u2:(J3.next=J3.next+1)=False:=by simp
  simp (maxSteps:=400000) only[wF,storeA,reduceCtorEq,Nat.reduceAdd,Nat.reduceSub,Nat.reduceEqDiff,Nat.reduceLeDiff,Int.reduceToNat,Int.reduceLE,Int.reduceLT,Int.reduceAdd,Int.reduceNeg,Nat.reduceMul,T4,z2,y1,u1,u2,sliceLit,fillA,zerosA,AV.boxable,Nat.le_refl,Nat.reduceLT,bne_self_eq_false,Bool.not_true]
  generalize hZ:AHeap.allocAt _ (J3.next+1+1) _=Z
  have zn:Z.next=J3.next+3:=by rw[←hZ];simp only[AHeap.next_set,AHeap.next_allocAt];omega
  have za:Z.get (J3.next+1)=some (.row 39 6 (evC x)):=by rw[←hZ,AHeap.get_allocAt_ne _ _ (by omega),AHeap.get_allocAt_same];rfl
  have zb:Z.get (J3.next+1+1)=some (.row 39 6 (evC x)):=by rw[←hZ,AHeap.get_allocAt_same];rfl
  have zo:∀j,j<J3.next→Z.get j=J3.get j:=fun j hj=>by rw[←hZ,AHeap.get_allocAt_ne _ _ (by omega),AHeap.get_allocAt_ne _ _ (by omega),AHeap.get_set_ne _ _ (by omega),AHeap.get_allocAt_ne _ _ (by omega)]
  have hw1:=Weak.freezeVals (G:=G) (H:=Z) (j:=J3.next+1) za (by omega) (a:=[.slc (J3.next+1) 1,.slc (J3.next+1+1) 1,.bool true]) (a':=[.lst 1 (evC x),.slc (J3.next+1+1) 1,.bool true]) ⟨.slc _ _ rfl,.same _,.same _,trivial⟩
  have hw2:=Weak.freezeVals (G:=G) (H:=Z.del (J3.next+1)) (j:=J3.next+1+1) ((AHeap.get_del_ne _ (by omega)).trans zb) (by omega) (a:=[.lst 1 (evC x),.slc (J3.next+1+1) 1,.bool true]) (a':=[.lst 1 (evC x),.lst 1 (evC x),.bool true]) ⟨.same _,.slc _ _ rfl,.same _,trivial⟩
  have hs1:=same_ok G [x] true (by simp) (by simp;omega)
  have e1:evsA [x]=evC x:=by simp[evsA]
  simp only[e1,List.length_singleton]at hs1
  refine AInv.retK B14 (ACalls.weak (hw1.trans hw2) (hs1 _)).wfp (fun v J4 hv=>?_) (fun v J4 hv=>by cases hv.1.1)
  obtain⟨⟨hv,h4⟩,wf4⟩:=hv
  cases hv
  have n4:=h4.1
  simp only[AHeap.next_del]at n4
  have o4:∀j,j<J3.next→J4.get j=J3.get j:=fun j hj=>by rw[h4.2,AHeap.get_del_ne _ (by omega),AHeap.get_del_ne _ (by omega)];exact zo j hj
  have hd3:J3.get H4.next=some (.cells 35 [.lst xs.length (evsA xs),.lst xs.length (natsA es),.int .i64 at_,.int .i64 e]):=(hf1 _ (by omega) (by omega) (by omega)).trans (((congrFun xo3 _).trans (xo2 _ (by omega))).trans hdc)
  have hd4:=(o4 _ (by omega)).trans hd3
  simp (maxSteps:=400000) only[wF,storeA,reduceCtorEq,Nat.reduceAdd,Nat.reduceSub,Nat.reduceEqDiff,Nat.reduceLeDiff,Int.reduceToNat,Int.reduceLE,Int.reduceLT,Int.reduceAdd,Int.reduceNeg,Nat.reduceMul,T4,ew,Bool.not_true,hd4,q0,indexAddrA,hna]
  refine⟨(k+1,en,ko',q1,J4),⟨hlt,hr',hqn,hpar1.same wf3 o4,hl1,hen,wf4,hd4,g0,?_,g2,g3,?_,by simp only;omega,fun j hj=>?_⟩,by simp only;omega,by simp[Fg],HW.refl _⟩
  ·simp only
   rcases hko1 with h | h<;>omega
  ·simp only
   rcases hko1 with h | h<;>omega
  ·simp only
   rw[o4 j (by omega),hf1 j (by omega) (by omega) (by omega),xo3,xo2 j (by omega)]
   exact g6 j hj
 ·have d0:decide ((k:Int)<(xs.length:Int))=false:=by simp;omega
  rw[List.drop_eq_nil_of_le (by omega)]at hr
  have hqq:=hr.inv0
  subst hqq
  obtain⟨D,hD⟩:∃D,D=if e=0 then s.length else at_:=⟨_,rfl⟩
  rw[←hD]at r5
  have hDl:D≤s.length:=by
   rw[hD]
   split<;>omega
  have hp2:∀w,w≠H4.next→w≠H4.next∨True:=fun _ h => .inl h
  have hcs:e=0∧D=s.length∨e≠0∧D=at_:=by
   by_cases he:e=0
   ·exact .inl ⟨he,by rw[hD,if_pos he]⟩
   ·exact .inr ⟨he,by rw[hD,if_neg he]⟩
  clear hD hp2
  rcases hcs with ⟨he,hDD⟩ | ⟨he,hDD⟩
  case' inl=>
   have y0:((e:Int)==0)=true:=by rw[he];rfl
   simp (maxSteps:=400000) only[wF,storeA,reduceCtorEq,Nat.reduceAdd,Nat.reduceSub,Nat.reduceEqDiff,Nat.reduceLeDiff,Int.reduceToNat,Int.reduceLE,Int.reduceLT,Int.reduceAdd,Int.reduceNeg,Nat.reduceMul,T4,d0,hdc,y0]
   generalize hY:AHeap.set J H4.next _=Y
   have yn:Y.next=J.next:=by rw[←hY,AHeap.next_set]
   have yd:Y.get H4.next=some (.cells 35 [.lst xs.length (evsA xs),.lst xs.length (natsA es),.int .i64 D,.int .i64 e]):=by rw[←hY,AHeap.get_set_same,hDD]
   have yo:∀j,j≠H4.next→Y.get j=J.get j:=fun j hj=>by rw[←hY,AHeap.get_set_ne _ _ hj]
   clear hY
  case' inr=>
   have y0:((e:Int)==0)=false:=by simp;omega
   simp (maxSteps:=400000) only[wF,storeA,reduceCtorEq,Nat.reduceAdd,Nat.reduceSub,Nat.reduceEqDiff,Nat.reduceLeDiff,Int.reduceToNat,Int.reduceLE,Int.reduceLT,Int.reduceAdd,Int.reduceNeg,Nat.reduceMul,T4,d0,hdc,y0]
   obtain⟨Y,hY⟩:∃Y,Y=J:=⟨_,rfl⟩
   rw[←hY]
   have yn:Y.next=J.next:=by rw[hY]
   have yd:Y.get H4.next=some (.cells 35 [.lst xs.length (evsA xs),.lst xs.length (natsA es),.int .i64 D,.int .i64 e]):=by rw[hY,hDD];first | done | exact hdc
   have yo:∀j,j≠H4.next→Y.get j=J.get j:=fun j hj=>by rw[hY]
   clear hY
  all_goals
   have hparY:ParAt Y pid kx s q:=hpar.same3 hdc yo
   have wfY:∀k o,Y.get k=some o→k<Y.next:=fun k o hk=>by
    by_cases hj:k=H4.next
    ·omega
    ·rw[yo _ hj]at hk
     have:=wfJ _ _ hk
     omega
   have yk:∀j,j<H.next→Y.get j=H.get j:=fun j hj=>by rw[yo j (by omega)];exact g6 j hj
   clear hpar yo hdc
   refine ATrS.loopK (κ:=Nat × Nat × Par × AHeap) (fun x=>[.und,.und,.und,.ptr pid 0,.und,.str s,.ptr H4.next 0]++List.replicate 109 .und++[.int .i64 x.1]++List.replicate 46 .und) (fun x=>x.2.2.2)
    (TailAt s e q2 pid H4.next (.cells 35 [.lst xs.length (evsA xs),.lst xs.length (natsA es),.int .i64 D,.int .i64 e]) H) (fun x=>3-x.1) ⟨(0,kx,q,Y),⟨Nat.zero_le _,r4,hq,hparY,wfY,yd,g0,g1,g2,g3,g4,by simp only;omega,yk⟩,by simp[Fg],HW.refl _⟩ ?_
   clear hparY wfY yd yk g1 g4 g5 g6 yn hq r4
   rintro⟨n,kz,u,Z⟩ ⟨hn,hnu,hu,hpar,wfZ,zd,g0,g1,g2,g3,g4,g5,g6⟩
   simp only at hn hnu hu hpar wfZ zd g0 g1 g2 g3 g4 g5 g6
   obtain⟨pp,hpp⟩:∃o,Z.get pid=some o:=by obtain⟨_,_,_,⟨_,h,_⟩,_⟩:=hpar;exact⟨_,h⟩
   obtain⟨kk,hkk⟩:∃o,Z.get kz=some o:=by obtain⟨_,_,_,_,h⟩:=hpar;exact⟨_,h⟩
   have hpn:=wfZ _ _ hpp
   have hkn:=wfZ _ _ hkk
   have hdn:=wfZ _ _ zd
   by_cases hlt:n<3
   ·have d1:decide ((n:Int)<3)=true:=by simp;omega
    have ew:IntKind.i64.wrap ((n:Int)+1)=((n+1:Nat):Int):=by rw[wrap64]<;>omega
    simp (maxSteps:=400000) only[wF,storeA,reduceCtorEq,Nat.reduceAdd,Nat.reduceSub,Nat.reduceEqDiff,Nat.reduceLeDiff,Int.reduceToNat,Int.reduceLE,Int.reduceLT,Int.reduceAdd,Int.reduceNeg,Nat.reduceMul,T4,d1]
    refine AInv.retK B21 (next_ok E B P hpar hu (by omega)).wfp (fun v J3 hv=>?_) (fun v J3 hv=>by cases hv.1.1)
    obtain⟨⟨hv,ko',hpar1,hko1,hn1,hf1⟩,wf3⟩:=hv
    cases hv
    have hun:=hu.next
    rw[hnu]at hpar1 hun ⊢
    simp only at hpar1 hun ⊢
    have zd3:=(hf1 _ (by omega) (by omega) (by omega)).trans zd
    simp only[evA,noEv,attrsA,List.flatMap_nil,List.length_nil]
    simp (maxSteps:=400000) only[wF,storeA,reduceCtorEq,Nat.reduceAdd,Nat.reduceSub,Nat.reduceEqDiff,Nat.reduceLeDiff,Int.reduceToNat,Int.reduceLE,Int.reduceLT,Int.reduceAdd,Int.reduceNeg,Nat.reduceMul,T4]
    generalize hX5:AHeap.set (AHeap.allocAt J3 J3.next _) J3.next _=X5
    have xn5:X5.next=J3.next+1:=by rw[←hX5];simp only[AHeap.next_set,AHeap.next_allocAt];omega
    have xb5:X5.get J3.next=some (.cells 39 [.int .i64 0,.str [],.str [],.lst 0 [],.int .i64 0,.int .i64 0]):=by rw[←hX5,AHeap.get_set_same];rfl
    have xo5:∀j,j<J3.next→X5.get j=J3.get j:=fun j hj=>by rw[←hX5,AHeap.get_set_ne _ _ (by omega),AHeap.get_allocAt_ne _ _ (by omega)]
    clear hX5
    refine AInv.retK B19 (where_ok (hpar1.same wf3 xo5)) (fun v J5 hv=>?_) (fun v J5 hv=>by cases hv.1)
    obtain⟨hv,hk5⟩:=hv
    cases hv
    have m5:=hk5.1
    have zd5:=(congrFun hk5.2 _).trans ((xo5 _ (by omega)).trans zd3)
    rw[r5]
    simp (maxSteps:=400000) only[wF,storeA,reduceCtorEq,Nat.reduceAdd,Nat.reduceSub,Nat.reduceEqDiff,Nat.reduceLeDiff,Int.reduceToNat,Int.reduceLE,Int.reduceLT,Int.reduceAdd,Int.reduceNeg,Nat.reduceMul,T4,zd5]
    refine AInv.pureK B20 (r_place_ok G hDl (by omega)) fun J6 hk6=>?_
    have m6:=hk6.1
    have xo6:J6.get=X5.get:=hk6.2.trans hk5.2
    have zd6:=(congrFun hk6.2 _).trans zd5
    have yb6:=(congrFun xo6 _).trans xb5
    simp (maxSteps:=400000) only[wF,storeA,reduceCtorEq,Nat.reduceAdd,Nat.reduceSub,Nat.reduceEqDiff,Nat.reduceLeDiff,Int.reduceToNat,Int.reduceLE,Int.reduceLT,Int.reduceAdd,Int.reduceNeg,Nat.reduceMul,T4,zd6,yb6,buildA,sliceLit,fillA,zerosA,AV.boxable,Nat.le_refl,Nat.reduceLT,bne_self_eq_false,Bool.not_true]
    generalize hW:AHeap.allocAt _ (J6.next+1) _=W
    have wn:W.next=J6.next+2:=by rw[←hW];simp only[AHeap.next_set,AHeap.next_allocAt];omega
    have wa:W.get J6.next=some (.row 39 6 [.int .i64 0,.str [],.str [],.lst 0 [],.int .i64 0,.int .i64 0]):=by rw[←hW,AHeap.get_allocAt_ne _ _ (by omega),AHeap.get_allocAt_same]
    have wb:W.get (J6.next+1)=some (.row 39 6 [.int .i64 0,.str [],.str [],.nils,.int .i64 0,.int .i64 0]):=by rw[←hW,AHeap.get_allocAt_same]
    have wo:∀j,j<J6.next→W.get j=J6.get j:=fun j hj=>by rw[←hW,AHeap.get_allocAt_ne _ _ (by omega),AHeap.get_allocAt_ne _ _ (by omega)]
    clear hW
    have hw1:=Weak.freezeVals (G:=G) (H:=W) (j:=J6.next) wa (by omega) (a:=[.slc J6.next 1,.slc (J6.next+1) 1,.bool true]) (a':=[.lst 1 [.int .i64 0,.str [],.str [],.lst 0 [],.int .i64 0,.int .i64 0],.slc (J6.next+1) 1,.bool true]) ⟨.slc _ _ rfl,.same _,.same _,trivial⟩
    have hw2:=Weak.freezeVals (G:=G) (H:=W.del J6.next) (j:=J6.next+1) ((AHeap.get_del_ne _ (by omega)).trans wb) (by omega) (a:=[.lst 1 [.int .i64 0,.str [],.str [],.lst 0 [],.int .i64 0,.int .i64 0],.slc (J6.next+1) 1,.bool true]) (a':=[.lst 1 [.int .i64 0,.str [],.str [],.lst 0 [],.int .i64 0,.int .i64 0],.lst 1 [.int .i64 0,.str [],.str [],.nils,.int .i64 0,.int .i64 0],.bool true]) ⟨.same _,.slc _ _ rfl,.same _,trivial⟩
    have hw3:Weak G [.lst 1 [.int .i64 0,.str [],.str [],.lst 0 [],.int .i64 0,.int .i64 0],.lst 1 [.int .i64 0,.str [],.str [],.nils,.int .i64 0,.int .i64 0],.bool true] ((W.del J6.next).del (J6.next+1)) [.lst 1 [.int .i64 0,.str [],.str [],.lst 0 [],.int .i64 0,.int .i64 0],.lst 1 [.int .i64 0,.str [],.str [],.lst 0 [],.int .i64 0,.int .i64 0],.bool true] _:=
     Weak.vals fun C w v hv=>VR.lstNils (cells:=[.int .i64 0,.str [],.str [],.nils,.int .i64 0,.int .i64 0]) (cells':=[.int .i64 0,.str [],.str [],.lst 0 [],.int .i64 0,.int .i64 0]) w (show Tzs _ _ _ _ _ from ⟨.same _,.same _,.same _,.nil _ rfl,.same _,.same _,trivial⟩) v hv
    have hs1:=same_ok G [noEv] true (by simp) (by simp[noEv])
    have e1:evsA [noEv]=[.int .i64 0,.str [],.str [],.lst 0 [],.int .i64 0,.int .i64 0]:=rfl
    simp only[e1,List.length_singleton]at hs1
    refine AInv.retK B14 (ACalls.weak ((hw1.trans hw2).trans hw3) (hs1 _)).wfp (fun v J7 hv=>?_) (fun v J7 hv=>by cases hv.1.1)
    obtain⟨⟨hv,h7⟩,wf7⟩:=hv
    cases hv
    have n7:=h7.1
    simp only[AHeap.next_del]at n7
    have o7:∀j,j<J3.next→J7.get j=J3.get j:=fun j hj=>by rw[h7.2,AHeap.get_del_ne _ (by omega),AHeap.get_del_ne _ (by omega),wo j (by omega),xo6];exact xo5 j hj
    simp (maxSteps:=400000) only[wF,storeA,reduceCtorEq,Nat.reduceAdd,Nat.reduceSub,Nat.reduceEqDiff,Nat.reduceLeDiff,Int.reduceToNat,Int.reduceLE,Int.reduceLT,Int.reduceAdd,Int.reduceNeg,Nat.reduceMul,T4,ew,Bool.not_true]
    refine⟨(n+1,ko',q2,J7),⟨hlt,r6,hun,hpar1.same wf3 o7,wf7,(o7 _ (by omega)).trans zd3,g0,?_,g2,g3,?_,by simp only;omega,fun j hj=>?_⟩,by simp only;omega,by simp[Fg],HW.refl _⟩
    ·simp only
     rcases hko1 with h | h<;>omega
    ·simp only
     rcases hko1 with h | h<;>omega
    ·simp only
     rw[o7 j (by omega),hf1 j (by omega) (by omega) (by omega)]
     exact g6 j hj
   ·have d1:decide ((n:Int)<3)=false:=by simp;omega
    simp (maxSteps:=400000) only[wF,storeA,reduceCtorEq,Nat.reduceAdd,Nat.reduceSub,Nat.reduceEqDiff,Nat.reduceLeDiff,Int.reduceToNat,Int.reduceLE,Int.reduceLT,Int.reduceAdd,Int.reduceNeg,Nat.reduceMul,T4,d1]
    refine AInv.retK B11 (works_ok E B P R _) (fun v J3 hv=>?_) (fun v J3 hv=>by cases hv.1)
    obtain⟨hv,h3⟩:=hv
    cases hv
    have n3:=h3.1
    simp (maxSteps:=400000) only[wF,storeA,reduceCtorEq,Nat.reduceAdd,Nat.reduceSub,Nat.reduceEqDiff,Nat.reduceLeDiff,Int.reduceToNat,Int.reduceLE,Int.reduceLT,Int.reduceAdd,Int.reduceNeg,Nat.reduceMul,T4]
    refine⟨by omega,fun j hj=>?_⟩
    rw[h3.2 j (by omega)]
    exact g6 j hj
end Go.Ab
