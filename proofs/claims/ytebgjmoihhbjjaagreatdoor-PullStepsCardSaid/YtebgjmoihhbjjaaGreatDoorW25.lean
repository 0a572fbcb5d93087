/- PullOne, walked. -/
import Derived.Test.YtebgjmoihhbjjaaGreatDoorWB
set_option linter.all false
namespace Go.Ab
open Go Go.Lib Go.Proofs
theorem pieceS_attrs {s:List UInt8} {p:Pst} {x:Ev × Pst} (hi:p.i<s.length) (h:pieceS s p = .ok x):x.1.attrs.length≤s.length:=by
 unfold pieceS at h
 split at h
 ·cases h;exact Nat.zero_le _
 split at h
 ·cases h;exact Nat.zero_le _
 split at h
 ·split at h
  ·cases h;exact Nat.zero_le _
  ·cases h
 split at h
 ·cases h
 ·rename_i t ht
  have:=startS_len hi ht
  split at h
  ·cases h
  split at h
  ·cases h
  split at h
  ·cases h
  cases h
  exact this
theorem eventF_attrs {s:List UInt8}:∀(f:Nat) (p:Pst) (r) (y),eventF f s p = .ok r→r.1=some y→y.1.attrs.length≤s.length
 | 0,p,r,y,h,hy=>by
  simp only[eventF,Except.ok.injEq]at h
  subst h
  simp at hy
 | f+1,p,r,y,h,hy=>by
  simp only[eventF]at h
  split at h
  ·rename_i hl
   split at h
   ·cases h
   ·split at h
    ·split at h
     ·exact eventF_attrs f _ r y h hy
     ·cases h
      simp only[Option.some.injEq]at hy
      subst hy
      exact Nat.zero_le _
    ·split at h
     ·cases h
     ·rename_i x q hq
      have:=pieceS_attrs hl hq
      cases h
      simp only[Option.some.injEq]at hy
      subst hy
      exact this
  ·split at h
   ·cases h
   ·cases h
    simp at hy
theorem eventS_attrs {s:List UInt8} {p:Pst} {r} {y} (h:eventS s p = .ok r) (hy:r.1=some y):y.1.attrs.length≤s.length:=by
 unfold eventS at h
 split at h
 ·split at h
  ·cases h
  ·exact eventF_attrs _ _ r y h hy
 ·exact eventF_attrs _ _ r y h hy
theorem nextS_attrs {s:List UInt8} {q:Par} (he:∀e,q.p.empty=some e→e.attrs=[]):(nextS s q).1.1.attrs.length≤s.length:=by
 unfold nextS
 split
 ·exact Nat.zero_le _
 split
 ·rename_i x hx
  rw[he x hx]
  exact Nat.zero_le _
 ·split
  ·exact Nat.zero_le _
  ·exact Nat.zero_le _
  ·rename_i x from_ p hp
   exact eventS_attrs hp rfl
theorem ParAt.emp {H:AHeap} {pid ko:Nat} {s:List UInt8} {q:Par} (h:ParAt H pid ko s q):∀e,q.p.empty=some e→e.attrs=[]:=by
 intro e he
 obtain⟨_,_,_,⟨_,_,h⟩,_⟩:=h
 simp only[he]at h
 exact h.1
theorem all2_run {text:List UInt8} (hE:newErr text=0):∃xs q',Run (linesS text) par0 xs q'∧(nextS (linesS text) q').1.2.1=false∧xs.length≤(linesS text).length ∧
  all2S text=if(nextS (linesS text) q').1.2.2=0 then(xs,0,0,0)else([],(nextS (linesS text) q').2.last.2.1,(nextS (linesS text) q').2.last.2.2,(nextS (linesS text) q').1.2.2):=by
 obtain⟨xs,q',h1,h2,h3,h4⟩:=allF_run (s:=linesS text) (potS (linesS text) par0+1) par0 [] (Nat.zero_le _) (by omega)
 refine⟨xs,q',h1,h2,by simpa[potS,par0]using h3,?_⟩
 rw[all2S,if_pos hE,allL,h4]
 simp
theorem Run.inv {s:List UInt8} {q q':Par} {x:Ev} {l:List Ev} (h:Run s q (x::l) q'):(nextS s q).1.2.1=true∧(nextS s q).1.1=x∧Run s (nextS s q).2 l q':=by
 cases h with
 | cons h hr=>exact⟨h,rfl,hr⟩
theorem Run.inv0 {s:List UInt8} {q q':Par} (h:Run s q [] q'):q=q':=by
 cases h
 rfl
def OneAt (s:List UInt8) (xs:List Ev) (q':Par) (pid:Nat) (H:AHeap) (x:Nat × Nat × Par × AHeap):Prop:=
 x.1≤xs.length∧Run s x.2.2.1 (xs.drop x.1) q'∧ParOk s x.2.2.1∧ParAt x.2.2.2 pid x.2.1 s x.2.2.1∧(∀k o,x.2.2.2.get k=some o→k<x.2.2.2.next)∧H.next≤pid∧H.next≤x.2.1∧H.next≤x.2.2.2.next∧∀j,j<H.next→x.2.2.2.get j=H.get j
set_option maxRecDepth 100000 in
theorem one_ok {G:Nat→Option (List AV)} (E:Env G) (B:EnvB G) (P:EnvP G) (R:EnvR G) (text:List UInt8) (H:AHeap):ACalls Tryz.prog G 7 [.str text] H fun r H'=>r = .ret (.bool true)∧Kept H H':=by
 refine ACalls.of Tryz.func7 S7_eq R7 N7 rfl rfl ?_
 by_cases hlong:5000<text.length
 ·have d1:decide ((text.length:Int)>5000)=true:=by simp;omega
  simp (maxSteps:=400000) only[wF,storeA,reduceCtorEq,Nat.reduceAdd,Nat.reduceSub,Nat.reduceEqDiff,Nat.reduceLeDiff,Int.reduceToNat,Int.reduceLE,Int.reduceLT,Int.reduceAdd,Int.reduceNeg,Nat.reduceMul,S7,N7,R7,T7,d1]
  refine AInv.retK B11 (works_ok E B P R H) (fun v H1 hq=>?_) (fun v H1 hq=>by cases hq.1)
  obtain⟨hv,h1⟩:=hq
  cases hv
  simp (maxSteps:=400000) only[wF,storeA,reduceCtorEq,Nat.reduceAdd,Nat.reduceSub,Nat.reduceEqDiff,Nat.reduceLeDiff,Int.reduceToNat,Int.reduceLE,Int.reduceLT,Int.reduceAdd,Int.reduceNeg,Nat.reduceMul,T7]
  exact h1
 have d1:decide ((text.length:Int)>5000)=false:=by simp;omega
 simp (maxSteps:=400000) only[wF,storeA,reduceCtorEq,Nat.reduceAdd,Nat.reduceSub,Nat.reduceEqDiff,Nat.reduceLeDiff,Int.reduceToNat,Int.reduceLE,Int.reduceLT,Int.reduceAdd,Int.reduceNeg,Nat.reduceMul,S7,N7,R7,T7,d1]
 refine AInv.retK B12 (all_ok E B P R text H) (fun v H1 hq=>?_) (fun v H1 hq=>by cases hq.1)
 obtain⟨hv,h1⟩:=hq
 cases hv
 have n1:=h1.1
 simp only[allA]
 simp (maxSteps:=400000) only[wF,storeA,reduceCtorEq,Nat.reduceAdd,Nat.reduceSub,Nat.reduceEqDiff,Nat.reduceLeDiff,Int.reduceToNat,Int.reduceLE,Int.reduceLT,Int.reduceAdd,Int.reduceNeg,Nat.reduceMul,T7]
 refine AInv.retK B15 (new_ok E R text H1).wfp (fun v H2 hq=>?_) (fun v H2 hq=>?_)
 case refine_2=>
  obtain⟨⟨_,hq⟩,_⟩:=hq
  split at hq
  ·obtain⟨_,_,h,_⟩:=hq
   cases h
  ·cases hq
 obtain⟨⟨h2,hq⟩,wf2⟩:=hq
 have n2:=h2.1
 by_cases hE:newErr text=0
 ·rw[if_pos hE]at hq
  obtain⟨pid,ko,hv,hpid,hko,hpar⟩:=hq
  cases hv
  have z1:((0:Int) != 0)=false:=rfl
  obtain⟨xs,q',hrun,hlast,hxl,hall⟩:=all2_run hE
  have hsl:=linesS_len text
  simp (maxSteps:=400000) only[wF,storeA,reduceCtorEq,Nat.reduceAdd,Nat.reduceSub,Nat.reduceEqDiff,Nat.reduceLeDiff,Int.reduceToNat,Int.reduceLE,Int.reduceLT,Int.reduceAdd,Int.reduceNeg,Nat.reduceMul,T7,z1]
  generalize linesS text=s at hrun hlast hxl hall hsl hpar
  have hs:s.length≤5000:=by omega
  by_cases he:(nextS s q').1.2.2=0
  ·rw[if_pos he]at hall
   rw[hall]
   refine ATrS.loopK (κ:=Nat × Nat × Par × AHeap) (fun x=>[.str text,.und,.und,.und,.int .i64 ((0:Nat):Int),.int .i64 ((0:Nat):Int),.int .i64 ((0:Nat):Int),.ptr pid 0,.und]++List.replicate 49 .und++[.lst xs.length (evsA xs),.int .i64 xs.length,.int .i64 x.1]++List.replicate 76 .und) (fun x=>x.2.2.2)
    (OneAt s xs q' pid H) (fun x=>xs.length-x.1) ⟨(0,ko,par0,H2),⟨Nat.zero_le _,hrun,par0_ok s,hpar,wf2,by omega,by simp only;omega,by simp only;omega,fun j hj=>(h2.2 j (by omega)).trans (h1.2 j hj)⟩,by simp[Fg],HW.refl _⟩ ?_
   clear hpar hrun
   rintro⟨k,kx,q,J⟩ ⟨hk,hr,hq,hpar,wfJ,g1,g2,g3,g4⟩
   simp only at hk hr hq hpar wfJ g1 g2 g3 g4
   obtain⟨pp,hpp⟩:∃o,J.get pid=some o:=by obtain⟨_,_,_,⟨_,h,_⟩,_⟩:=hpar;exact⟨_,h⟩
   obtain⟨kk,hkk⟩:∃o,J.get kx=some o:=by obtain⟨_,_,_,_,h⟩:=hpar;exact⟨_,h⟩
   have hpn:=wfJ _ _ hpp
   have hkn:=wfJ _ _ hkk
   have hnb:=nextS_bound hq.i
   by_cases hlt:k<xs.length
   ·have d0:decide ((k:Int)<(xs.length:Int))=true:=by simp;omega
    have q0:((k:Int)<(xs.length:Int))=True:=by simp;omega
    have hat:=evsA_at xs k hlt
    have hle:(k*6+6≤(evsA xs).length)=True:=by rw[evsA_len];simp;omega
    rw[List.drop_eq_getElem_cons hlt]at hr
    generalize xs[k]=x at hat hr
    obtain⟨hok,hx,hr'⟩:=hr.inv
    have hze:=(hnb.2 hok).1
    have ew:IntKind.i64.wrap ((k:Int)+1)=((k+1:Nat):Int):=by rw[wrap64]<;>omega
    simp (maxSteps:=400000) only[wF,storeA,reduceCtorEq,Nat.reduceAdd,Nat.reduceSub,Nat.reduceEqDiff,Nat.reduceLeDiff,Int.reduceToNat,Int.reduceLE,Int.reduceLT,Int.reduceAdd,Int.reduceNeg,Nat.reduceMul,T7,d0,q0,hat,hle,indexAddrA,evC]
    generalize hX:AHeap.set (AHeap.allocAt _ J.next _) _ _=X
    have xn:X.next=J.next+1:=by rw[←hX];simp only[AHeap.next_set,AHeap.next_allocAt];omega
    have xx:X.get J.next=some (.cells 39 (evC x)):=by rw[←hX,AHeap.get_set_same];rfl
    have xo:∀j,j<J.next→X.get j=J.get j:=fun j hj=>by rw[←hX,AHeap.get_set_ne _ _ (by omega),AHeap.get_allocAt_ne _ _ (by omega)]
    refine AInv.retK B21 (next_ok E B P (hpar.same wfJ xo) hq (by omega)).wfp (fun v J1 hv=>?_) (fun v J1 hv=>by cases hv.1.1)
    obtain⟨⟨hv,ko',hpar1,hko1,hn1,hf1⟩,wf1⟩:=hv
    cases hv
    have hxa:=nextS_attrs (s:=s) hpar.emp
    rw[hx]at hxa
    rw[hok,hx,hze]
    simp only[evA]
    have y1:=(hf1 J.next (by omega) (by omega) (by omega)).trans xx
    unfold evC at y1
    have z2:(((0:Nat):Int) != 0)=false:=rfl
    have u1:(J.next=J1.next)=False:=by simp;omega
    have u2:(J1.next=J1.next+1)=False:=by simp
    simp (maxSteps:=400000) only[wF,storeA,reduceCtorEq,Nat.reduceAdd,Nat.reduceSub,Nat.reduceEqDiff,Nat.reduceLeDiff,Int.reduceToNat,Int.reduceLE,Int.reduceLT,Int.reduceAdd,Int.reduceNeg,Nat.reduceMul,T7,z2,y1,u1,u2,sliceLit,fillA,zerosA,AV.boxable,Nat.le_refl,Nat.reduceLT]
    generalize hZ:AHeap.allocAt _ (J1.next+1+1) _=Z
    have zn:Z.next=J1.next+3:=by rw[←hZ];simp only[AHeap.next_set,AHeap.next_allocAt];omega
    have za:Z.get (J1.next+1)=some (.row 39 6 (evC x)):=by rw[←hZ,AHeap.get_allocAt_ne _ _ (by omega),AHeap.get_allocAt_same];rfl
    have zb:Z.get (J1.next+1+1)=some (.row 39 6 (evC x)):=by rw[←hZ,AHeap.get_allocAt_same];rfl
    have zo:∀j,j<J1.next→Z.get j=J1.get j:=fun j hj=>by rw[←hZ,AHeap.get_allocAt_ne _ _ (by omega),AHeap.get_allocAt_ne _ _ (by omega),AHeap.get_set_ne _ _ (by omega),AHeap.get_allocAt_ne _ _ (by omega)]
    have hw1:=Weak.freezeVals (G:=G) (H:=Z) (j:=J1.next+1) za (by omega) (a:=[.slc (J1.next+1) 1,.slc (J1.next+1+1) 1,.bool true]) (a':=[.lst 1 (evC x),.slc (J1.next+1+1) 1,.bool true]) ⟨.slc _ _ rfl,.same _,.same _,trivial⟩
    have hw2:=Weak.freezeVals (G:=G) (H:=Z.del (J1.next+1)) (j:=J1.next+1+1) ((AHeap.get_del_ne _ (by omega)).trans zb) (by omega) (a:=[.lst 1 (evC x),.slc (J1.next+1+1) 1,.bool true]) (a':=[.lst 1 (evC x),.lst 1 (evC x),.bool true]) ⟨.same _,.slc _ _ rfl,.same _,trivial⟩
    have hs1:=same_ok G [x] true (by simp) (by simp;omega)
    have e1:evsA [x]=evC x:=by simp[evsA]
    simp only[e1,List.length_singleton]at hs1
    refine AInv.retK B14 (ACalls.weak (hw1.trans hw2) (hs1 _)).wfp (fun v J3 hv=>?_) (fun v J3 hv=>by cases hv.1.1)
    obtain⟨⟨hv,h3⟩,wf3⟩:=hv
    cases hv
    have n3:=h3.1
    simp only[AHeap.next_del]at n3
    have o3:∀j,j<J1.next→J3.get j=J1.get j:=fun j hj=>by rw[h3.2,AHeap.get_del_ne _ (by omega),AHeap.get_del_ne _ (by omega)];exact zo j hj
    simp (maxSteps:=400000) only[wF,storeA,reduceCtorEq,Nat.reduceAdd,Nat.reduceSub,Nat.reduceEqDiff,Nat.reduceLeDiff,Int.reduceToNat,Int.reduceLE,Int.reduceLT,Int.reduceAdd,Int.reduceNeg,Nat.reduceMul,T7,ew]
    refine⟨(k+1,ko',(nextS s q).2,J3),⟨hlt,hr',hq.next,hpar1.same wf1 o3,wf3,g1,?_,by simp only;omega,fun j hj=>?_⟩,by simp only;omega,by simp[Fg],HW.refl _⟩
    ·simp only
     rcases hko1 with h | h<;>omega
    ·simp only
     rw[o3 j (by omega),hf1 j (by omega) (by omega) (by omega),xo j (by omega)]
     exact g4 j hj
   ·have d0:decide ((k:Int)<(xs.length:Int))=false:=by simp;omega
    rw[List.drop_eq_nil_of_le (by omega)]at hr
    have hqq:=hr.inv0
    subst hqq
    have z3:(((0:Nat):Int)==0)=true:=rfl
    simp (maxSteps:=400000) only[wF,storeA,reduceCtorEq,Nat.reduceAdd,Nat.reduceSub,Nat.reduceEqDiff,Nat.reduceLeDiff,Int.reduceToNat,Int.reduceLE,Int.reduceLT,Int.reduceAdd,Int.reduceNeg,Nat.reduceMul,T7,d0,z3]
    refine AInv.retK B21 (next_ok E B P hpar hq (by omega)) (fun v J1 hv=>?_) (fun v J1 hv=>by cases hv.1)
    obtain⟨hv,ko',hpar1,hko1,hn1,hf1⟩:=hv
    cases hv
    rw[hlast,he]
    simp only[evA]
    simp (maxSteps:=400000) only[wF,storeA,reduceCtorEq,Nat.reduceAdd,Nat.reduceSub,Nat.reduceEqDiff,Nat.reduceLeDiff,Int.reduceToNat,Int.reduceLE,Int.reduceLT,Int.reduceAdd,Int.reduceNeg,Nat.reduceMul,T7,z3]
    refine AInv.retK B11 (works_ok E B P R _) (fun v J2 hv=>?_) (fun v J2 hv=>by cases hv.1)
    obtain⟨hv,h3⟩:=hv
    cases hv
    have n3:=h3.1
    simp only[AHeap.next_set,AHeap.next_allocAt]at n3
    simp (maxSteps:=400000) only[wF,storeA,reduceCtorEq,Nat.reduceAdd,Nat.reduceSub,Nat.reduceEqDiff,Nat.reduceLeDiff,Int.reduceToNat,Int.reduceLE,Int.reduceLT,Int.reduceAdd,Int.reduceNeg,Nat.reduceMul,T7]
    refine⟨by omega,fun j hj=>?_⟩
    rw[h3.2 j (by simp only[AHeap.next_set,AHeap.next_allocAt];omega),AHeap.get_set_ne _ _ (by omega),AHeap.get_allocAt_ne _ _ (by omega),hf1 j (by omega) (by omega) (by omega)]
    exact g4 j hj
  ·rw[if_neg he]at hall
   rw[hall]
   have z4:((((nextS s q').1.2.2:Nat):Int)==0)=false:=by simp;omega
   have zl:decide ((0:Int)<((0:Nat):Int))=false:=rfl
   have ew2:IntKind.i64.wrap ((text.length:Int)+2)=((text.length+2:Nat):Int):=by rw[wrap64]<;>omega
   refine ATrS.loopK (κ:=Unit) (fun _=>[.str text,.und,.und,.und,.int .i64 (nextS s q').2.last.2.1,.int .i64 (nextS s q').2.last.2.2,.int .i64 (nextS s q').1.2.2,.ptr pid 0,.und]++List.replicate 49 .und++[.lst 0 [],.int .i64 ((0:Nat):Int),.int .i64 0]++List.replicate 76 .und) (fun _=>H2)
    (fun _=>True) (fun _=>0) ⟨(),trivial,by simp[Fg,evsA],HW.refl _⟩ ?_
   rintro⟨⟩ _
   simp (maxSteps:=400000) only[wF,storeA,reduceCtorEq,Nat.reduceAdd,Nat.reduceSub,Nat.reduceEqDiff,Nat.reduceLeDiff,Int.reduceToNat,Int.reduceLE,Int.reduceLT,Int.reduceAdd,Int.reduceNeg,Nat.reduceMul,T7,z4,ew2,zl]
   generalize hy:nextS s q'=y at hlast he z4 ⊢
   obtain⟨⟨yx,yok,ye⟩,yq⟩:=y
   simp only at hlast he z4 ⊢
   refine ATrS.loopK (κ:=Nat × Nat × Par × AHeap) (fun x=>[.str text,.und,.und,.und,.int .i64 yq.last.2.1,.int .i64 yq.last.2.2,.int .i64 ye,.ptr pid 0,.und]++List.replicate 95 .und++[.int .i64 (text.length+2:Nat),.int .i64 x.1]++List.replicate 31 .und) (fun x=>x.2.2.2)
    (OneAt s xs q' pid H) (fun x=>text.length+2-x.1) ⟨(0,ko,par0,H2),⟨Nat.zero_le _,hrun,par0_ok s,hpar,wf2,by omega,by simp only;omega,by simp only;omega,fun j hj=>(h2.2 j (by omega)).trans (h1.2 j hj)⟩,by simp[Fg],HW.refl _⟩ ?_
   clear hpar hrun
   rintro⟨k,kx,q,J⟩ ⟨hk,hr,hq,hpar,wfJ,g1,g2,g3,g4⟩
   simp only at hk hr hq hpar wfJ g1 g2 g3 g4
   obtain⟨pp,hpp⟩:∃o,J.get pid=some o:=by obtain⟨_,_,_,⟨_,h,_⟩,_⟩:=hpar;exact⟨_,h⟩
   obtain⟨kk,hkk⟩:∃o,J.get kx=some o:=by obtain⟨_,_,_,_,h⟩:=hpar;exact⟨_,h⟩
   have hpn:=wfJ _ _ hpp
   have hkn:=wfJ _ _ hkk
   have hnb:=nextS_bound hq.i
   have d0:decide ((k:Int)<((text.length+2:Nat):Int))=true:=by simp;omega
   have ew:IntKind.i64.wrap ((k:Int)+1)=((k+1:Nat):Int):=by rw[wrap64]<;>omega
   simp (maxSteps:=400000) only[wF,storeA,reduceCtorEq,Nat.reduceAdd,Nat.reduceSub,Nat.reduceEqDiff,Nat.reduceLeDiff,Int.reduceToNat,Int.reduceLE,Int.reduceLT,Int.reduceAdd,Int.reduceNeg,Nat.reduceMul,T7,d0]
   refine AInv.retK B21 (next_ok E B P hpar hq (by omega)).wfp (fun v J1 hv=>?_) (fun v J1 hv=>by cases hv.1.1)
   obtain⟨⟨hv,ko',hpar1,hko1,hn1,hf1⟩,wf1⟩:=hv
   cases hv
   simp only[evA]
   by_cases hlt:k<xs.length
   ·rw[List.drop_eq_getElem_cons hlt]at hr
    obtain⟨hok,hx,hr'⟩:=hr.inv
    rw[hok]
    simp (maxSteps:=400000) only[wF,storeA,reduceCtorEq,Nat.reduceAdd,Nat.reduceSub,Nat.reduceEqDiff,Nat.reduceLeDiff,Int.reduceToNat,Int.reduceLE,Int.reduceLT,Int.reduceAdd,Int.reduceNeg,Nat.reduceMul,T7,ew]
    generalize hZ:AHeap.set (AHeap.allocAt _ J1.next _) _ _=Z
    have zn:Z.next=J1.next+1:=by rw[←hZ];simp only[AHeap.next_set,AHeap.next_allocAt];omega
    have zo:∀j,j≠J1.next→Z.get j=J1.get j:=fun j hj=>by rw[←hZ,AHeap.get_set_ne _ _ hj,AHeap.get_allocAt_ne _ _ hj]
    refine⟨(k+1,ko',(nextS s q).2,Z),⟨hlt,hr',hq.next,hpar1.same wf1 fun j hj=>zo j (by omega),fun j o ho=>?_,g1,?_,by simp only;omega,fun j hj=>?_⟩,by simp only;omega,by simp[Fg],HW.refl _⟩
    ·simp only at ho ⊢
     by_cases hj:j=J1.next
     ·omega
     ·rw[zo j hj]at ho
      have:=wf1 _ _ ho
      omega
    ·simp only
     rcases hko1 with h | h<;>omega
    ·simp only
     rw[zo j (by omega),hf1 j (by omega) (by omega) (by omega)]
     exact g4 j hj
   ·rw[List.drop_eq_nil_of_le (by omega)]at hr
    have hqq:=hr.inv0
    subst hqq
    rw[hy]at hpar1 ⊢
    simp only at hpar1 ⊢
    subst hlast
    have z5:((ye:Int)==(ye:Int))=true:=by simp
    have z6:(((yq.last.2.1:Nat):Int)==((yq.last.2.1:Nat):Int))=true:=by simp
    have z7:(((yq.last.2.2:Nat):Int)==((yq.last.2.2:Nat):Int))=true:=by simp
    simp (maxSteps:=400000) only[wF,storeA,reduceCtorEq,Nat.reduceAdd,Nat.reduceSub,Nat.reduceEqDiff,Nat.reduceLeDiff,Int.reduceToNat,Int.reduceLE,Int.reduceLT,Int.reduceAdd,Int.reduceNeg,Nat.reduceMul,T7]
    refine AInv.retK B19 (where_ok (hpar1.same wf1 fun j hj=>by rw[AHeap.get_set_ne _ _ (by omega),AHeap.get_allocAt_ne _ _ (by omega)])) (fun v J2 hv=>?_) (fun v J2 hv=>by cases hv.1)
    obtain⟨hv,hK2⟩:=hv
    cases hv
    have k2:=hK2.1
    simp only[AHeap.next_set,AHeap.next_allocAt]at k2
    simp (maxSteps:=400000) only[wF,storeA,reduceCtorEq,Nat.reduceAdd,Nat.reduceSub,Nat.reduceEqDiff,Nat.reduceLeDiff,Int.reduceToNat,Int.reduceLE,Int.reduceLT,Int.reduceAdd,Int.reduceNeg,Nat.reduceMul,T7,z5,z6,z7]
    refine AInv.retK B11 (works_ok E B P R _) (fun v J3 hv=>?_) (fun v J3 hv=>by cases hv.1)
    obtain⟨hv,h3⟩:=hv
    cases hv
    have n3:=h3.1
    simp (maxSteps:=400000) only[wF,storeA,reduceCtorEq,Nat.reduceAdd,Nat.reduceSub,Nat.reduceEqDiff,Nat.reduceLeDiff,Int.reduceToNat,Int.reduceLE,Int.reduceLT,Int.reduceAdd,Int.reduceNeg,Nat.reduceMul,T7]
    refine⟨by omega,fun j hj=>?_⟩
    rw[h3.2 j (by omega),hK2.2,AHeap.get_set_ne _ _ (by omega),AHeap.get_allocAt_ne _ _ (by omega),hf1 j (by omega) (by omega) (by omega)]
    exact g4 j hj
 ·rw[if_neg hE]at hq
  have hv:=hq
  cases hv
  have hA:all2S text=([],0,0,newErr text):=by simp[all2S,hE]
  have d2:(((newErr text:Nat):Int) != 0)=true:=by simp;omega
  have d3:(((newErr text:Nat):Int)==((newErr text:Nat):Int))=true:=by simp
  have d4:(((0:Nat):Int)==0)=true:=rfl
  rw[hA]
  simp (maxSteps:=400000) only[wF,storeA,reduceCtorEq,Nat.reduceAdd,Nat.reduceSub,Nat.reduceEqDiff,Nat.reduceLeDiff,Int.reduceToNat,Int.reduceLE,Int.reduceLT,Int.reduceAdd,Int.reduceNeg,Nat.reduceMul,T7,d2,d3,d4,eqNeq]
  refine AInv.retK B11 (works_ok E B P R H2) (fun v H3 hq=>?_) (fun v H3 hq=>by cases hq.1)
  obtain⟨hv,h3⟩:=hq
  cases hv
  simp (maxSteps:=400000) only[wF,storeA,reduceCtorEq,Nat.reduceAdd,Nat.reduceSub,Nat.reduceEqDiff,Nat.reduceLeDiff,Int.reduceToNat,Int.reduceLE,Int.reduceLT,Int.reduceAdd,Int.reduceNeg,Nat.reduceMul,T7]
  exact(h1.trans h2).trans h3
end Go.Ab
