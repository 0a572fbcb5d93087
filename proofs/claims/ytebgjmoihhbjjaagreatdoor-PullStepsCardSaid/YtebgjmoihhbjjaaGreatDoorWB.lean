/- New and Where, walked. All, walked. Same, of a list with itself, walked. The chapter's examples, computed. The examples' own check, walked. -/
import Derived.Test.YtebgjmoihhbjjaaGreatDoorW19
import Derived.Lib.Replace
import Derived.KernelRfl
set_option linter.all false
namespace Go.Ab
open Go Go.Lib Go.Proofs
theorem replaceK_len {old new:List UInt8} (h:new.length≤old.length):∀(k:Nat) (s:List UInt8),(Lib.replaceK old new k s).length≤s.length
 | 0,s=>Nat.le_refl _
 | k+1,s=>by
  simp only[Lib.replaceK]
  split
  ·exact Nat.le_refl _
  ·rename_i hi
   have hge:=Lib.index_ge s old
   simp only[beq_iff_eq]at hi
   have hr:=Lib.index_room s old (by omega)
   have:=replaceK_len h k (s.drop ((Lib.index s old).toNat+old.length))
   simp only[List.length_append,List.length_take,List.length_drop]at this ⊢
   omega
theorem replaceAll_len {old new:List UInt8} (h:new.length≤old.length) (s:List UInt8):(Lib.replaceAll s old new).length≤s.length:=by
 unfold Lib.replaceAll Lib.replace
 split
 ·exact Nat.le_refl _
 ·exact replaceK_len h _ _
def linesS (text:List UInt8):List UInt8:=Lib.replaceAll (Lib.replaceAll text [13,10] [10]) [13] [10]
theorem linesS_len (text:List UInt8):(linesS text).length≤text.length:=
 Nat.le_trans (replaceAll_len (by simp) _) (replaceAll_len (by simp) _)
structure EnvR (G:Nat→Option (List AV)):Prop where
 repl:∀s a b,s.length≤1000000000→1≤a.length→b.length≤2→PureCall Tryz.prog G 22 [.str s,.str a,.str b] (.str (Lib.replaceAll s a b))
 replB:bodyT Tryz.prog 22=true
def newErr (text:List UInt8):Nat:=if 1048576<text.length then 2 else if isTextS text=true then 0 else 10
def NewPost (text:List UInt8) (H:AHeap) (r:ARes) (H':AHeap):Prop:=
 Kept H H'∧if newErr text=0 then ∃pid ko,r = .ret (.tup [.ptr pid 0,.int .i64 0])∧H.next≤pid∧H.next≤ko∧ParAt H' pid ko (linesS text) par0 else r = .ret (.tup [.nilp,.int .i64 (newErr text:Nat)])
set_option maxRecDepth 100000 in
theorem new_ok {G:Nat→Option (List AV)} (E:Env G) (R:EnvR G) (text:List UInt8) (H:AHeap):ACalls Tryz.prog G 15 [.str text] H (NewPost text H):=by
 refine ACalls.wf fun wf=>?_
 refine ACalls.ret (ACalls.of Tryz.func15 S15_eq R15 N15 rfl rfl ?_)
 by_cases hlong:1048576<text.length
 ·have d1:decide ((text.length:Int)>1048576)=true:=by simp;omega
  have hE:newErr text=2:=by simp[newErr,hlong]
  simp (maxSteps:=400000) only[wF,storeA,reduceCtorEq,Nat.reduceAdd,Nat.reduceSub,Nat.reduceEqDiff,Nat.reduceLeDiff,Int.reduceToNat,Int.reduceLE,Int.reduceLT,Int.reduceAdd,Int.reduceNeg,Nat.reduceMul,S15,N15,R15,T15,d1]
  refine⟨_,_,Weak.refl G _ _,Kept.refl H,?_⟩
  rw[hE]
  rfl
 ·have d1:decide ((text.length:Int)>1048576)=false:=by simp;omega
  simp (maxSteps:=400000) only[wF,storeA,reduceCtorEq,Nat.reduceAdd,Nat.reduceSub,Nat.reduceEqDiff,Nat.reduceLeDiff,Int.reduceToNat,Int.reduceLE,Int.reduceLT,Int.reduceAdd,Int.reduceNeg,Nat.reduceMul,S15,N15,R15,T15,d1]
  refine AInv.pureK B25 (isText_ok E (by omega)) fun H1 h1=>?_
  cases ht:isTextS text with
  | false=>
   have hE:newErr text=10:=by simp[newErr,hlong,ht]
   simp (maxSteps:=400000) only[wF,storeA,reduceCtorEq,Nat.reduceAdd,Nat.reduceSub,Nat.reduceEqDiff,Nat.reduceLeDiff,Int.reduceToNat,Int.reduceLE,Int.reduceLT,Int.reduceAdd,Int.reduceNeg,Nat.reduceMul,T15,ht]
   refine⟨_,_,Weak.refl G _ _,h1.kept,?_⟩
   rw[hE]
   rfl
  | true=>
   have hE:newErr text=0:=by simp[newErr,hlong,ht]
   simp (maxSteps:=400000) only[wF,storeA,reduceCtorEq,Nat.reduceAdd,Nat.reduceSub,Nat.reduceEqDiff,Nat.reduceLeDiff,Int.reduceToNat,Int.reduceLE,Int.reduceLT,Int.reduceAdd,Int.reduceNeg,Nat.reduceMul,T15,ht]
   refine AInv.pureK R.replB (R.repl _ _ _ (by omega) (by simp) (by simp)) fun H2 h2=>?_
   have hl1:=replaceAll_len (old:=[13,10]) (new:=[10]) (by simp) text
   simp (maxSteps:=400000) only[wF,storeA,reduceCtorEq,Nat.reduceAdd,Nat.reduceSub,Nat.reduceEqDiff,Nat.reduceLeDiff,Int.reduceToNat,Int.reduceLE,Int.reduceLT,Int.reduceAdd,Int.reduceNeg,Nat.reduceMul,T15]
   refine AInv.pureK R.replB (R.repl _ _ _ (by omega) (by simp) (by simp)) fun H3 h3=>?_
   simp (maxSteps:=400000) only[wF,storeA,reduceCtorEq,Nat.reduceAdd,Nat.reduceSub,Nat.reduceEqDiff,Nat.reduceLeDiff,Int.reduceToNat,Int.reduceLE,Int.reduceLT,Int.reduceAdd,Int.reduceNeg,Nat.reduceMul,T15,buildA,fillA,AV.boxable]
   have hK:=((h1.trans h2).trans h3)
   have hKn:=hK.1
   generalize hX:AHeap.allocAt _ (H3.next+1) _=X
   have x0:X.get (H3.next+1)=some (.cells 54 [.str (linesS text),.int .i64 0,.int .i64 0,.int .i64 1,.int .i64 1,.int .i64 0,.int .i64 1,.int .i64 1,.nils,.bool false,.nilp,.int .i64 0]):=by rw[←hX,AHeap.get_allocAt_same];rfl
   have xn:X.next=H3.next+2:=by rw[←hX];simp only[AHeap.next_allocAt,AHeap.next_set];omega
   have xo:∀j,j<H.next→X.get j=H.get j:=fun j hj=>by rw[←hX,AHeap.get_allocAt_ne _ _ (by omega),AHeap.get_set_ne _ _ (by omega),AHeap.get_allocAt_ne _ _ (by omega),hK.2]
   obtain⟨Y,hw,y0,y1,yn,yo⟩:=Weak.nilField G [.str (linesS text),.int .i64 0,.int .i64 0,.int .i64 1,.int .i64 1,.int .i64 0,.int .i64 1,.int .i64 1,.slc X.next 0,.bool false,.nilp,.int .i64 0] x0 (by omega) 9 1 ⟨.same _,.same _,.same _,.same _,.same _,.same _,.same _,.same _,.nil _ rfl,.same _,.same _,.same _,trivial⟩
   refine⟨_,Y,hw _,⟨by omega,fun j hj=>by rw[yo j (by omega) (by omega)];exact xo j hj⟩,?_⟩
   rw[hE,if_pos rfl]
   exact⟨H3.next+1,X.next,rfl,by omega,by omega,0,fun _=>rfl,by omega,⟨.nilp,y0,rfl⟩,y1⟩
theorem where_ok {G:Nat→Option (List AV)} {H:AHeap} {pid ko:Nat} {s:List UInt8} {q:Par} (hp:ParAt H pid ko s q) :
  ACalls Tryz.prog G 19 [.ptr pid 0] H fun r H'=>r = .ret (.tup [.int .i64 q.last.2.1,.int .i64 q.last.2.2])∧Keeps H H':=by
 obtain⟨i,hi,hpk,⟨em,hpo,hem⟩,hro⟩:=hp
 refine ACalls.keep (ACalls.of Tryz.func19 S19_eq R19 N19 rfl rfl ?_)
 simp (maxSteps:=400000) only[wF,storeA,reduceCtorEq,Nat.reduceAdd,Nat.reduceSub,Nat.reduceEqDiff,Nat.reduceLeDiff,Int.reduceToNat,Int.reduceLE,Int.reduceLT,Int.reduceAdd,Int.reduceNeg,Nat.reduceMul,S19,N19,R19,T19,eqNeq]
 refine drawW_fixed mixedOrders L19_3_eq P19_3_eq ?_
 simp (maxSteps:=400000) only[wF,storeA,reduceCtorEq,Nat.reduceAdd,Nat.reduceSub,Nat.reduceEqDiff,Nat.reduceLeDiff,Int.reduceToNat,Int.reduceLE,Int.reduceLT,Int.reduceAdd,Int.reduceNeg,Nat.reduceMul,L19_3,T19,hpo]
 exact⟨Nat.le_refl _,fun _ _=>trivial⟩
end Go.Ab
namespace Go.Ab
open Go Go.Lib Go.Proofs
theorem allF_fuel {s:List UInt8}:∀(f g:Nat) (q:Par) (l:List Ev),q.p.i≤s.length→potS s q<f→potS s q<g→allF f s q l=allF g s q l
 | 0,_,_,_,_,h,_=>absurd h (by omega)
 | _,0,_,_,_,_,h=>absurd h (by omega)
 | f+1,g+1,q,l,hi,hf,hg=>by
  have hb:=nextS_bound hi
  simp only[allF]
  split
  ·rfl
  split
  ·rfl
  ·rename_i h1 h2
   have:=hb.2 (by simpa using h2)
   exact allF_fuel f g _ _ hb.1 (by omega) (by omega)
def allL (s:List UInt8) (q:Par) (l:List Ev):List Ev × Nat × Nat × Nat:=allF (potS s q+1) s q l
theorem allL_step {s:List UInt8} {q:Par} (l:List Ev) (hi:q.p.i≤s.length):allL s q l =
  if(nextS s q).1.2.2≠0 then([],(nextS s q).2.last.2.1,(nextS s q).2.last.2.2,(nextS s q).1.2.2)
  else if(nextS s q).1.2.1=false then(l,0,0,0)else allL s (nextS s q).2 (l++[(nextS s q).1.1]):=by
 have hb:=nextS_bound hi
 conv=>lhs;unfold allL;simp only[allF]
 split
 ·rfl
 split
 ·rfl
 ·rename_i h1 h2
  have:=hb.2 (by simpa using h2)
  exact allF_fuel _ _ _ _ hb.1 (by omega) (by omega)
def all2S (text:List UInt8):List Ev × Nat × Nat × Nat:=if newErr text=0 then allL (linesS text) par0 []else([],0,0,newErr text)
def evC (x:Ev):List AV:=[.int .i64 x.kind,.str x.name,.str x.text,.lst x.attrs.length (attrsA x.attrs),.int .i64 x.line,.int .i64 x.col]
def evsA (l:List Ev):List AV:=l.flatMap evC
theorem evsA_len:∀(l:List Ev),(evsA l).length=l.length*6
 | []=>rfl
 | a::l=>by
  have:=evsA_len l
  simp only[evsA,List.flatMap_cons,List.length_append,evC,List.length_cons,List.length_nil]at this ⊢
  omega
theorem ParAt.same {H X:AHeap} {pid ko:Nat} {s:List UInt8} {q:Par} (h:ParAt H pid ko s q) (wf:∀k o,H.get k=some o→k<H.next) (hX:∀j,j<H.next→X.get j=H.get j):ParAt X pid ko s q:=by
 obtain⟨i,h1,h2,⟨em,h3,h4⟩,h5⟩:=h
 refine⟨i,h1,h2,⟨em,(hX _ (wf _ _ h3)).trans h3,?_⟩,(hX _ (wf _ _ h5)).trans h5⟩
 revert h4
 unfold EmAt
 simp only
 cases q.p.empty with
 | none=>exact id
 | some z=>
  rintro⟨k1,ke,k2,k3,k4⟩
  exact⟨k1,ke,k2,k3,(hX _ (wf _ _ k4)).trans k4⟩
theorem ParAt.same2 {H X:AHeap} {pid ko m:Nat} {s:List UInt8} {q:Par} {re:TypeId} {sz:Nat} {cs:List AV} (h:ParAt H pid ko s q) (wf:∀k o,H.get k=some o→k<H.next) (hm:H.get m=some (.row re sz cs)) (hk:ko≠m) (hX:∀j,j<H.next→j≠m→X.get j=H.get j):ParAt X pid ko s q:=by
 obtain⟨i,h1,h2,⟨em,h3,h4⟩,h5⟩:=h
 refine⟨i,h1,h2,⟨em,(hX _ (wf _ _ h3) fun e=>by subst e;rw[h3]at hm;cases hm).trans h3,?_⟩,(hX _ (wf _ _ h5) hk).trans h5⟩
 revert h4
 unfold EmAt
 simp only
 cases q.p.empty with
 | none=>exact id
 | some z=>
  rintro⟨k1,ke,k2,k3,k4⟩
  exact⟨k1,ke,k2,k3,(hX _ (wf _ _ k4) fun e=>by subst e;rw[k4]at hm;cases hm).trans k4⟩
def AllAt (s:List UInt8) (R:List Ev × Nat × Nat × Nat) (pid:Nat) (H:AHeap) (x:Nat × Nat × Par × List Ev × AHeap):Prop:=
 ParOk s x.2.2.1∧ParAt x.2.2.2.2 pid x.1 s x.2.2.1∧allL s x.2.2.1 x.2.2.2.1=R∧x.2.2.2.1.length+potS s x.2.2.1≤s.length+1 ∧
 x.2.2.2.2.get x.2.1=some (.row 39 6 (evsA x.2.2.2.1))∧H.next≤pid∧H.next≤x.1∧H.next≤x.2.1∧x.2.1<x.2.2.2.2.next∧x.2.1≠pid∧x.2.1≠x.1∧H.next≤x.2.2.2.2.next∧∀j,j<H.next→x.2.2.2.2.get j=H.get j
def allA (x:List Ev × Nat × Nat × Nat):AV := .tup [.lst x.1.length (evsA x.1),.int .i64 x.2.1,.int .i64 x.2.2.1,.int .i64 x.2.2.2]
theorem Weak.allNil (G:Nat→Option (List AV)) (a b c:Int) (J:AHeap):Weak G [.tup [.nils,.int .i64 a,.int .i64 b,.int .i64 c]] J [.tup [.lst 0 [],.int .i64 a,.int .i64 b,.int .i64 c]] J:=
 Weak.nilLst ⟨.tup' ⟨.nil _ rfl,.same _,.same _,.same _,trivial⟩,trivial⟩
set_option maxRecDepth 100000 in
theorem all_ok {G:Nat→Option (List AV)} (E:Env G) (B:EnvB G) (P:EnvP G) (R:EnvR G) (text:List UInt8) (H:AHeap) :
  ACalls Tryz.prog G 12 [.str text] H fun r H'=>r = .ret (allA (all2S text))∧Kept H H':=by
 refine ACalls.wf fun wf=>?_
 refine ACalls.ret (ACalls.of Tryz.func12 S12_eq R12 N12 rfl rfl ?_)
 simp (maxSteps:=400000) only[wF,storeA,reduceCtorEq,Nat.reduceAdd,Nat.reduceSub,Nat.reduceEqDiff,Nat.reduceLeDiff,Int.reduceToNat,Int.reduceLE,Int.reduceLT,Int.reduceAdd,Int.reduceNeg,Nat.reduceMul,S12,N12,R12,T12]
 refine AInv.retK B15 (new_ok E R text H).wfp (fun v J0 hq=>?_) (fun v J0 hq=>?_)
 ·obtain⟨⟨hK0,hq⟩,wf0⟩:=hq
  have k0:=hK0.1
  by_cases hE:newErr text=0
  ·rw[if_pos hE]at hq
   obtain⟨pid,ko,hv,hpid,hko,hpar⟩:=hq
   cases hv
   have d1:((0:Int) != 0)=false:=rfl
   simp (maxSteps:=400000) only[wF,storeA,reduceCtorEq,Nat.reduceAdd,Nat.reduceSub,Nat.reduceEqDiff,Nat.reduceLeDiff,Int.reduceToNat,Int.reduceLE,Int.reduceLT,Int.reduceAdd,Int.reduceNeg,Nat.reduceMul,T12,d1]
   have hA:all2S text=allL (linesS text) par0 []:=by simp[all2S,hE]
   have hlen:(linesS text).length≤1048576:=by
    have:=linesS_len text
    unfold newErr at hE
    split at hE
    ·cases hE
    ·omega
   generalize linesS text=s at hpar hA hlen
   have hw:Weak G ([.str text,.und,.nils,.int .i64 0,.int .i64 0,.int .i64 0,.ptr pid 0]++List.replicate 34 .und) J0 ([.str text,.und,.slc J0.next 0,.int .i64 0,.int .i64 0,.int .i64 0,.ptr pid 0]++List.replicate 34 .und) ⟨J0.next+1,fun j=>if j=J0.next then some (.row 39 6 [])else J0.get j⟩:=by
    refine Weak.nilRow J0.next 39 6 (Nat.le_refl _) (Nat.lt_succ_self _) (by simp) (fun j=>?_) (show Tzs _ _ _ _ _ from ⟨.same _,.und _,.nil _ rfl,.same _,.same _,.same _,.same _,Tzs.refl _⟩)
    by_cases h1:j=J0.next
    ·exact .inl h1
    ·cases hg:J0.get j with
     | none=>exact .inr (.inl (by simp[h1,hg]))
     | some o=>exact .inr (.inr ⟨o,o,rfl,by simp[h1,hg],.same o⟩)
   obtain⟨pp,hpp⟩:∃o,J0.get pid=some o:=by obtain⟨_,_,_,⟨_,h,_⟩,_⟩:=hpar;exact⟨_,h⟩
   obtain⟨kk,hkk⟩:∃o,J0.get ko=some o:=by obtain⟨_,_,_,_,h⟩:=hpar;exact⟨_,h⟩
   have hpn:=wf0 _ _ hpp
   have hkn:=wf0 _ _ hkk
   have hpar2:ParAt ⟨J0.next+1,fun j=>if j=J0.next then some (.row 39 6 [])else J0.get j⟩ pid ko s par0:=by
    obtain⟨i,h1,h2,⟨em,h3,h4⟩,h5⟩:=hpar
    have h4:em = .nilp:=h4
    subst h4
    refine⟨i,h1,h2,⟨.nilp,?_,rfl⟩,?_⟩
    ·simp only[show ¬pid=J0.next by omega,if_false];exact h3
    ·simp only[show ¬ko=J0.next by omega,if_false];exact h5
   refine ATrS.weak ((Weak.of (by simp[Fg]) (HW.refl _)).trans hw) (ATrS.loopK (κ:=Nat × Nat × Par × List Ev × AHeap) (fun x=>[.str text,.und,.slc x.2.1 x.2.2.2.1.length,.int .i64 0,.int .i64 0,.int .i64 0,.ptr pid 0]++List.replicate 34 .und) (fun x=>x.2.2.2.2)
    (AllAt s (all2S text) pid H) (fun x=>potS s x.2.2.1) ⟨(ko,J0.next,par0,[],_),⟨par0_ok s,hpar2,hA.symm,by simp[potS,par0],by simp[evsA],hpid,hko,by simp only;omega,by simp only;omega,by simp only;omega,by simp only;omega,by simp only;omega,fun j hj=>by simp only[show ¬j=J0.next by omega,if_false];exact hK0.2 j hj⟩,by simp[Fg],HW.refl _⟩ ?_)
   clear hpar hpar2 hpp hkk hw
   rintro⟨kx,m,q,l,J⟩ ⟨hq,hpar,hR,hll,hrow,g1,g2,g3,g4,g5,g6,g7,g8⟩
   simp only at hq hpar hR hll hrow g1 g2 g3 g4 g5 g6 g7 g8
   have hst:=allL_step l hq.i
   rw[hR]at hst
   have hnb:=nextS_bound hq.i
   have hqn:=hq.next
   simp (maxSteps:=400000) only[wF,storeA,reduceCtorEq,Nat.reduceAdd,Nat.reduceSub,Nat.reduceEqDiff,Nat.reduceLeDiff,Int.reduceToNat,Int.reduceLE,Int.reduceLT,Int.reduceAdd,Int.reduceNeg,Nat.reduceMul,T12]
   refine AInv.retK B21 (next_ok E B P hpar hq (by omega)).wfp (fun v J1 hv=>?_) (fun v J1 hv=>by cases hv.1.1)
   obtain⟨⟨hv,ko',hpar1,hko1,hn1,hf1⟩,wf1⟩:=hv
   cases hv
   have row1:=(hf1 m g4 g5 g6).trans hrow
   have m1:=wf1 _ _ row1
   have f1:∀j,j<H.next→J1.get j=H.get j:=fun j hj=>(hf1 j (by omega) (by omega) (by omega)).trans (g8 j hj)
   obtain⟨kk,hkk⟩:∃o,J1.get ko'=some o:=by obtain⟨_,_,_,_,h⟩:=hpar1;exact⟨_,h⟩
   have hkn1:=wf1 _ _ hkk
   obtain⟨pp,hpp⟩:∃o,J1.get pid=some o:=by obtain⟨_,_,_,⟨_,h,_⟩,_⟩:=hpar1;exact⟨_,h⟩
   have hpn1:=wf1 _ _ hpp
   generalize nextS s q=r at hst hnb hqn hpar1 ⊢
   obtain⟨⟨x,ok,e⟩,q'⟩:=r
   simp only at hst hnb hqn hpar1 ⊢
   simp only[evA]
   by_cases he:e=0
   ·subst he
    have de:(((0:Nat):Int) != 0)=false:=rfl
    rw[if_neg (by simp)]at hst
    cases ok with
    | false=>
     rw[if_pos rfl]at hst
     simp (maxSteps:=400000) only[wF,storeA,reduceCtorEq,Nat.reduceAdd,Nat.reduceSub,Nat.reduceEqDiff,Nat.reduceLeDiff,Int.reduceToNat,Int.reduceLE,Int.reduceLT,Int.reduceAdd,Int.reduceNeg,Nat.reduceMul,T12,de]
     refine⟨_,_,Weak.freezeVal G (j:=m) (e:=39) (size:=6) (cs:=evsA l) ?_ (by omega) (v' := .tup [.lst l.length (evsA l),.int .i64 0,.int .i64 0,.int .i64 0]) (.tup' ⟨.slc _ _ rfl,.same _,.same _,.same _,trivial⟩),?_,?_,fun j hj=>?_⟩
     ·rw[AHeap.get_set_ne _ _ (by omega),AHeap.get_allocAt_ne _ _ (by omega)]
      exact row1
     ·rw[hst]
      rfl
     ·simp only[AHeap.next_del,AHeap.next_set,AHeap.next_allocAt]
      omega
     ·rw[AHeap.get_del_ne _ (by omega),AHeap.get_set_ne _ _ (by omega),AHeap.get_allocAt_ne _ _ (by omega)]
      exact f1 j hj
    | true=>
     rw[if_neg (by simp)]at hst
     have hpot:=(hnb.2 rfl).2
     have u1:(J1.next+1==m)=false:=by simp;omega
     have u2:(l.length+1≤maxApp)=True:=by simp[maxApp];omega
     have u3:(m=J1.next)=False:=by simp;omega
     have u4:(m=J1.next+1)=False:=by simp;omega
     simp (maxSteps:=400000) only[wF,storeA,reduceCtorEq,Nat.reduceAdd,Nat.reduceSub,Nat.reduceEqDiff,Nat.reduceLeDiff,Int.reduceToNat,Int.reduceLE,Int.reduceLT,Int.reduceAdd,Int.reduceNeg,Nat.reduceMul,T12,de,row1,u1,u2,u3,u4,appendA,appSrc,AV.isSlc,sliceLit,fillA,zerosA,srcCells,AV.boxable,Nat.le_refl,Nat.reduceLT,evsA_len]
     refine⟨(ko',J1.next+1+1,q',l++[x],_),⟨hqn,?_,hst.symm,by simp only[List.length_append,List.length_cons,List.length_nil];omega,?_,g1,?_,by simp only;omega,?_,by simp only;omega,by simp only;omega,?_,fun j hj=>?_⟩,by simp only;omega,by simp[Fg],HW.refl _⟩
     ·refine hpar1.same2 wf1 row1 (by rcases hko1 with h | h<;>omega) fun j hj hjm=>?_
      have v1:(j=J1.next)=False:=by simp;omega
      have v2:(j=J1.next+1)=False:=by simp;omega
      have v3:(j=J1.next+1+1)=False:=by simp;omega
      simp only[AHeap.get_allocAt,AHeap.get_set,AHeap.get_del,v1,v2,v3,hjm,if_false]
     ·simp[evsA,evC]
     ·simp only
      rcases hko1 with h | h<;>omega
     ·simp only[AHeap.next_set,AHeap.next_allocAt,AHeap.next_del]
      omega
     ·simp only[AHeap.next_set,AHeap.next_allocAt,AHeap.next_del]
      omega
     ·have v1:(j=J1.next)=False:=by simp;omega
      have v2:(j=J1.next+1)=False:=by simp;omega
      have v3:(j=J1.next+1+1)=False:=by simp;omega
      have v4:(j=m)=False:=by simp;omega
      simp only[AHeap.get_allocAt,AHeap.get_set,AHeap.get_del,v1,v2,v3,v4,if_false]
      exact f1 j hj
   ·have de:((e:Int) != 0)=true:=by simp;omega
    rw[if_pos he]at hst
    simp (maxSteps:=400000) only[wF,storeA,reduceCtorEq,Nat.reduceAdd,Nat.reduceSub,Nat.reduceEqDiff,Nat.reduceLeDiff,Int.reduceToNat,Int.reduceLE,Int.reduceLT,Int.reduceAdd,Int.reduceNeg,Nat.reduceMul,T12,de]
    refine AInv.retK B19 (where_ok (hpar1.same wf1 fun j hj=>by rw[AHeap.get_set_ne _ _ (by omega),AHeap.get_allocAt_ne _ _ (by omega)])) (fun v J2 hv=>?_) (fun v J2 hv=>by cases hv.1)
    obtain⟨hv,hK2⟩:=hv
    cases hv
    have k2:=hK2.1
    simp only[AHeap.next_set,AHeap.next_allocAt]at k2
    simp (maxSteps:=400000) only[wF,storeA,reduceCtorEq,Nat.reduceAdd,Nat.reduceSub,Nat.reduceEqDiff,Nat.reduceLeDiff,Int.reduceToNat,Int.reduceLE,Int.reduceLT,Int.reduceAdd,Int.reduceNeg,Nat.reduceMul,T12]
    refine⟨_,_,Weak.allNil G _ _ _ _,?_,by omega,fun j hj=>?_⟩
    ·rw[hst]
     rfl
    ·rw[hK2.2,AHeap.get_set_ne _ _ (by omega),AHeap.get_allocAt_ne _ _ (by omega)]
     exact f1 j hj
  ·rw[if_neg hE]at hq
   have hv:=hq
   cases hv
   have hA:all2S text=([],0,0,newErr text):=by simp[all2S,hE]
   have d1:(((newErr text:Nat):Int) != 0)=true:=by simp;omega
   simp (maxSteps:=400000) only[wF,storeA,reduceCtorEq,Nat.reduceAdd,Nat.reduceSub,Nat.reduceEqDiff,Nat.reduceLeDiff,Int.reduceToNat,Int.reduceLE,Int.reduceLT,Int.reduceAdd,Int.reduceNeg,Nat.reduceMul,T12,d1]
   refine⟨_,_,Weak.allNil G _ _ _ _,?_,hK0⟩
   rw[hA]
   rfl
 ·obtain⟨⟨_,hq⟩,_⟩:=hq
  split at hq
  ·obtain⟨_,_,h,_⟩:=hq
   cases h
  ·cases hq
end Go.Ab
namespace Go.Ab
open Go Go.Lib Go.Proofs
theorem T14:(elemT Tryz.prog 23=some 39)∧(szT Tryz.prog 39=some 6)∧(aggT Tryz.prog 39=some true)∧(zeroA Tryz.prog 39=some (.agg [.int .i64 0,.str [],.str [],.nils,.int .i64 0,.int .i64 0])) ∧
  (fieldT Tryz.prog 39 0=some (0,3))∧(fieldT Tryz.prog 39 1=some (1,9))∧(fieldT Tryz.prog 39 2=some (2,9))∧(fieldT Tryz.prog 39 3=some (3,37))∧(fieldT Tryz.prog 39 4=some (4,3))∧(fieldT Tryz.prog 39 5=some (5,3)) ∧
  (aggT Tryz.prog 3=some false)∧(szT Tryz.prog 3=some 1)∧(aggT Tryz.prog 9=some false)∧(szT Tryz.prog 9=some 1)∧(aggT Tryz.prog 37=some false)∧(szT Tryz.prog 37=some 1) ∧
  (elemT Tryz.prog 37=some 59)∧(szT Tryz.prog 59=some 2)∧(aggT Tryz.prog 59=some true)∧(strT Tryz.prog 23=false)∧(mapT Tryz.prog 23=none)∧(strT Tryz.prog 37=false)∧(mapT Tryz.prog 37=none) ∧
  (eqT Tryz.prog 59=some [(0,.s),(1,.s)]):=
 ⟨by kernel_rfl,by kernel_rfl,by kernel_rfl,by kernel_rfl,by kernel_rfl,by kernel_rfl,by kernel_rfl,by kernel_rfl,by kernel_rfl,by kernel_rfl,by kernel_rfl,by kernel_rfl,by kernel_rfl,by kernel_rfl,by kernel_rfl,by kernel_rfl,by kernel_rfl,by kernel_rfl,by kernel_rfl,by kernel_rfl,by kernel_rfl,by kernel_rfl,by kernel_rfl,by kernel_rfl⟩
theorem evsA_at:∀(l:List Ev) (i:Nat) (h:i<l.length),((evsA l).drop (i*6)).take 6=evC l[i]
 | [],i,h=>by simp at h
 | a::l,0,_=>rfl
 | a::l,i+1,h=>by
  have:=evsA_at l i (by simpa using h)
  have e:(i+1)*6=i*6+1+1+1+1+1+1:=by omega
  simp only[evsA,List.flatMap_cons,e,evC,List.cons_append,List.nil_append,List.drop_succ_cons,List.getElem_cons_succ]at this ⊢
  exact this
def SmAt (n:Nat) (H:AHeap) (x:Nat × AHeap):Prop:=x.1≤n∧H.next≤x.2.next∧∀j,j<H.next→x.2.get j=H.get j
def SmAt2 (n:Nat) (J:AHeap) (x:Nat × AHeap):Prop:=x.1≤n∧J.next≤x.2.next∧∀j,j<J.next→x.2.get j=J.get j
set_option maxRecDepth 100000 in
theorem same_ok (G:Nat→Option (List AV)) (l:List Ev) (pl:Bool) (hl:l.length≤1000000000) (hla:∀x,x∈l→x.attrs.length≤1000000000):PureCall Tryz.prog G 14 [.lst l.length (evsA l),.lst l.length (evsA l),.bool pl] (.bool true):=by
 intro H
 refine ACalls.keep (ACalls.of Tryz.func14 S14_eq R14 N14 rfl rfl ?_)
 simp (maxSteps:=400000) only[wF,storeA,reduceCtorEq,Nat.reduceAdd,Nat.reduceSub,Nat.reduceEqDiff,Nat.reduceLeDiff,Int.reduceToNat,Int.reduceLE,Int.reduceLT,Int.reduceAdd,Int.reduceNeg,Nat.reduceMul,S14,N14,R14,T14,bne_self_eq_false]
 refine ATrS.loopK (κ:=Nat × AHeap) (fun x=>[.lst l.length (evsA l),.lst l.length (evsA l),.bool pl]++List.replicate 13 .und++[.lst l.length (evsA l),.int .i64 l.length,.int .i64 x.1]++List.replicate 72 .und) (fun x=>x.2)
  (SmAt l.length H) (fun x=>l.length-x.1) ⟨(0,H),⟨Nat.zero_le _,Nat.le_refl _,fun _ _=>rfl⟩,by simp[Fg],HW.refl _⟩ ?_
 rintro⟨i,J⟩ ⟨hi,hn,hJ⟩
 simp only at hi hn hJ
 by_cases hlt:i<l.length
 ·have d0:decide ((i:Int)<(l.length:Int))=true:=by simp;omega
  have q0:((i:Int)<(l.length:Int))=True:=by simp;omega
  have hat:=evsA_at l i hlt
  have hle:(i*6+6≤(evsA l).length)=True:=by rw[evsA_len];simp;omega
  have hxa:=hla l[i] (List.getElem_mem hlt)
  generalize l[i]=x at hat hxa
  have m1:(J.next=J.next+1)=False:=by simp
  have ew:IntKind.i64.wrap ((i:Int)+1)=((i+1:Nat):Int):=by rw[wrap64]<;>omega
  rcases Bool.eq_false_or_eq_true pl with hpl | hpl
  all_goals
   simp (maxSteps:=400000) only[wF,storeA,reduceCtorEq,Nat.reduceAdd,Nat.reduceSub,Nat.reduceEqDiff,Nat.reduceLeDiff,Int.reduceToNat,Int.reduceLE,Int.reduceLT,Int.reduceAdd,Int.reduceNeg,Nat.reduceMul,T14,d0,q0,hat,hle,m1,indexAddrA,evC,bne_self_eq_false,beq_self_eq_true,hpl]
   generalize hX:AHeap.set (AHeap.allocAt _ (J.next+1) _) _ _=X
   have xn:X.next=J.next+2:=by rw[←hX];simp only[AHeap.next_set,AHeap.next_allocAt];omega
   have x8:X.get J.next=some (.cells 39 [.int .i64 x.kind,.str x.name,.str x.text,.lst x.attrs.length (attrsA x.attrs),.int .i64 x.line,.int .i64 x.col]):=by rw[←hX,AHeap.get_set_ne _ _ (by omega),AHeap.get_allocAt_ne _ _ (by omega),AHeap.get_set_same]
   have x9:X.get (J.next+1)=some (.cells 39 [.int .i64 x.kind,.str x.name,.str x.text,.lst x.attrs.length (attrsA x.attrs),.int .i64 x.line,.int .i64 x.col]):=by rw[←hX,AHeap.get_set_same]
   have xo:∀j,j<H.next→X.get j=H.get j:=fun j hj=>by rw[←hX,AHeap.get_set_ne _ _ (by omega),AHeap.get_allocAt_ne _ _ (by omega),AHeap.get_set_ne _ _ (by omega),AHeap.get_allocAt_ne _ _ (by omega)];exact hJ j hj
   refine ATrS.loopK (κ:=Nat × AHeap) (fun y=>[.lst l.length (evsA l),.lst l.length (evsA l),.bool pl]++List.replicate 5 .und++[.ptr J.next 0,.ptr (J.next+1) 0]++List.replicate 6 .und++[.lst l.length (evsA l),.int .i64 l.length,.int .i64 i]++List.replicate 55 .und++[.int .i64 x.attrs.length,.int .i64 y.1]++List.replicate 15 .und) (fun y=>y.2)
    (SmAt2 x.attrs.length X) (fun y=>x.attrs.length-y.1) ⟨(0,X),⟨Nat.zero_le _,Nat.le_refl _,fun _ _=>rfl⟩,by simp[Fg,hpl],HW.refl _⟩ ?_
   rintro⟨k,Y⟩ ⟨hk,hYn,hY⟩
   simp only at hk hYn hY
   have y8:=(hY J.next (by omega)).trans x8
   have y9:=(hY (J.next+1) (by omega)).trans x9
   by_cases hkl:k<x.attrs.length
   ·have e0:decide ((k:Int)<(x.attrs.length:Int))=true:=by simp;omega
    have e1:((k:Int)<(x.attrs.length:Int))=True:=by simp;omega
    have hat2:=attrsA_at x.attrs k hkl
    have hle2:(k*2+2≤(attrsA x.attrs).length)=True:=by rw[attrsA_len];simp;omega
    have ew2:IntKind.i64.wrap ((k:Int)+1)=((k+1:Nat):Int):=by rw[wrap64]<;>omega
    generalize x.attrs[k]=at_ at hat2
    simp (maxSteps:=400000) only[wF,storeA,reduceCtorEq,Nat.reduceAdd,Nat.reduceSub,Nat.reduceEqDiff,Nat.reduceLeDiff,Int.reduceToNat,Int.reduceLE,Int.reduceLT,Int.reduceAdd,Int.reduceNeg,Nat.reduceMul,T14,e0]
    refine drawW_fixed mixedOrders L14_12_eq P14_12_eq ?_
    simp (maxSteps:=400000) only[wF,storeA,reduceCtorEq,Nat.reduceAdd,Nat.reduceSub,Nat.reduceEqDiff,Nat.reduceLeDiff,Int.reduceToNat,Int.reduceLE,Int.reduceLT,Int.reduceAdd,Int.reduceNeg,Nat.reduceMul,L14_12,T14,y8,y9,e1,indexAddrA,hat2,hle2,eqCells,eqCell,eqNeq,beq_self_eq_true,ew2]
    exact⟨(k+1,Y),⟨hkl,hYn,hY⟩,by simp only;omega,by simp[Fg],HW.refl _⟩
   ·have e0:decide ((k:Int)<(x.attrs.length:Int))=false:=by simp;omega
    simp (maxSteps:=400000) only[wF,storeA,reduceCtorEq,Nat.reduceAdd,Nat.reduceSub,Nat.reduceEqDiff,Nat.reduceLeDiff,Int.reduceToNat,Int.reduceLE,Int.reduceLT,Int.reduceAdd,Int.reduceNeg,Nat.reduceMul,T14,e0,ew]
    exact⟨(i+1,Y),⟨hlt,by simp only;omega,fun j hj=>by simp only;rw[hY j (by omega)];exact xo j hj⟩,by simp only;omega,by simp[Fg,hpl],HW.refl _⟩
 ·have d0:decide ((i:Int)<(l.length:Int))=false:=by simp;omega
  simp (maxSteps:=400000) only[wF,storeA,reduceCtorEq,Nat.reduceAdd,Nat.reduceSub,Nat.reduceEqDiff,Nat.reduceLeDiff,Int.reduceToNat,Int.reduceLE,Int.reduceLT,Int.reduceAdd,Int.reduceNeg,Nat.reduceMul,T14,d0]
  exact⟨hn,hJ⟩
end Go.Ab
namespace Go.Ab
open Go Go.Lib Go.Proofs
def worksA:List UInt8:=[60,97,32,120,61,39,49,38,108,116,59,39,62,98,60,33,91,67,68,65,84,65,91,60,93,93,62,38,35,54,53,59,60,47,97,62]
def worksB:List UInt8:=[60,97,62,60,98,62,60,47,97,62]
def worksEv:List Ev:=[⟨0,[97],[],[([120],[49,60])],1,1⟩,⟨2,[],[98,60,65],[],1,14⟩,⟨1,[97],[],[],1,33⟩]
set_option maxRecDepth 100000 in
theorem worksA_eq:all2S worksA=(worksEv,0,0,0):=by kernel_rfl
set_option maxRecDepth 100000 in
theorem worksB_eq:all2S worksB=([],1,7,110):=by kernel_rfl
end Go.Ab
namespace Go.Ab
open Go Go.Lib Go.Proofs
theorem VR.lstNils {C:Ctx} {n:Nat} {cells cells':List AV} (w:World) (h:Tzs 0 (fun _=>none) (some (.lst 0 [])) cells cells'):∀v,VR C (.lst n cells) v→VR C (.lst n cells') v:=by
 intro v hv
 have hl:=h.at.1
 have mv:∀(i:Nat) (y:AV),cells'[i]?=some y→∃x,cells[i]?=some x∧∀v,VR C x v→VR C y v:=by
  intro i y hy
  have hi:i<cells.length:=by rw[hl];exact(List.getElem?_eq_some_iff.1 hy).1
  refine⟨cells[i],List.getElem?_eq_getElem hi,?_⟩
  exact(h.at.2 i _ y (List.getElem?_eq_getElem hi) hy).move (Adv.refl C w) (fun l y v hy=>by cases hy) fun y v hy hx=>by
   cases hy;cases hx;exact .lstNil
 cases hv with
 | lst _ _ c off cap arr f hI hl2 h1 h2=>
  exact .lst n cells' c off cap arr f hI hl2 (fun i y hy=>by obtain⟨x,hx,_⟩:=mv i y hy;exact h1 i x hx) (fun i y hy=>by obtain⟨x,hx,hm⟩:=mv i y hy;exact hm _ (h2 i x hx))
 | lstNil=>
  cases cells' with
  | nil=>exact .lstNil
  | cons a l=>simp at hl
theorem Weak.vals {G:Nat→Option (List AV)} {x0 x1 x2 y1:AV} {H:AHeap} (h:∀(C:Ctx) (w:World) v,VR C x1 v→VR C y1 v):Weak G [x0,x1,x2] H [x0,y1,x2] H:=by
 intro C w R hH
 refine⟨C,hH,R,Adv.refl C w,fun ys hy=>?_⟩
 match ys,hy with
 | [a,b,c],hy=>
  exact VRs.cons (hy.2 0 _ _ rfl rfl) (VRs.cons (h C w _ (hy.2 1 _ _ rfl rfl)) (VRs.cons (hy.2 2 _ _ rfl rfl) (VRs.nil C)))
 | [],hy=>have:=hy.1;simp at this
 | [_],hy=>have:=hy.1;simp at this
 | [_,_],hy=>have:=hy.1;simp at this
 | _::_::_::_::_,hy=>have:=hy.1;simp at this
theorem Weak.freezeVals {G:Nat→Option (List AV)} {H:AHeap} {j:Nat} {e:TypeId} {size:Nat} {cs a a':List AV} (hj:H.get j=some (.row e size cs)) (hsz:0<size) (hv:Tzs j (fun len=>some (.lst len cs)) none a a') :
  Weak G a H a' (H.del j):=
 Weak.freeze hj hsz (Nat.le_refl _) (by simp[AHeap.get_del]) (fun i=>by
  by_cases h:i=j
  ·exact .inr (.inl (by simp[AHeap.get_del,h]))
  ·cases hg:H.get i with
   | none=>exact .inr (.inl (by simp[AHeap.get_del,h,hg]))
   | some o=>exact .inr (.inr ⟨o,o,rfl,by simp[AHeap.get_del,h,hg],.same o⟩)) hv
theorem Weak.freezeIn {G:Nat→Option (List AV)} {H:AHeap} {j m:Nat} {e e2:TypeId} {size size2:Nat} {cs cm cm' a:List AV} (hj:H.get j=some (.row e size cs)) (hsz:0<size) (hm:H.get m=some (.row e2 size2 cm)) (hjm:m≠j)
  (hc:Tzs j (fun len=>some (.lst len cs)) none cm cm'):Weak G a H a ((H.del j).set m (.row e2 size2 cm')):=
 Weak.freeze hj hsz (Nat.le_refl _) (by simp[AHeap.get_del,AHeap.get_set,Ne.symm hjm]) (fun i=>by
  by_cases h:i=j
  ·exact .inr (.inl (by simp[AHeap.get_del,AHeap.get_set,h,Ne.symm hjm]))
  ·by_cases h2:i=m
   ·subst h2
    exact .inr (.inr ⟨_,.row e2 size2 cm',hm,by simp[AHeap.get_set],.row _ _ _ _ hc⟩)
   ·cases hg:H.get i with
    | none=>exact .inr (.inl (by simp[AHeap.get_del,AHeap.get_set,h,h2,hg]))
    | some o=>exact .inr (.inr ⟨o,o,rfl,by simp[AHeap.get_del,AHeap.get_set,h,h2,hg],.same o⟩)) (Tzs.refl _)
set_option maxRecDepth 100000 in
theorem works_ok {G:Nat→Option (List AV)} (E:Env G) (B:EnvB G) (P:EnvP G) (R:EnvR G) (H:AHeap):ACalls Tryz.prog G 11 [] H fun r H'=>r = .ret (.bool true)∧Kept H H':=by
 refine ACalls.of Tryz.func11 S11_eq R11 N11 rfl rfl ?_
 simp (maxSteps:=400000) only[wF,storeA,reduceCtorEq,Nat.reduceAdd,Nat.reduceSub,Nat.reduceEqDiff,Nat.reduceLeDiff,Int.reduceToNat,Int.reduceLE,Int.reduceLT,Int.reduceAdd,Int.reduceNeg,Nat.reduceMul,S11,N11,R11,T11]
 refine AInv.retK B12 (all_ok E B P R worksA H) (fun v H1 hq=>?_) (fun v H1 hq=>by cases hq.1)
 obtain⟨hv,h1⟩:=hq
 cases hv
 rw[worksA_eq]
 have n1:=h1.1
 have q1:(H1.next+1=H1.next)=False:=by simp
 simp only[allA]
 simp (maxSteps:=400000) only[wF,storeA,reduceCtorEq,Nat.reduceAdd,Nat.reduceSub,Nat.reduceEqDiff,Nat.reduceLeDiff,Int.reduceToNat,Int.reduceLE,Int.reduceLT,Int.reduceAdd,Int.reduceNeg,Nat.reduceMul,T11,buildA,sliceLit,fillA,zerosA,AV.boxable,Nat.le_refl,Nat.reduceLT]
 generalize hX:AHeap.allocAt _ (H1.next+1) _=X
 have xn:X.next=H1.next+2:=by rw[←hX];simp only[AHeap.next_allocAt];omega
 have xk:X.get H1.next=some (.row 59 2 [.str [120],.str [49,60]]):=by rw[←hX,AHeap.get_allocAt_ne _ _ (by omega),AHeap.get_allocAt_same]
 have xo:∀j,j<H1.next→X.get j=H1.get j:=fun j hj=>by rw[←hX,AHeap.get_allocAt_ne _ _ (by omega),AHeap.get_allocAt_ne _ _ (by omega)]
 have xm:X.get (H1.next+1)=some (.row 39 6 [.int .i64 0,.str [97],.str [],.slc H1.next 1,.int .i64 1,.int .i64 1,.int .i64 2,.str [],.str [98,60,65],.nils,.int .i64 1,.int .i64 14,.int .i64 1,.str [97],.str [],.nils,.int .i64 1,.int .i64 33]):=by rw[←hX,AHeap.get_allocAt_same]
 refine AInv.retK B12 (all_ok E B P R worksB X) (fun v H2 hq=>?_) (fun v H2 hq=>by cases hq.1)
 obtain⟨hv,h2⟩:=hq
 cases hv
 rw[worksB_eq]
 have n2:=h2.1
 have yk:=(h2.2 _ (by omega)).trans xk
 have ym:=(h2.2 _ (by omega)).trans xm
 simp only[allA]
 have c0:(((0:Nat):Int)==0)=true:=rfl
 have c1:(((1:Nat):Int)==1)=true:=rfl
 have c7:(((7:Nat):Int)==7)=true:=rfl
 have c9:(((110:Nat):Int)==110)=true:=rfl
 simp (maxSteps:=400000) only[wF,storeA,reduceCtorEq,Nat.reduceAdd,Nat.reduceSub,Nat.reduceEqDiff,Nat.reduceLeDiff,Int.reduceToNat,Int.reduceLE,Int.reduceLT,Int.reduceAdd,Int.reduceNeg,Nat.reduceMul,T11,c0]
 have hw1:Weak G [.lst worksEv.length (evsA worksEv),.slc (H1.next+1) 3,.bool true] H2 [.lst worksEv.length (evsA worksEv),.slc (H1.next+1) 3,.bool true] ((H2.del H1.next).set (H1.next+1) (.row 39 6 [.int .i64 0,.str [97],.str [],.lst 1 [.str [120],.str [49,60]],.int .i64 1,.int .i64 1,.int .i64 2,.str [],.str [98,60,65],.nils,.int .i64 1,.int .i64 14,.int .i64 1,.str [97],.str [],.nils,.int .i64 1,.int .i64 33])):=
  Weak.freezeIn yk (by omega) ym (by omega) ⟨.same _,.same _,.same _,.slc _ _ rfl,Tzs.refl _⟩
 have hw2:=Weak.freezeVals (G:=G) (H:=((H2.del H1.next).set (H1.next+1) (.row 39 6 [.int .i64 0,.str [97],.str [],.lst 1 [.str [120],.str [49,60]],.int .i64 1,.int .i64 1,.int .i64 2,.str [],.str [98,60,65],.nils,.int .i64 1,.int .i64 14,.int .i64 1,.str [97],.str [],.nils,.int .i64 1,.int .i64 33]))) (j:=H1.next+1) (AHeap.get_set_same _ _ _) (by omega)
  (a:=[.lst worksEv.length (evsA worksEv),.slc (H1.next+1) 3,.bool true]) (a':=[.lst worksEv.length (evsA worksEv),.lst 3 [.int .i64 0,.str [97],.str [],.lst 1 [.str [120],.str [49,60]],.int .i64 1,.int .i64 1,.int .i64 2,.str [],.str [98,60,65],.nils,.int .i64 1,.int .i64 14,.int .i64 1,.str [97],.str [],.nils,.int .i64 1,.int .i64 33],.bool true]) ⟨.same _,.slc _ _ rfl,.same _,trivial⟩
 have hw3:Weak G [.lst worksEv.length (evsA worksEv),.lst 3 [.int .i64 0,.str [97],.str [],.lst 1 [.str [120],.str [49,60]],.int .i64 1,.int .i64 1,.int .i64 2,.str [],.str [98,60,65],.nils,.int .i64 1,.int .i64 14,.int .i64 1,.str [97],.str [],.nils,.int .i64 1,.int .i64 33],.bool true] (((H2.del H1.next).set (H1.next+1) (.row 39 6 [.int .i64 0,.str [97],.str [],.lst 1 [.str [120],.str [49,60]],.int .i64 1,.int .i64 1,.int .i64 2,.str [],.str [98,60,65],.nils,.int .i64 1,.int .i64 14,.int .i64 1,.str [97],.str [],.nils,.int .i64 1,.int .i64 33])).del (H1.next+1)) [.lst worksEv.length (evsA worksEv),.lst worksEv.length (evsA worksEv),.bool true] _:=
  Weak.vals fun C w v hv=>VR.lstNils (cells:=[.int .i64 0,.str [97],.str [],.lst 1 [.str [120],.str [49,60]],.int .i64 1,.int .i64 1,.int .i64 2,.str [],.str [98,60,65],.nils,.int .i64 1,.int .i64 14,.int .i64 1,.str [97],.str [],.nils,.int .i64 1,.int .i64 33]) (cells':=[.int .i64 0,.str [97],.str [],.lst 1 [.str [120],.str [49,60]],.int .i64 1,.int .i64 1,.int .i64 2,.str [],.str [98,60,65],.lst 0 [],.int .i64 1,.int .i64 14,.int .i64 1,.str [97],.str [],.lst 0 [],.int .i64 1,.int .i64 33]) w (show Tzs _ _ _ _ _ from ⟨.same _,.same _,.same _,.same _,.same _,.same _,.same _,.same _,.same _,.nil _ rfl,.same _,.same _,.same _,.same _,.same _,.nil _ rfl,.same _,.same _,trivial⟩) v hv
 refine AInv.retK B14 (ACalls.weak ((hw1.trans hw2).trans hw3) (same_ok G worksEv true (by decide) (by decide) _)) (fun v H3 hq=>?_) (fun v H3 hq=>by cases hq.1)
 obtain⟨hv,h3⟩:=hq
 cases hv
 have n3:=h3.1
 simp only[AHeap.next_del,AHeap.next_set]at n3
 simp (maxSteps:=400000) only[wF,storeA,reduceCtorEq,Nat.reduceAdd,Nat.reduceSub,Nat.reduceEqDiff,Nat.reduceLeDiff,Int.reduceToNat,Int.reduceLE,Int.reduceLT,Int.reduceAdd,Int.reduceNeg,Nat.reduceMul,T11,c1,c7,c9]
 refine⟨by omega,fun j hj=>?_⟩
 rw[h3.2,AHeap.get_del_ne _ (by omega),AHeap.get_set_ne _ _ (by omega),AHeap.get_del_ne _ (by omega),h2.2 j (by omega),xo j (by omega)]
 exact h1.2 j hj
end Go.Ab
