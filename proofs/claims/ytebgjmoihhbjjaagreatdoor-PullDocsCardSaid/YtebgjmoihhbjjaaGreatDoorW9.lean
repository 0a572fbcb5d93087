/- Attributes' values, walked. -/
import Derived.Test.YtebgjmoihhbjjaaGreatDoorW8
set_option linter.all false
namespace Go.Ab
open Go Go.Lib Go.Proofs
theorem encodeRune_len (r:Int):(Lib.encodeRune r).length≤4:=by
 simp only[Lib.encodeRune,List.length_map,Lib.encodeRuneZ]
 repeat' split
 all_goals simp
theorem hasPrefix_nil (p:List UInt8) (h:p≠[]):Lib.hasPrefix [] p=false:=by
 cases p with
 | nil=>exact absurd rfl h
 | cons=>rfl
theorem numS_len {name:List UInt8} {n:Nat} (h:numS name=some n):2≤name.length:=by
 unfold numS at h
 split at h
 ·rename_i h1
  have:=hasPrefix_len h1
  simp only[List.length_cons,List.length_nil]at this
  have hne:name.drop 1≠[]:=by
   split at h
   ·rename_i h2
    intro e
    rw[e]at h2
    simp[hasPrefix_nil]at h2
   ·exact(parseS_some h).1
  have:(name.drop 1).length≠0:=fun e=>hne (List.length_eq_zero_iff.1 e)
  simp only[List.length_drop]at this
  omega
 ·cases h
theorem entityS_len (l:List UInt8):(entityS l).1.length≤1:=by
 unfold entityS
 repeat' split
 all_goals simp
theorem refS_len {s:List UInt8} {i:Nat} (h:(refS s i).2.2=true):i+(refS s i).1.length≤(refS s i).2.1:=by
 unfold refS at h ⊢
 simp only at h ⊢
 split at h
 case isFalse=>simp at h
 rename_i h0
 rw[if_pos h0]
 split at h
 ·rename_i h2
  rw[if_pos h2]
  have:=entityS_len (Lib.cut (s.drop (i+1)) [59]).1
  simp only
  omega
 ·rename_i h2
  rw[if_neg h2]
  split at h
  ·simp at h
  ·rename_i n hn
   have h1:=numS_len hn
   have h2:(charS n).1.length≤4:=by
    unfold charS
    split
    ·exact encodeRune_len _
    ·simp
   simp only
   omega
def ValAt (s:List UInt8) (H:AHeap) (x:Nat × Nat × List UInt8 × AHeap):Prop:=
 x.1≤s.length∧x.2.2.1.length≤x.1∧valueL s x.1 x.2.2.1=valueS s∧BldAt x.2.2.2 H.next x.2.1 x.2.2.1∧H.next<x.2.1∧x.2.1<x.2.2.2.next∧∀j,j<H.next→x.2.2.2.get j=H.get j
theorem value_ok {G:Nat→Option (List AV)} (E:Env G) (B:EnvB G) (P:EnvP G) {s:List UInt8} (hs:s.length≤900000000) (H:AHeap) :
  ACalls Tryz.prog G 128 [.str s] H fun r H'=>r = .ret (.tup [.str (valueS s).1,.bool (valueS s).2])∧Kept H H':=by
 refine ACalls.wf fun wf=>?_
 refine ACalls.of Tryz.func128 S128_eq R128 N128 rfl rfl ?_
 simp (maxSteps:=400000) only[wF,storeA,reduceCtorEq,Nat.reduceAdd,Nat.reduceSub,Nat.reduceEqDiff,Nat.reduceLeDiff,Int.reduceToNat,Int.reduceLE,Int.reduceLT,Int.reduceAdd,Int.reduceNeg,Nat.reduceMul,S128,N128,R128,T128]
 generalize hH1:H.allocAt H.next _=H1
 have hb1:H1.get H.next=some (.cells 90 [.nilp,.nils]):=by rw[←hH1];simp
 have hn1:H1.next=H.next+1:=by rw[←hH1];simp[AHeap.next_allocAt]
 have hg1:∀j,j<H.next→H1.get j=H.get j:=fun j hj=>by rw[←hH1,AHeap.get_allocAt_ne _ _ (by omega)]
 obtain⟨H2,hw,hb2,hn2,hg2⟩:=Weak.builder G hb1 (by omega)
 rw[hn1]at hb2 hn2 hg2
 refine ATrS.weak (hw _) (ATrS.loopK (κ:=Nat × Nat × List UInt8 × AHeap) (fun x=>[.str s,.und,.und,.und,.ptr H.next 0,.int .i64 x.1]++List.replicate 42 .und) (fun x=>x.2.2.2)
  (ValAt s H) (fun x=>s.length-x.1) ⟨(0,H.next+1,[],H2),⟨Nat.zero_le _,Nat.le_refl _,(valueS_L s).symm,hb2,Nat.lt_succ_self _,by simp only;omega,fun j hj=>by simp only;rw[hg2 j (by omega) (by omega),hg1 j hj]⟩,by simp[Fg],HW.refl _⟩ ?_)
 rintro⟨i,k,acc,J⟩ ⟨hi,hacc,hv,hb,hk,hJn,hJ⟩
 simp only at hi hacc hv hb hk hJn hJ
 by_cases hlt:i<s.length
 ·have d0:decide ((i:Int)<s.length)=true:=by simp;omega
  have hst:=valueL_step acc hlt
  rw[hv]at hst
  have hget:s[i]?=some (s.getD i 0):=by simp[List.getD,List.getElem?_eq_getElem hlt]
  generalize s.getD i 0=c at hst hget
  have e60:((c.toNat:Int)==60)=(c==60):=byte_eq c 60 (by omega)
  have e38:((c.toNat:Int)==38)=(c==38):=byte_eq c 38 (by omega)
  cases h60:((c.toNat:Int)==60)with
  | true=>
   have:c=60:=by rw[e60]at h60;simpa using h60
   simp (maxSteps:=400000) only[wF,storeA,reduceCtorEq,Nat.reduceAdd,Nat.reduceSub,Nat.reduceEqDiff,Nat.reduceLeDiff,Int.reduceToNat,Int.reduceLE,Int.reduceLT,Int.reduceAdd,Int.reduceNeg,Nat.reduceMul,T128,d0,hget,h60]
   refine⟨by rw[hst,if_pos this],by omega,hJ⟩
  | false=>
   have n60:¬c=60:=by rw[e60]at h60;simpa using h60
   rw[if_neg n60]at hst
   cases h38:((c.toNat:Int)==38)with
   | true=>
    have:c=38:=by rw[e38]at h38;simpa using h38
    rw[if_pos this]at hst
    simp (maxSteps:=400000) only[wF,storeA,reduceCtorEq,Nat.reduceAdd,Nat.reduceSub,Nat.reduceEqDiff,Nat.reduceLeDiff,Int.reduceToNat,Int.reduceLE,Int.reduceLT,Int.reduceAdd,Int.reduceNeg,Nat.reduceMul,T128,d0,hget,h60,h38]
    refine AInv.retK B112 (reference_ok E B P hlt (by omega) J) (fun v J1 hq=>?_) (fun v J1 hq=>by cases hq.1)
    obtain⟨hq,hJ1⟩:=hq
    cases hq
    have hJ1n:=hJ1.1
    cases hok:(refS s i).2.2 with
    | false=>
     simp (maxSteps:=400000) only[wF,storeA,reduceCtorEq,Nat.reduceAdd,Nat.reduceSub,Nat.reduceEqDiff,Nat.reduceLeDiff,Int.reduceToNat,Int.reduceLE,Int.reduceLT,Int.reduceAdd,Int.reduceNeg,Nat.reduceMul,T128]
     refine⟨by rw[hst,hok];rfl,by omega,fun j hj=>by rw[hJ1.2 j (by omega)];exact hJ j hj⟩
    | true=>
     have hrb:=refS_bound hok
     have hrl:=refS_len hok
     have hb1:BldAt J1 H.next k acc:=by
      obtain⟨b0,g1,g2,g3⟩:=hb
      refine⟨b0,g1,?_,?_⟩
      ·rw[hJ1.2 _ (by omega)];exact g2
      ·rw[hJ1.2 _ (by omega)];exact g3
     simp (maxSteps:=400000) only[wF,storeA,reduceCtorEq,Nat.reduceAdd,Nat.reduceSub,Nat.reduceEqDiff,Nat.reduceLeDiff,Int.reduceToNat,Int.reduceLE,Int.reduceLT,Int.reduceAdd,Int.reduceNeg,Nat.reduceMul,T128]
     refine AInv.retK B40 (writeString_ok B hb1 (by omega)) (fun v J2 hq=>?_) (fun v J2 hq=>by cases hq.1)
     obtain⟨hq,k',hb2,hk',hn2,hg2⟩:=hq
     cases hq
     simp (maxSteps:=400000) only[wF,storeA,reduceCtorEq,Nat.reduceAdd,Nat.reduceSub,Nat.reduceEqDiff,Nat.reduceLeDiff,Int.reduceToNat,Int.reduceLE,Int.reduceLT,Int.reduceAdd,Int.reduceNeg,Nat.reduceMul,T128]
     refine⟨((refS s i).2.1,k',acc++(refS s i).1,J2),⟨by simp only;omega,by simp only[List.length_append];omega,?_,hb2,by simp only;omega,by simp only;omega,fun j hj=>?_⟩,by simp only;omega,by simp[Fg],HW.refl _⟩
     ·simp only
      rw[hst,hok]
      simp
     ·simp only
      rw[hg2 j (by omega) (by omega) (by omega),hJ1.2 j (by omega)]
      exact hJ j hj
   | false=>
    have n38:¬c=38:=by rw[e38]at h38;simpa using h38
    rw[if_neg n38]at hst
    have hw1:IntKind.i64.wrap ((i:Int)+1)=((i+1:Nat):Int):=by rw[wrap64]<;>omega
    simp (maxSteps:=400000) only[wF,storeA,reduceCtorEq,Nat.reduceAdd,Nat.reduceSub,Nat.reduceEqDiff,Nat.reduceLeDiff,Int.reduceToNat,Int.reduceLE,Int.reduceLT,Int.reduceAdd,Int.reduceNeg,Nat.reduceMul,T128,d0,hget,h60,h38]
    refine AInv.pureK B84 (white_ok G c) fun J1 h1=>?_
    have hb1:BldAt J1 H.next k acc:=by unfold BldAt;rw[h1.2];exact hb
    have h1n:=h1.1
    cases hwc:isW c with
    | true=>
     simp (maxSteps:=400000) only[wF,storeA,reduceCtorEq,Nat.reduceAdd,Nat.reduceSub,Nat.reduceEqDiff,Nat.reduceLeDiff,Int.reduceToNat,Int.reduceLE,Int.reduceLT,Int.reduceAdd,Int.reduceNeg,Nat.reduceMul,T128,hwc]
     refine AInv.retK B139 (writeByte_ok (c:=32) B hb1 (by omega)) (fun v J2 hq=>?_) (fun v J2 hq=>by cases hq.1)
     obtain⟨hq,k',hb2,hk',hn2,hg2⟩:=hq
     cases hq
     simp (maxSteps:=400000) only[wF,storeA,reduceCtorEq,Nat.reduceAdd,Nat.reduceSub,Nat.reduceEqDiff,Nat.reduceLeDiff,Int.reduceToNat,Int.reduceLE,Int.reduceLT,Int.reduceAdd,Int.reduceNeg,Nat.reduceMul,T128,hw1]
     refine⟨(i+1,k',acc++[32],J2),⟨by simp only;omega,by simp only[List.length_append,List.length_cons,List.length_nil];omega,?_,hb2,by simp only;omega,by simp only;omega,fun j hj=>?_⟩,by simp only;omega,by simp[Fg],HW.refl _⟩
     ·simp only
      rw[hst,hwc]
      rfl
     ·simp only
      rw[hg2 j (by omega) (by omega) (by omega),h1.2]
      exact hJ j hj
    | false=>
     simp (maxSteps:=400000) only[wF,storeA,reduceCtorEq,Nat.reduceAdd,Nat.reduceSub,Nat.reduceEqDiff,Nat.reduceLeDiff,Int.reduceToNat,Int.reduceLE,Int.reduceLT,Int.reduceAdd,Int.reduceNeg,Nat.reduceMul,T128,hwc,hget]
     refine AInv.retK B139 (writeByte_ok (c:=c) B hb1 (by omega)) (fun v J2 hq=>?_) (fun v J2 hq=>by cases hq.1)
     obtain⟨hq,k',hb2,hk',hn2,hg2⟩:=hq
     cases hq
     simp (maxSteps:=400000) only[wF,storeA,reduceCtorEq,Nat.reduceAdd,Nat.reduceSub,Nat.reduceEqDiff,Nat.reduceLeDiff,Int.reduceToNat,Int.reduceLE,Int.reduceLT,Int.reduceAdd,Int.reduceNeg,Nat.reduceMul,T128,hw1]
     refine⟨(i+1,k',acc++[c],J2),⟨by simp only;omega,by simp only[List.length_append,List.length_cons,List.length_nil];omega,?_,hb2,by simp only;omega,by simp only;omega,fun j hj=>?_⟩,by simp only;omega,by simp[Fg],HW.refl _⟩
     ·simp only
      rw[hst,hwc]
      rfl
     ·simp only
      rw[hg2 j (by omega) (by omega) (by omega),h1.2]
      exact hJ j hj
 ·have d0:decide ((i:Int)<s.length)=false:=by simp;omega
  rw[valueL_end acc (by omega)]at hv
  simp (maxSteps:=400000) only[wF,storeA,reduceCtorEq,Nat.reduceAdd,Nat.reduceSub,Nat.reduceEqDiff,Nat.reduceLeDiff,Int.reduceToNat,Int.reduceLE,Int.reduceLT,Int.reduceAdd,Int.reduceNeg,Nat.reduceMul,T128,d0]
  refine AInv.retK B.stringB (B.string J H.next k _ hb) (fun v J2 hq=>?_) (fun v J2 hq=>by cases hq.1)
  obtain⟨hq,hn2,hg2⟩:=hq
  cases hq
  simp (maxSteps:=400000) only[wF,storeA,reduceCtorEq,Nat.reduceAdd,Nat.reduceSub,Nat.reduceEqDiff,Nat.reduceLeDiff,Int.reduceToNat,Int.reduceLE,Int.reduceLT,Int.reduceAdd,Int.reduceNeg,Nat.reduceMul,T128]
  refine⟨by rw[←hv],by omega,fun j hj=>?_⟩
  rw[hg2,AHeap.get_del_ne _ (by omega)]
  exact hJ j hj
end Go.Ab
