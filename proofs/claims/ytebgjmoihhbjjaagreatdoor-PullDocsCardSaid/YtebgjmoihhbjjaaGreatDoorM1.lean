/- PullDocs, walked. -/
import Derived.Test.YtebgjmoihhbjjaaGreatDoorRD
import Derived.Test.YtebgjmoihhbjjaaGreatDoorLA
import Derived.Test.YtebgjmoihhbjjaaGreatDoorBnd
import Derived.Test.YtebgjmoihhbjjaaGreatDoorCodes7
set_option linter.all false
namespace Go.Ab
open Go Go.Lib Go.Proofs
theorem all2_ref {text:List UInt8} (hl:text.length≤3000):all2S text=refAllS text:=by
 unfold all2S refAllS newErr
 rw[if_neg (show ¬1048576<text.length by omega)]
 cases ht:isTextS text with
 | true=>
  simp only[if_true]
  rw[linesS_ends,all_ref (isTextS_ends _ text (Nat.le_refl _) ht)]
 | false=>rfl
set_option maxRecDepth 100000 in
theorem docs_ok {G:Nat→Option (List AV)} (E:Env G) (B:EnvB G) (P:EnvP G) (R:EnvR G) (text:List UInt8) (H:AHeap):ACalls Tryz.prog G 3 [.str text] H fun r H'=>r = .ret (.bool true)∧Kept H H':=by
 refine ACalls.of Tryz.func3 S3_eq R3 N3 rfl rfl ?_
 by_cases hlong:3000<text.length
 ·have d1:decide ((text.length:Int)>3000)=true:=by simp;omega
  simp (maxSteps:=400000) only[wF,storeA,reduceCtorEq,Nat.reduceAdd,Nat.reduceSub,Nat.reduceEqDiff,Nat.reduceLeDiff,Int.reduceToNat,Int.reduceLE,Int.reduceLT,Int.reduceAdd,Int.reduceNeg,Nat.reduceMul,S3,N3,R3,T3,d1]
  refine AInv.retK B11 (works_ok E B P R H) (fun v H1 hq=>?_) (fun v H1 hq=>by cases hq.1)
  obtain⟨hv,h1⟩:=hq
  cases hv
  simp (maxSteps:=400000) only[wF,storeA,reduceCtorEq,Nat.reduceAdd,Nat.reduceSub,Nat.reduceEqDiff,Nat.reduceLeDiff,Int.reduceToNat,Int.reduceLE,Int.reduceLT,Int.reduceAdd,Int.reduceNeg,Nat.reduceMul,T3]
  exact h1
 have d1:decide ((text.length:Int)>3000)=false:=by simp;omega
 simp (maxSteps:=400000) only[wF,storeA,reduceCtorEq,Nat.reduceAdd,Nat.reduceSub,Nat.reduceEqDiff,Nat.reduceLeDiff,Int.reduceToNat,Int.reduceLE,Int.reduceLT,Int.reduceAdd,Int.reduceNeg,Nat.reduceMul,S3,N3,R3,T3,d1]
 refine AInv.retK B12 (all_ok E B P R text H) (fun v H1 hq=>?_) (fun v H1 hq=>by cases hq.1)
 obtain⟨hv,h1⟩:=hq
 cases hv
 have n1:=h1.1
 have hbd:=all2_bounds text (by omega)
 rw[all2_ref (by omega)]at hbd ⊢
 simp only[allA]
 simp (maxSteps:=400000) only[wF,storeA,reduceCtorEq,Nat.reduceAdd,Nat.reduceSub,Nat.reduceEqDiff,Nat.reduceLeDiff,Int.reduceToNat,Int.reduceLE,Int.reduceLT,Int.reduceAdd,Int.reduceNeg,Nat.reduceMul,T3]
 refine AInv.retK B13 (r_all_ok G (by omega) H1) (fun v H2 hq=>?_) (fun v H2 hq=>by cases hq.1)
 obtain⟨hv,h2⟩:=hq
 cases hv
 have n2:=h2.1
 simp only[allA]
 generalize refAllS text=X at hbd
 obtain⟨l,a,b,e⟩:=X
 simp only at hbd ⊢
 simp (maxSteps:=400000) only[wF,storeA,reduceCtorEq,Nat.reduceAdd,Nat.reduceSub,Nat.reduceEqDiff,Nat.reduceLeDiff,Int.reduceToNat,Int.reduceLE,Int.reduceLT,Int.reduceAdd,Int.reduceNeg,Nat.reduceMul,T3,beq_self_eq_true]
 refine AInv.pureK B14 (same_ok G l true (by omega) fun x hx=>by have:=hbd.2 x hx;omega) fun H3 h3=>?_
 have n3:=h3.1
 simp (maxSteps:=400000) only[wF,storeA,reduceCtorEq,Nat.reduceAdd,Nat.reduceSub,Nat.reduceEqDiff,Nat.reduceLeDiff,Int.reduceToNat,Int.reduceLE,Int.reduceLT,Int.reduceAdd,Int.reduceNeg,Nat.reduceMul,T3]
 refine AInv.retK B11 (works_ok E B P R H3) (fun v H4 hq=>?_) (fun v H4 hq=>by cases hq.1)
 obtain⟨hv,h4⟩:=hq
 cases hv
 have n4:=h4.1
 simp (maxSteps:=400000) only[wF,storeA,reduceCtorEq,Nat.reduceAdd,Nat.reduceSub,Nat.reduceEqDiff,Nat.reduceLeDiff,Int.reduceToNat,Int.reduceLE,Int.reduceLT,Int.reduceAdd,Int.reduceNeg,Nat.reduceMul,T3]
 exact⟨by omega,fun j hj=>by rw[h4.2 j (by omega),h3.2,h2.2 j (by omega)];exact h1.2 j hj⟩
end Go.Ab
