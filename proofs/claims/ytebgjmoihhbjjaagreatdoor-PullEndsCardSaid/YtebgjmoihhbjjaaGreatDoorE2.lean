/- PullEnds, walked. -/
import Derived.Test.YtebgjmoihhbjjaaGreatDoorE1
import Derived.Test.YtebgjmoihhbjjaaGreatDoorBnd
import Derived.Test.YtebgjmoihhbjjaaGreatDoorCodes4
set_option linter.all false
namespace Go.Ab
open Go Go.Lib Go.Proofs

def endOf (one : Bool) : List UInt8 := if one = true then [13] else [13, 10]
theorem endOf_is (one : Bool) : IsEnd (endOf one) := by
  cases one
  · exact .inr rfl
  · exact .inl rfl
def noCr (text : List UInt8) : List UInt8 := Lib.replaceAll text [13] []
theorem noCr_no (text : List UInt8) : ∀ x ∈ noCr text, x ≠ 13 := by
  unfold noCr
  rw [replace1 text 13 [] (by decide)]
  intro x hx
  simp only [List.mem_flatMap] at hx
  obtain ⟨y, _, hy⟩ := hx
  split at hy
  · simp at hy
  · rename_i h
    simp only [List.mem_singleton] at hy
    rw [hy]
    exact h
theorem noCr_len (text : List UInt8) : (noCr text).length ≤ text.length := replaceAll_len (by simp) _

set_option maxRecDepth 100000 in
theorem ends_ok {G : Nat → Option (List AV)} (E : Env G) (B : EnvB G) (P : EnvP G) (R : EnvR G) (text : List UInt8) (one : Bool) (H : AHeap) : ACalls Tryz.prog G 6 [.str text, .bool one] H fun r H' => r = .ret (.bool true) ∧ Kept H H' := by
  refine ACalls.of Tryz.func6 S6_eq R6 N6 rfl rfl ?_
  by_cases hlong : 3000 < text.length
  · have d1 : decide ((text.length : Int) > 3000) = true := by simp; omega
    simp (maxSteps := 400000) only [wE, stepW, footA, makesA, ptrId, pairsOk, footApart, opS, opA, ev, putA, setC, ofConst, ofFlat, List.replicate, List.set, binA, intA, strA, unA, extractA, nilCheckA, bodyA, resultsA, oneOrTup, builtinA, lenA, indexA, minA, loadA, partA, storeA, setCells, fieldA, ptrAdd, AV.cellsOf, AV.one, reduceCtorEq, Nat.reduceAdd, Nat.reduceSub, Nat.reduceEqDiff, Nat.reduceLeDiff, Array.toList, Int.reduceToNat, Int.reduceLE, Int.reduceLT, Int.reduceAdd, Int.reduceNeg, Nat.reduceMul, S6, N6, R6, T6, d1]
    refine AInv.retK B11 (works_ok E B P R H) (fun v H1 hq => ?_) (fun v H1 hq => by cases hq.1)
    obtain ⟨hv, h1⟩ := hq
    cases hv
    simp (maxSteps := 400000) only [wE, stepW, footA, makesA, ptrId, pairsOk, footApart, opS, opA, ev, putA, setC, ofConst, ofFlat, List.replicate, List.set, binA, intA, strA, unA, extractA, nilCheckA, bodyA, resultsA, oneOrTup, builtinA, lenA, indexA, minA, loadA, partA, storeA, setCells, fieldA, ptrAdd, AV.cellsOf, AV.one, reduceCtorEq, Nat.reduceAdd, Nat.reduceSub, Nat.reduceEqDiff, Nat.reduceLeDiff, Array.toList, Int.reduceToNat, Int.reduceLE, Int.reduceLT, Int.reduceAdd, Int.reduceNeg, Nat.reduceMul, T6]
    exact h1
  have d1 : decide ((text.length : Int) > 3000) = false := by simp; omega
  simp (maxSteps := 400000) only [wE, stepW, footA, makesA, ptrId, pairsOk, footApart, opS, opA, ev, putA, setC, ofConst, ofFlat, List.replicate, List.set, binA, intA, strA, unA, extractA, nilCheckA, bodyA, resultsA, oneOrTup, builtinA, lenA, indexA, minA, loadA, partA, storeA, setCells, fieldA, ptrAdd, AV.cellsOf, AV.one, reduceCtorEq, Nat.reduceAdd, Nat.reduceSub, Nat.reduceEqDiff, Nat.reduceLeDiff, Array.toList, Int.reduceToNat, Int.reduceLE, Int.reduceLT, Int.reduceAdd, Int.reduceNeg, Nat.reduceMul, S6, N6, R6, T6, d1]
  refine AInv.pureK R.replB (R.repl _ _ _ (by omega) (by simp) (by simp)) fun H1 h1 => ?_
  have hn := noCr_len text
  have hno := noCr_no text
  show _
  rw [show Lib.replaceAll text [13] [] = noCr text from rfl]
  generalize noCr text = t at hn hno ⊢
  obtain ⟨b1, b2⟩ := all2_bounds t (by omega)
  have hA : ∀ b, all2S (Lib.replaceAll t [10] (endOf b)) = all2S t := fun b => by
    have he := endOf_is b
    rw [replace1 t 10 (endOf b) (by cases b <;> decide)]
    exact all2S_lfMap he (by omega) hno
  have hA0 := hA false
  have hA1 := hA true
  simp only [endOf, if_true, Bool.false_eq_true, if_false] at hA0 hA1
  generalize hr : all2S t = r at hA0 hA1 b1 b2
  cases one
  all_goals
    simp (maxSteps := 400000) only [wE, stepW, footA, makesA, ptrId, pairsOk, footApart, opS, opA, ev, putA, setC, ofConst, ofFlat, List.replicate, List.set, binA, intA, strA, unA, extractA, nilCheckA, bodyA, resultsA, oneOrTup, builtinA, lenA, indexA, minA, loadA, partA, storeA, setCells, fieldA, ptrAdd, AV.cellsOf, AV.one, reduceCtorEq, Nat.reduceAdd, Nat.reduceSub, Nat.reduceEqDiff, Nat.reduceLeDiff, Array.toList, Int.reduceToNat, Int.reduceLE, Int.reduceLT, Int.reduceAdd, Int.reduceNeg, Nat.reduceMul, T6]
    refine AInv.retK B12 (all_ok E B P R t H1) (fun v H2 hq => ?_) (fun v H2 hq => by cases hq.1)
    obtain ⟨hv, h2⟩ := hq
    cases hv
    rw [hr]
    simp only [allA]
    simp (maxSteps := 400000) only [wE, stepW, footA, makesA, ptrId, pairsOk, footApart, opS, opA, ev, putA, setC, ofConst, ofFlat, List.replicate, List.set, binA, intA, strA, unA, extractA, nilCheckA, bodyA, resultsA, oneOrTup, builtinA, lenA, indexA, minA, loadA, partA, storeA, setCells, fieldA, ptrAdd, AV.cellsOf, AV.one, reduceCtorEq, Nat.reduceAdd, Nat.reduceSub, Nat.reduceEqDiff, Nat.reduceLeDiff, Array.toList, Int.reduceToNat, Int.reduceLE, Int.reduceLT, Int.reduceAdd, Int.reduceNeg, Nat.reduceMul, T6]
    refine AInv.pureK R.replB (R.repl _ _ _ (by omega) (by simp) (by simp)) fun H3 h3 => ?_
    simp (maxSteps := 400000) only [wE, stepW, footA, makesA, ptrId, pairsOk, footApart, opS, opA, ev, putA, setC, ofConst, ofFlat, List.replicate, List.set, binA, intA, strA, unA, extractA, nilCheckA, bodyA, resultsA, oneOrTup, builtinA, lenA, indexA, minA, loadA, partA, storeA, setCells, fieldA, ptrAdd, AV.cellsOf, AV.one, reduceCtorEq, Nat.reduceAdd, Nat.reduceSub, Nat.reduceEqDiff, Nat.reduceLeDiff, Array.toList, Int.reduceToNat, Int.reduceLE, Int.reduceLT, Int.reduceAdd, Int.reduceNeg, Nat.reduceMul, T6]
    refine AInv.retK B12 (all_ok E B P R _ H3) (fun v H4 hq => ?_) (fun v H4 hq => by cases hq.1)
    obtain ⟨hv, h4⟩ := hq
    cases hv
    first | rw [hA0] | rw [hA1]
    simp only [allA]
    simp (maxSteps := 400000) only [wE, stepW, footA, makesA, ptrId, pairsOk, footApart, opS, opA, ev, putA, setC, ofConst, ofFlat, List.replicate, List.set, binA, intA, strA, unA, extractA, nilCheckA, bodyA, resultsA, oneOrTup, builtinA, lenA, indexA, minA, loadA, partA, storeA, setCells, fieldA, ptrAdd, AV.cellsOf, AV.one, reduceCtorEq, Nat.reduceAdd, Nat.reduceSub, Nat.reduceEqDiff, Nat.reduceLeDiff, Array.toList, Int.reduceToNat, Int.reduceLE, Int.reduceLT, Int.reduceAdd, Int.reduceNeg, Nat.reduceMul, T6, beq_self_eq_true]
    refine AInv.pureK B14 (same_ok G r.1 true (by omega) (fun x hx => by have := b2 x hx; omega)) fun H5 h5 => ?_
    simp (maxSteps := 400000) only [wE, stepW, footA, makesA, ptrId, pairsOk, footApart, opS, opA, ev, putA, setC, ofConst, ofFlat, List.replicate, List.set, binA, intA, strA, unA, extractA, nilCheckA, bodyA, resultsA, oneOrTup, builtinA, lenA, indexA, minA, loadA, partA, storeA, setCells, fieldA, ptrAdd, AV.cellsOf, AV.one, reduceCtorEq, Nat.reduceAdd, Nat.reduceSub, Nat.reduceEqDiff, Nat.reduceLeDiff, Array.toList, Int.reduceToNat, Int.reduceLE, Int.reduceLT, Int.reduceAdd, Int.reduceNeg, Nat.reduceMul, T6]
    refine AInv.retK B11 (works_ok E B P R H5) (fun v H6 hq => ?_) (fun v H6 hq => by cases hq.1)
    obtain ⟨hv, h6⟩ := hq
    cases hv
    simp (maxSteps := 400000) only [wE, stepW, footA, makesA, ptrId, pairsOk, footApart, opS, opA, ev, putA, setC, ofConst, ofFlat, List.replicate, List.set, binA, intA, strA, unA, extractA, nilCheckA, bodyA, resultsA, oneOrTup, builtinA, lenA, indexA, minA, loadA, partA, storeA, setCells, fieldA, ptrAdd, AV.cellsOf, AV.one, reduceCtorEq, Nat.reduceAdd, Nat.reduceSub, Nat.reduceEqDiff, Nat.reduceLeDiff, Array.toList, Int.reduceToNat, Int.reduceLE, Int.reduceLT, Int.reduceAdd, Int.reduceNeg, Nat.reduceMul, T6]
    exact ((((h1.kept.trans h2).trans h3.kept).trans h4).trans h5.kept).trans h6
end Go.Ab
