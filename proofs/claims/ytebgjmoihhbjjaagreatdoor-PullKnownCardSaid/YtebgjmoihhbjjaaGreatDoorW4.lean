/- Parts of names, walked. -/
import Derived.Test.YtebgjmoihhbjjaaGreatDoorW3
set_option linter.all false
namespace Go.Ab
open Go Go.Lib Go.Proofs

/-- What is left of a name's part at k decides about the whole. -/
def partAt (s : List UInt8) (k : Nat) : Prop := partL (decide (k = 0)) (s.drop k) = partL true s

theorem isPart_ok (G : Nat → Option (List AV)) {s : List UInt8} (hs : s.length ≤ 1000000000) : PureCall Tryz.prog G 73 [.str s] (.bool (isPartS s)) := by
  intro H
  refine ACalls.keep (ACalls.of Tryz.func73 S73_eq R73 N73 rfl rfl ?_)
  simp (maxSteps := 400000) only [wE, stepW, footA, makesA, ptrId, pairsOk, footApart, opS, opA, ev, putA, setC, ofConst, ofFlat, List.replicate, List.set, binA, intA, strA, unA, extractA, nilCheckA, bodyA, resultsA, oneOrTup, builtinA, lenA, indexA, minA, loadA, partA, storeA, setCells, fieldA, ptrAdd, AV.cellsOf, AV.one, reduceCtorEq, Nat.reduceAdd, Nat.reduceSub, Nat.reduceEqDiff, Nat.reduceLeDiff, Array.toList, Int.reduceToNat, Int.reduceLE, Int.reduceLT, Int.reduceAdd, Int.reduceNeg, Nat.reduceMul, S73, N73, R73, T73]
  refine ATrS.loopK (κ := Nat × AHeap) (fun x => [.str s, .und, .und, .und, .und, .str s, .ptr H.next 0] ++ List.replicate 33 .und) (fun x => x.2)
    (fun x => x.1 ≤ s.length ∧ partAt s x.1 ∧ x.2.get H.next = some (.iter s x.1) ∧ H.next < x.2.next ∧ ∀ j, j < H.next → x.2.get j = H.get j) (fun x => s.length - x.1)
    ⟨(0, _), ⟨Nat.zero_le _, rfl, by simp [AHeap.get_allocAt], by simp [AHeap.next_allocAt], fun j hj => by simp [AHeap.get_allocAt]; omega⟩, by simp [Fg], HW.refl _⟩ ?_
  rintro ⟨k, J⟩ ⟨hk, ht, hi, hn, hj⟩
  simp only at hk ht hi hn hj
  by_cases hlt : k < s.length
  · have hd := dec_drop hlt
    have ht : partL (decide (k = 0)) (s.drop k) = partL true s := ht
    have hst := partL_step (decide (k = 0)) (drop_ne hlt)
    rw [drop_drop_add] at hst
    have hz : decide (k + (dec (s.drop k)).2 = 0) = false := decide_eq_false (by omega)
    have hp : partL false (s.drop (k + (dec (s.drop k)).2)) = partL true s → partAt s (k + (dec (s.drop k)).2) := fun h => by unfold partAt; rw [hz]; exact h
    simp (maxSteps := 400000) only [wE, stepW, footA, makesA, ptrId, pairsOk, footApart, opS, opA, ev, putA, setC, ofConst, ofFlat, List.replicate, List.set, binA, intA, strA, unA, extractA, nilCheckA, bodyA, resultsA, oneOrTup, builtinA, lenA, indexA, minA, loadA, partA, storeA, setCells, fieldA, ptrAdd, AV.cellsOf, AV.one, reduceCtorEq, Nat.reduceAdd, Nat.reduceSub, Nat.reduceEqDiff, Nat.reduceLeDiff, Array.toList, Int.reduceToNat, Int.reduceLE, Int.reduceLT, Int.reduceAdd, Int.reduceNeg, Nat.reduceMul, T73, nextA, hi, hlt, dec_at]
    refine AInv.pureK B97 (isLetter_ok G _) fun J1 h1 => ?_
    have g1 : ∀ j, j < H.next → J1.get j = H.get j := fun j hj' => by rw [h1.2, AHeap.get_set_ne _ _ (by omega)]; exact hj j hj'
    have n1 : H.next < J1.next := by have := h1.1; simp only [AHeap.next_set] at this; omega
    have i1 : J1.get H.next = some (.iter s (k + (dec (s.drop k)).2)) := by rw [h1.2]; simp
    generalize hc : (dec (s.drop k)).1 = c at hst ⊢
    cases hl : isLetterS (c : Nat) with
    | true =>
      simp (maxSteps := 400000) only [wE, stepW, footA, makesA, ptrId, pairsOk, footApart, opS, opA, ev, putA, setC, ofConst, ofFlat, List.replicate, List.set, binA, intA, strA, unA, extractA, nilCheckA, bodyA, resultsA, oneOrTup, builtinA, lenA, indexA, minA, loadA, partA, storeA, setCells, fieldA, ptrAdd, AV.cellsOf, AV.one, reduceCtorEq, Nat.reduceAdd, Nat.reduceSub, Nat.reduceEqDiff, Nat.reduceLeDiff, Array.toList, Int.reduceToNat, Int.reduceLE, Int.reduceLT, Int.reduceAdd, Int.reduceNeg, Nat.reduceMul, T73, hl]
      refine ⟨(k + (dec (s.drop k)).2, _), ⟨hd.2, hp ?_, i1, n1, g1⟩, by simp only; omega, by simp [Fg], HW.refl _⟩
      rw [← ht, hst]
      simp [partChar, hl]
    | false =>
      by_cases h0 : k = 0
      · have h00 : ((k : Int) == 0) = true := by simp; omega
        simp (maxSteps := 400000) only [wE, stepW, footA, makesA, ptrId, pairsOk, footApart, opS, opA, ev, putA, setC, ofConst, ofFlat, List.replicate, List.set, binA, intA, strA, unA, extractA, nilCheckA, bodyA, resultsA, oneOrTup, builtinA, lenA, indexA, minA, loadA, partA, storeA, setCells, fieldA, ptrAdd, AV.cellsOf, AV.one, reduceCtorEq, Nat.reduceAdd, Nat.reduceSub, Nat.reduceEqDiff, Nat.reduceLeDiff, Array.toList, Int.reduceToNat, Int.reduceLE, Int.reduceLT, Int.reduceAdd, Int.reduceNeg, Nat.reduceMul, T73, hl, h00]
        refine ⟨?_, by omega, g1⟩
        have : partL true s = false := by
          rw [← ht, hst]
          simp [partChar, hl, h0]
        unfold partL at this
        simp [isPartS, this]
      · have h0' : decide (k = 0) = false := by simp [h0]
        have h00 : ((k : Int) == 0) = false := by simp; omega
        cases b1 : ((c : Int) != 45) with
        | false =>
          simp (maxSteps := 400000) only [wE, stepW, footA, makesA, ptrId, pairsOk, footApart, opS, opA, ev, putA, setC, ofConst, ofFlat, List.replicate, List.set, binA, intA, strA, unA, extractA, nilCheckA, bodyA, resultsA, oneOrTup, builtinA, lenA, indexA, minA, loadA, partA, storeA, setCells, fieldA, ptrAdd, AV.cellsOf, AV.one, reduceCtorEq, Nat.reduceAdd, Nat.reduceSub, Nat.reduceEqDiff, Nat.reduceLeDiff, Array.toList, Int.reduceToNat, Int.reduceLE, Int.reduceLT, Int.reduceAdd, Int.reduceNeg, Nat.reduceMul, T73, hl, h00, b1]
          refine ⟨(k + (dec (s.drop k)).2, _), ⟨hd.2, hp ?_, i1, n1, g1⟩, by simp only; omega, by simp [Fg], HW.refl _⟩
          rw [← ht, hst, h0']
          simp at b1
          simp [partChar]
          omega
        | true =>
          cases b2 : ((c : Int) != 46) with
          | false =>
            simp (maxSteps := 400000) only [wE, stepW, footA, makesA, ptrId, pairsOk, footApart, opS, opA, ev, putA, setC, ofConst, ofFlat, List.replicate, List.set, binA, intA, strA, unA, extractA, nilCheckA, bodyA, resultsA, oneOrTup, builtinA, lenA, indexA, minA, loadA, partA, storeA, setCells, fieldA, ptrAdd, AV.cellsOf, AV.one, reduceCtorEq, Nat.reduceAdd, Nat.reduceSub, Nat.reduceEqDiff, Nat.reduceLeDiff, Array.toList, Int.reduceToNat, Int.reduceLE, Int.reduceLT, Int.reduceAdd, Int.reduceNeg, Nat.reduceMul, T73, hl, h00, b1, b2]
            refine ⟨(k + (dec (s.drop k)).2, _), ⟨hd.2, hp ?_, i1, n1, g1⟩, by simp only; omega, by simp [Fg], HW.refl _⟩
            rw [← ht, hst, h0']
            simp at b1 b2
            simp [partChar]
            omega
          | true =>
            cases b3 : ((c : Int) != 183) with
            | false =>
              simp (maxSteps := 400000) only [wE, stepW, footA, makesA, ptrId, pairsOk, footApart, opS, opA, ev, putA, setC, ofConst, ofFlat, List.replicate, List.set, binA, intA, strA, unA, extractA, nilCheckA, bodyA, resultsA, oneOrTup, builtinA, lenA, indexA, minA, loadA, partA, storeA, setCells, fieldA, ptrAdd, AV.cellsOf, AV.one, reduceCtorEq, Nat.reduceAdd, Nat.reduceSub, Nat.reduceEqDiff, Nat.reduceLeDiff, Array.toList, Int.reduceToNat, Int.reduceLE, Int.reduceLT, Int.reduceAdd, Int.reduceNeg, Nat.reduceMul, T73, hl, h00, b1, b2, b3]
              refine ⟨(k + (dec (s.drop k)).2, _), ⟨hd.2, hp ?_, i1, n1, g1⟩, by simp only; omega, by simp [Fg], HW.refl _⟩
              rw [← ht, hst, h0']
              simp at b1 b2 b3
              simp [partChar]
              omega
            | true =>
              cases b4 : decide ((c : Int) < 48) with
              | true =>
                simp (maxSteps := 400000) only [wE, stepW, footA, makesA, ptrId, pairsOk, footApart, opS, opA, ev, putA, setC, ofConst, ofFlat, List.replicate, List.set, binA, intA, strA, unA, extractA, nilCheckA, bodyA, resultsA, oneOrTup, builtinA, lenA, indexA, minA, loadA, partA, storeA, setCells, fieldA, ptrAdd, AV.cellsOf, AV.one, reduceCtorEq, Nat.reduceAdd, Nat.reduceSub, Nat.reduceEqDiff, Nat.reduceLeDiff, Array.toList, Int.reduceToNat, Int.reduceLE, Int.reduceLT, Int.reduceAdd, Int.reduceNeg, Nat.reduceMul, T73, hl, h00, b1, b2, b3, b4]
                refine ⟨?_, by omega, g1⟩
                have : partL true s = false := by
                  rw [← ht, hst, h0']
                  simp at b1 b2 b3 b4
                  simp [partChar, hl]
                  omega
                unfold partL at this
                simp [isPartS, this]
              | false =>
                cases b5 : decide ((c : Int) > 57) with
                | true =>
                  simp (maxSteps := 400000) only [wE, stepW, footA, makesA, ptrId, pairsOk, footApart, opS, opA, ev, putA, setC, ofConst, ofFlat, List.replicate, List.set, binA, intA, strA, unA, extractA, nilCheckA, bodyA, resultsA, oneOrTup, builtinA, lenA, indexA, minA, loadA, partA, storeA, setCells, fieldA, ptrAdd, AV.cellsOf, AV.one, reduceCtorEq, Nat.reduceAdd, Nat.reduceSub, Nat.reduceEqDiff, Nat.reduceLeDiff, Array.toList, Int.reduceToNat, Int.reduceLE, Int.reduceLT, Int.reduceAdd, Int.reduceNeg, Nat.reduceMul, T73, hl, h00, b1, b2, b3, b4, b5]
                  refine ⟨?_, by omega, g1⟩
                  have : partL true s = false := by
                    rw [← ht, hst, h0']
                    simp at b1 b2 b3 b4 b5
                    simp [partChar, hl]
                    omega
                  unfold partL at this
                  simp [isPartS, this]
                | false =>
                  simp (maxSteps := 400000) only [wE, stepW, footA, makesA, ptrId, pairsOk, footApart, opS, opA, ev, putA, setC, ofConst, ofFlat, List.replicate, List.set, binA, intA, strA, unA, extractA, nilCheckA, bodyA, resultsA, oneOrTup, builtinA, lenA, indexA, minA, loadA, partA, storeA, setCells, fieldA, ptrAdd, AV.cellsOf, AV.one, reduceCtorEq, Nat.reduceAdd, Nat.reduceSub, Nat.reduceEqDiff, Nat.reduceLeDiff, Array.toList, Int.reduceToNat, Int.reduceLE, Int.reduceLT, Int.reduceAdd, Int.reduceNeg, Nat.reduceMul, T73, hl, h00, b1, b2, b3, b4, b5]
                  refine ⟨(k + (dec (s.drop k)).2, _), ⟨hd.2, hp ?_, i1, n1, g1⟩, by simp only; omega, by simp [Fg], HW.refl _⟩
                  rw [← ht, hst, h0']
                  simp at b1 b2 b3 b4 b5
                  simp [partChar]
                  omega
  · simp (maxSteps := 400000) only [wE, stepW, footA, makesA, ptrId, pairsOk, footApart, opS, opA, ev, putA, setC, ofConst, ofFlat, List.replicate, List.set, binA, intA, strA, unA, extractA, nilCheckA, bodyA, resultsA, oneOrTup, builtinA, lenA, indexA, minA, loadA, partA, storeA, setCells, fieldA, ptrAdd, AV.cellsOf, AV.one, reduceCtorEq, Nat.reduceAdd, Nat.reduceSub, Nat.reduceEqDiff, Nat.reduceLeDiff, Array.toList, Int.reduceToNat, Int.reduceLE, Int.reduceLT, Int.reduceAdd, Int.reduceNeg, Nat.reduceMul, T73, nextA, hi, hlt]
    refine ⟨?_, by omega, hj⟩
    have ht : partL (decide (k = 0)) (s.drop k) = partL true s := ht
    rw [List.drop_eq_nil_of_le (by omega), partL_nil] at ht
    unfold partL at ht
    simp [isPartS, ← ht]
    cases s <;> rfl

end Go.Ab
