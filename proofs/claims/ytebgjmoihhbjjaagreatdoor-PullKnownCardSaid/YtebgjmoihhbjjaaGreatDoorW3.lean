/- Texts and names, walked. -/
import Derived.Test.YtebgjmoihhbjjaaGreatDoorW2
set_option linter.all false
namespace Go.Ab
open Go Go.Lib Go.Proofs

theorem hasPrefix_bool (l p : List UInt8) : Lib.hasPrefix l p = true ∨ Lib.hasPrefix l p = false := by cases Lib.hasPrefix l p <;> simp
theorem drop_drop_add (s : List UInt8) (i k : Nat) : (s.drop i).drop k = s.drop (i + k) := by rw [List.drop_drop]

theorem isText_ok {G : Nat → Option (List AV)} (E : Env G) {s : List UInt8} (hs : s.length ≤ 1000000000) : PureCall Tryz.prog G 25 [.str s] (.bool (isTextS s)) := by
  intro H
  refine ACalls.keep (ACalls.of Tryz.func25 S25_eq R25 N25 rfl rfl ?_)
  simp (maxSteps := 400000) only [wE, stepW, footA, makesA, ptrId, pairsOk, footApart, opS, opA, ev, putA, setC, ofConst, ofFlat, List.replicate, List.set, binA, intA, strA, unA, extractA, nilCheckA, bodyA, resultsA, oneOrTup, builtinA, lenA, indexA, minA, loadA, partA, storeA, setCells, fieldA, ptrAdd, AV.cellsOf, AV.one, reduceCtorEq, Nat.reduceAdd, Nat.reduceSub, Nat.reduceEqDiff, Nat.reduceLeDiff, Array.toList, Int.reduceToNat, Int.reduceLE, Int.reduceLT, Int.reduceAdd, Int.reduceNeg, Nat.reduceMul, S25, N25, R25, T25]
  refine ATrS.loopK (κ := Nat × AHeap) (fun x => [.str s, .und, .und, .und, .und, .str s, .ptr H.next 0] ++ List.replicate 18 .und) (fun x => x.2)
    (fun x => x.1 ≤ s.length ∧ isTextS (s.drop x.1) = isTextS s ∧ x.2.get H.next = some (.iter s x.1) ∧ H.next < x.2.next ∧ ∀ j, j < H.next → x.2.get j = H.get j) (fun x => s.length - x.1)
    ⟨(0, _), ⟨Nat.zero_le _, rfl, by simp [AHeap.get_allocAt], by simp [AHeap.next_allocAt], fun j hj => by simp [AHeap.get_allocAt]; omega⟩, by simp [Fg], HW.refl _⟩ ?_
  rintro ⟨k, J⟩ ⟨hk, ht, hi, hn, hj⟩
  simp only at hk ht hi hn hj
  by_cases hlt : k < s.length
  · have hd := dec_drop hlt
    have hst := isTextS_step (drop_ne hlt)
    rw [drop_drop_add] at hst
    have hks : ((k : Int) ≤ s.length) = True := by simp; omega
    simp (maxSteps := 400000) only [wE, stepW, footA, makesA, ptrId, pairsOk, footApart, opS, opA, ev, putA, setC, ofConst, ofFlat, List.replicate, List.set, binA, intA, strA, unA, extractA, nilCheckA, bodyA, resultsA, oneOrTup, builtinA, lenA, indexA, minA, loadA, partA, storeA, setCells, fieldA, ptrAdd, AV.cellsOf, AV.one, reduceCtorEq, Nat.reduceAdd, Nat.reduceSub, Nat.reduceEqDiff, Nat.reduceLeDiff, Array.toList, Int.reduceToNat, Int.reduceLE, Int.reduceLT, Int.reduceAdd, Int.reduceNeg, Nat.reduceMul, T25, nextA, hi, hlt, dec_at]
    refine AInv.pureK B48 (isChar_ok G _) fun J1 h1 => ?_
    have g1 : ∀ j, j < H.next → J1.get j = H.get j := fun j hj' => by rw [h1.2, AHeap.get_set_ne _ _ (by omega)]; exact hj j hj'
    have n1 : H.next < J1.next := by have := h1.1; simp only [AHeap.next_set] at this; omega
    have i1 : J1.get H.next = some (.iter s (k + (dec (s.drop k)).2)) := by rw [h1.2]; simp
    cases hc : isCharS ((dec (s.drop k)).1 : Nat) with
    | false =>
      simp (maxSteps := 400000) only [wE, stepW, footA, makesA, ptrId, pairsOk, footApart, opS, opA, ev, putA, setC, ofConst, ofFlat, List.replicate, List.set, binA, intA, strA, unA, extractA, nilCheckA, bodyA, resultsA, oneOrTup, builtinA, lenA, indexA, minA, loadA, partA, storeA, setCells, fieldA, ptrAdd, AV.cellsOf, AV.one, reduceCtorEq, Nat.reduceAdd, Nat.reduceSub, Nat.reduceEqDiff, Nat.reduceLeDiff, Array.toList, Int.reduceToNat, Int.reduceLE, Int.reduceLT, Int.reduceAdd, Int.reduceNeg, Nat.reduceMul, T25, hc]
      refine ⟨?_, by omega, g1⟩
      rw [← ht, hst]
      simp [headTextS, hc]
    | true =>
      cases h3 : (((dec (s.drop k)).1 : Nat) : Int) == 65533 with
      | false =>
        simp (maxSteps := 400000) only [wE, stepW, footA, makesA, ptrId, pairsOk, footApart, opS, opA, ev, putA, setC, ofConst, ofFlat, List.replicate, List.set, binA, intA, strA, unA, extractA, nilCheckA, bodyA, resultsA, oneOrTup, builtinA, lenA, indexA, minA, loadA, partA, storeA, setCells, fieldA, ptrAdd, AV.cellsOf, AV.one, reduceCtorEq, Nat.reduceAdd, Nat.reduceSub, Nat.reduceEqDiff, Nat.reduceLeDiff, Array.toList, Int.reduceToNat, Int.reduceLE, Int.reduceLT, Int.reduceAdd, Int.reduceNeg, Nat.reduceMul, T25, hc, h3]
        refine ⟨(k + (dec (s.drop k)).2, _), ⟨hd.2, ?_, i1, n1, g1⟩, by simp only; omega, by simp [Fg], HW.refl _⟩
        rw [← ht, hst]
        have h3' : ((dec (s.drop k)).1 == 65533) = false := by
          simp at h3 ⊢
          omega
        simp [headTextS, hc, h3']
      | true =>
        simp (maxSteps := 400000) only [wE, stepW, footA, makesA, ptrId, pairsOk, footApart, opS, opA, ev, putA, setC, ofConst, ofFlat, List.replicate, List.set, binA, intA, strA, unA, extractA, nilCheckA, bodyA, resultsA, oneOrTup, builtinA, lenA, indexA, minA, loadA, partA, storeA, setCells, fieldA, ptrAdd, AV.cellsOf, AV.one, reduceCtorEq, Nat.reduceAdd, Nat.reduceSub, Nat.reduceEqDiff, Nat.reduceLeDiff, Array.toList, Int.reduceToNat, Int.reduceLE, Int.reduceLT, Int.reduceAdd, Int.reduceNeg, Nat.reduceMul, T25, hc, h3, hks]
        refine AInv.pureK E.hasPreB (E.hasPre _ _) fun J2 h2 => ?_
        have g2 : ∀ j, j < H.next → J2.get j = H.get j := fun j hj' => by rw [h2.2]; exact g1 j hj'
        have n2 : H.next < J2.next := Nat.lt_of_lt_of_le n1 h2.1
        have i2 : J2.get H.next = some (.iter s (k + (dec (s.drop k)).2)) := by rw [h2.2]; exact i1
        have h3' : ((dec (s.drop k)).1 == 65533) = true := by
          simp at h3 ⊢
          omega
        rcases hasPrefix_bool (s.drop k) [239, 191, 189] with hp | hp
        · simp (maxSteps := 400000) only [wE, stepW, footA, makesA, ptrId, pairsOk, footApart, opS, opA, ev, putA, setC, ofConst, ofFlat, List.replicate, List.set, binA, intA, strA, unA, extractA, nilCheckA, bodyA, resultsA, oneOrTup, builtinA, lenA, indexA, minA, loadA, partA, storeA, setCells, fieldA, ptrAdd, AV.cellsOf, AV.one, reduceCtorEq, Nat.reduceAdd, Nat.reduceSub, Nat.reduceEqDiff, Nat.reduceLeDiff, Array.toList, Int.reduceToNat, Int.reduceLE, Int.reduceLT, Int.reduceAdd, Int.reduceNeg, Nat.reduceMul, T25, hp]
          refine ⟨(k + (dec (s.drop k)).2, _), ⟨hd.2, ?_, i2, n2, g2⟩, by simp only; omega, by simp [Fg], HW.refl _⟩
          rw [← ht, hst]
          simp [headTextS, hc, h3', hp]
        · simp (maxSteps := 400000) only [wE, stepW, footA, makesA, ptrId, pairsOk, footApart, opS, opA, ev, putA, setC, ofConst, ofFlat, List.replicate, List.set, binA, intA, strA, unA, extractA, nilCheckA, bodyA, resultsA, oneOrTup, builtinA, lenA, indexA, minA, loadA, partA, storeA, setCells, fieldA, ptrAdd, AV.cellsOf, AV.one, reduceCtorEq, Nat.reduceAdd, Nat.reduceSub, Nat.reduceEqDiff, Nat.reduceLeDiff, Array.toList, Int.reduceToNat, Int.reduceLE, Int.reduceLT, Int.reduceAdd, Int.reduceNeg, Nat.reduceMul, T25, hp]
          refine ⟨?_, by omega, g2⟩
          rw [← ht, hst]
          simp [headTextS, hc, h3', hp]
  · simp (maxSteps := 400000) only [wE, stepW, footA, makesA, ptrId, pairsOk, footApart, opS, opA, ev, putA, setC, ofConst, ofFlat, List.replicate, List.set, binA, intA, strA, unA, extractA, nilCheckA, bodyA, resultsA, oneOrTup, builtinA, lenA, indexA, minA, loadA, partA, storeA, setCells, fieldA, ptrAdd, AV.cellsOf, AV.one, reduceCtorEq, Nat.reduceAdd, Nat.reduceSub, Nat.reduceEqDiff, Nat.reduceLeDiff, Array.toList, Int.reduceToNat, Int.reduceLE, Int.reduceLT, Int.reduceAdd, Int.reduceNeg, Nat.reduceMul, T25, nextA, hi, hlt]
    refine ⟨?_, by omega, hj⟩
    rw [← ht, List.drop_eq_nil_of_le (by omega)]
    simp [isTextS_nil]

theorem count_ok (G : Nat → Option (List AV)) {s : List UInt8} (hs : s.length ≤ 1000000000) : PureCall Tryz.prog G 71 [.str s] (.int .i64 (countS s : Nat)) := by
  intro H
  refine ACalls.keep (ACalls.of Tryz.func71 S71_eq R71 N71 rfl rfl ?_)
  simp (maxSteps := 400000) only [wE, stepW, footA, makesA, ptrId, pairsOk, footApart, opS, opA, ev, putA, setC, ofConst, ofFlat, List.replicate, List.set, binA, intA, strA, unA, extractA, nilCheckA, bodyA, resultsA, oneOrTup, builtinA, lenA, indexA, minA, loadA, partA, storeA, setCells, fieldA, ptrAdd, AV.cellsOf, AV.one, reduceCtorEq, Nat.reduceAdd, Nat.reduceSub, Nat.reduceEqDiff, Nat.reduceLeDiff, Array.toList, Int.reduceToNat, Int.reduceLE, Int.reduceLT, Int.reduceAdd, Int.reduceNeg, Nat.reduceMul, S71, N71, R71, T71]
  refine ATrS.loopK (κ := Nat × Nat × AHeap) (fun x => [.str s, .und, .int .i64 x.2.1, .str s, .ptr H.next 0] ++ List.replicate 5 .und) (fun x => x.2.2)
    (fun x => x.1 ≤ s.length ∧ x.2.1 ≤ x.1 ∧ x.2.1 + countS (s.drop x.1) = countS s ∧ x.2.2.get H.next = some (.iter s x.1) ∧ H.next < x.2.2.next ∧ ∀ j, j < H.next → x.2.2.get j = H.get j) (fun x => s.length - x.1)
    ⟨(0, 0, _), ⟨Nat.zero_le _, Nat.zero_le _, by simp, by simp [AHeap.get_allocAt], by simp [AHeap.next_allocAt], fun j hj => by simp [AHeap.get_allocAt]; omega⟩, by simp [Fg], HW.refl _⟩ ?_
  rintro ⟨k, n, J⟩ ⟨hk, hnk, ht, hi, hn, hj⟩
  simp only at hk hnk ht hi hn hj
  by_cases hlt : k < s.length
  · have hd := dec_drop hlt
    have hst := countS_step (drop_ne hlt)
    rw [drop_drop_add] at hst
    simp (maxSteps := 400000) only [wE, stepW, footA, makesA, ptrId, pairsOk, footApart, opS, opA, ev, putA, setC, ofConst, ofFlat, List.replicate, List.set, binA, intA, strA, unA, extractA, nilCheckA, bodyA, resultsA, oneOrTup, builtinA, lenA, indexA, minA, loadA, partA, storeA, setCells, fieldA, ptrAdd, AV.cellsOf, AV.one, reduceCtorEq, Nat.reduceAdd, Nat.reduceSub, Nat.reduceEqDiff, Nat.reduceLeDiff, Array.toList, Int.reduceToNat, Int.reduceLE, Int.reduceLT, Int.reduceAdd, Int.reduceNeg, Nat.reduceMul, T71, nextA, hi, hlt, dec_at]
    have e : IntKind.i64.wrap ((n : Int) + 1) = ((n + 1 : Nat) : Int) := by rw [wrap64] <;> omega
    simp only [e]
    refine ⟨(k + (dec (s.drop k)).2, n + 1, _), ⟨hd.2, by simp only; omega, by simp only; omega, by simp, by simp only [AHeap.next_set]; omega, fun j hj' => by simp only [show j ≠ H.next by omega, if_false]; exact hj j hj'⟩, by simp only; omega, by simp [Fg], HW.refl _⟩
  · simp (maxSteps := 400000) only [wE, stepW, footA, makesA, ptrId, pairsOk, footApart, opS, opA, ev, putA, setC, ofConst, ofFlat, List.replicate, List.set, binA, intA, strA, unA, extractA, nilCheckA, bodyA, resultsA, oneOrTup, builtinA, lenA, indexA, minA, loadA, partA, storeA, setCells, fieldA, ptrAdd, AV.cellsOf, AV.one, reduceCtorEq, Nat.reduceAdd, Nat.reduceSub, Nat.reduceEqDiff, Nat.reduceLeDiff, Array.toList, Int.reduceToNat, Int.reduceLE, Int.reduceLT, Int.reduceAdd, Int.reduceNeg, Nat.reduceMul, T71, nextA, hi, hlt]
    refine ⟨?_, by omega, hj⟩
    rw [List.drop_eq_nil_of_le (by omega), countS_nil] at ht
    rw [← ht]
    simp

end Go.Ab
