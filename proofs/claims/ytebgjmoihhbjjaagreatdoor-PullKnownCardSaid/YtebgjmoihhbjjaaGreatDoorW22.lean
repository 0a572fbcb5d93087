/- Same, of a list with itself, walked. -/
import Derived.Test.YtebgjmoihhbjjaaGreatDoorW21
set_option linter.all false
namespace Go.Ab
open Go Go.Lib Go.Proofs

theorem T14 : (elemT Tryz.prog 23 = some 39) ∧ (szT Tryz.prog 39 = some 6) ∧ (aggT Tryz.prog 39 = some true) ∧ (zeroA Tryz.prog 39 = some (.agg [.int .i64 0, .str [], .str [], .nils, .int .i64 0, .int .i64 0])) ∧
    (fieldT Tryz.prog 39 0 = some (0, 3)) ∧ (fieldT Tryz.prog 39 1 = some (1, 9)) ∧ (fieldT Tryz.prog 39 2 = some (2, 9)) ∧ (fieldT Tryz.prog 39 3 = some (3, 37)) ∧ (fieldT Tryz.prog 39 4 = some (4, 3)) ∧ (fieldT Tryz.prog 39 5 = some (5, 3)) ∧
    (aggT Tryz.prog 3 = some false) ∧ (szT Tryz.prog 3 = some 1) ∧ (aggT Tryz.prog 9 = some false) ∧ (szT Tryz.prog 9 = some 1) ∧ (aggT Tryz.prog 37 = some false) ∧ (szT Tryz.prog 37 = some 1) ∧
    (elemT Tryz.prog 37 = some 59) ∧ (szT Tryz.prog 59 = some 2) ∧ (aggT Tryz.prog 59 = some true) ∧ (strT Tryz.prog 23 = false) ∧ (mapT Tryz.prog 23 = none) ∧ (strT Tryz.prog 37 = false) ∧ (mapT Tryz.prog 37 = none) ∧
    (eqT Tryz.prog 59 = some [(0, .s), (1, .s)]) :=
  ⟨by kernel_rfl, by kernel_rfl, by kernel_rfl, by kernel_rfl, by kernel_rfl, by kernel_rfl, by kernel_rfl, by kernel_rfl, by kernel_rfl, by kernel_rfl, by kernel_rfl, by kernel_rfl, by kernel_rfl, by kernel_rfl, by kernel_rfl, by kernel_rfl, by kernel_rfl, by kernel_rfl, by kernel_rfl, by kernel_rfl, by kernel_rfl, by kernel_rfl, by kernel_rfl, by kernel_rfl⟩

theorem evsA_at : ∀ (l : List Ev) (i : Nat) (h : i < l.length), ((evsA l).drop (i * 6)).take 6 = evC l[i]
  | [], i, h => by simp at h
  | a :: l, 0, _ => rfl
  | a :: l, i + 1, h => by
    have := evsA_at l i (by simpa using h)
    have e : (i + 1) * 6 = i * 6 + 1 + 1 + 1 + 1 + 1 + 1 := by omega
    simp only [evsA, List.flatMap_cons, e, evC, List.cons_append, List.nil_append, List.drop_succ_cons, List.getElem_cons_succ] at this ⊢
    exact this

def SmAt (n : Nat) (H : AHeap) (x : Nat × AHeap) : Prop := x.1 ≤ n ∧ H.next ≤ x.2.next ∧ ∀ j, j < H.next → x.2.get j = H.get j
def SmAt2 (n : Nat) (J : AHeap) (x : Nat × AHeap) : Prop := x.1 ≤ n ∧ J.next ≤ x.2.next ∧ ∀ j, j < J.next → x.2.get j = J.get j

set_option maxRecDepth 100000 in
theorem same_ok (G : Nat → Option (List AV)) (l : List Ev) (pl : Bool) (hl : l.length ≤ 1000000000) (hla : ∀ x, x ∈ l → x.attrs.length ≤ 1000000000) : PureCall Tryz.prog G 14 [.lst l.length (evsA l), .lst l.length (evsA l), .bool pl] (.bool true) := by
  intro H
  refine ACalls.keep (ACalls.of Tryz.func14 S14_eq R14 N14 rfl rfl ?_)
  simp (maxSteps := 400000) only [wE, stepW, footA, makesA, ptrId, pairsOk, footApart, opS, opA, ev, putA, setC, ofConst, ofFlat, List.replicate, List.set, binA, intA, strA, unA, extractA, nilCheckA, bodyA, resultsA, oneOrTup, builtinA, lenA, indexA, minA, loadA, partA, storeA, setCells, fieldA, ptrAdd, AV.cellsOf, AV.one, reduceCtorEq, Nat.reduceAdd, Nat.reduceSub, Nat.reduceEqDiff, Nat.reduceLeDiff, Array.toList, Int.reduceToNat, Int.reduceLE, Int.reduceLT, Int.reduceAdd, Int.reduceNeg, Nat.reduceMul, S14, N14, R14, T14, bne_self_eq_false]
  refine ATrS.loopK (κ := Nat × AHeap) (fun x => [.lst l.length (evsA l), .lst l.length (evsA l), .bool pl] ++ List.replicate 13 .und ++ [.lst l.length (evsA l), .int .i64 l.length, .int .i64 x.1] ++ List.replicate 72 .und) (fun x => x.2)
    (SmAt l.length H) (fun x => l.length - x.1) ⟨(0, H), ⟨Nat.zero_le _, Nat.le_refl _, fun _ _ => rfl⟩, by simp [Fg], HW.refl _⟩ ?_
  rintro ⟨i, J⟩ ⟨hi, hn, hJ⟩
  simp only at hi hn hJ
  by_cases hlt : i < l.length
  · have d0 : decide ((i : Int) < (l.length : Int)) = true := by simp; omega
    have q0 : ((i : Int) < (l.length : Int)) = True := by simp; omega
    have hat := evsA_at l i hlt
    have hle : (i * 6 + 6 ≤ (evsA l).length) = True := by rw [evsA_len]; simp; omega
    have hxa := hla l[i] (List.getElem_mem hlt)
    generalize l[i] = x at hat hxa
    have m1 : (J.next = J.next + 1) = False := by simp
    have ew : IntKind.i64.wrap ((i : Int) + 1) = ((i + 1 : Nat) : Int) := by rw [wrap64] <;> omega
    rcases Bool.eq_false_or_eq_true pl with hpl | hpl
    all_goals
      simp (maxSteps := 400000) only [wE, stepW, footA, makesA, ptrId, pairsOk, footApart, opS, opA, ev, putA, setC, ofConst, ofFlat, List.replicate, List.set, binA, intA, strA, unA, extractA, nilCheckA, bodyA, resultsA, oneOrTup, builtinA, lenA, indexA, minA, loadA, partA, storeA, setCells, fieldA, ptrAdd, AV.cellsOf, AV.one, reduceCtorEq, Nat.reduceAdd, Nat.reduceSub, Nat.reduceEqDiff, Nat.reduceLeDiff, Array.toList, Int.reduceToNat, Int.reduceLE, Int.reduceLT, Int.reduceAdd, Int.reduceNeg, Nat.reduceMul, T14, d0, q0, hat, hle, m1, indexAddrA, evC, bne_self_eq_false, beq_self_eq_true, hpl]
      generalize hX : AHeap.set (AHeap.allocAt _ (J.next + 1) _) _ _ = X
      have xn : X.next = J.next + 2 := by rw [← hX]; simp only [AHeap.next_set, AHeap.next_allocAt]; omega
      have x8 : X.get J.next = some (.cells 39 [.int .i64 x.kind, .str x.name, .str x.text, .lst x.attrs.length (attrsA x.attrs), .int .i64 x.line, .int .i64 x.col]) := by rw [← hX, AHeap.get_set_ne _ _ (by omega), AHeap.get_allocAt_ne _ _ (by omega), AHeap.get_set_same]
      have x9 : X.get (J.next + 1) = some (.cells 39 [.int .i64 x.kind, .str x.name, .str x.text, .lst x.attrs.length (attrsA x.attrs), .int .i64 x.line, .int .i64 x.col]) := by rw [← hX, AHeap.get_set_same]
      have xo : ∀ j, j < H.next → X.get j = H.get j := fun j hj => by rw [← hX, AHeap.get_set_ne _ _ (by omega), AHeap.get_allocAt_ne _ _ (by omega), AHeap.get_set_ne _ _ (by omega), AHeap.get_allocAt_ne _ _ (by omega)]; exact hJ j hj
      refine ATrS.loopK (κ := Nat × AHeap) (fun y => [.lst l.length (evsA l), .lst l.length (evsA l), .bool pl] ++ List.replicate 5 .und ++ [.ptr J.next 0, .ptr (J.next + 1) 0] ++ List.replicate 6 .und ++ [.lst l.length (evsA l), .int .i64 l.length, .int .i64 i] ++ List.replicate 55 .und ++ [.int .i64 x.attrs.length, .int .i64 y.1] ++ List.replicate 15 .und) (fun y => y.2)
        (SmAt2 x.attrs.length X) (fun y => x.attrs.length - y.1) ⟨(0, X), ⟨Nat.zero_le _, Nat.le_refl _, fun _ _ => rfl⟩, by simp [Fg, hpl], HW.refl _⟩ ?_
      rintro ⟨k, Y⟩ ⟨hk, hYn, hY⟩
      simp only at hk hYn hY
      have y8 := (hY J.next (by omega)).trans x8
      have y9 := (hY (J.next + 1) (by omega)).trans x9
      by_cases hkl : k < x.attrs.length
      · have e0 : decide ((k : Int) < (x.attrs.length : Int)) = true := by simp; omega
        have e1 : ((k : Int) < (x.attrs.length : Int)) = True := by simp; omega
        have hat2 := attrsA_at x.attrs k hkl
        have hle2 : (k * 2 + 2 ≤ (attrsA x.attrs).length) = True := by rw [attrsA_len]; simp; omega
        have ew2 : IntKind.i64.wrap ((k : Int) + 1) = ((k + 1 : Nat) : Int) := by rw [wrap64] <;> omega
        generalize x.attrs[k] = at_ at hat2
        simp (maxSteps := 400000) only [wE, stepW, footA, makesA, ptrId, pairsOk, footApart, opS, opA, ev, putA, setC, ofConst, ofFlat, List.replicate, List.set, binA, intA, strA, unA, extractA, nilCheckA, bodyA, resultsA, oneOrTup, builtinA, lenA, indexA, minA, loadA, partA, storeA, setCells, fieldA, ptrAdd, AV.cellsOf, AV.one, reduceCtorEq, Nat.reduceAdd, Nat.reduceSub, Nat.reduceEqDiff, Nat.reduceLeDiff, Array.toList, Int.reduceToNat, Int.reduceLE, Int.reduceLT, Int.reduceAdd, Int.reduceNeg, Nat.reduceMul, T14, e0]
        refine drawW_fixed mixedOrders L14_12_eq P14_12_eq ?_
        simp (maxSteps := 400000) only [wE, stepW, footA, makesA, ptrId, pairsOk, footApart, opS, opA, ev, putA, setC, ofConst, ofFlat, List.replicate, List.set, binA, intA, strA, unA, extractA, nilCheckA, bodyA, resultsA, oneOrTup, builtinA, lenA, indexA, minA, loadA, partA, storeA, setCells, fieldA, ptrAdd, AV.cellsOf, AV.one, reduceCtorEq, Nat.reduceAdd, Nat.reduceSub, Nat.reduceEqDiff, Nat.reduceLeDiff, Array.toList, Int.reduceToNat, Int.reduceLE, Int.reduceLT, Int.reduceAdd, Int.reduceNeg, Nat.reduceMul, L14_12, T14, y8, y9, e1, indexAddrA, hat2, hle2, eqCells, eqCell, eqNeq, beq_self_eq_true, ew2]
        exact ⟨(k + 1, Y), ⟨hkl, hYn, hY⟩, by simp only; omega, by simp [Fg], HW.refl _⟩
      · have e0 : decide ((k : Int) < (x.attrs.length : Int)) = false := by simp; omega
        simp (maxSteps := 400000) only [wE, stepW, footA, makesA, ptrId, pairsOk, footApart, opS, opA, ev, putA, setC, ofConst, ofFlat, List.replicate, List.set, binA, intA, strA, unA, extractA, nilCheckA, bodyA, resultsA, oneOrTup, builtinA, lenA, indexA, minA, loadA, partA, storeA, setCells, fieldA, ptrAdd, AV.cellsOf, AV.one, reduceCtorEq, Nat.reduceAdd, Nat.reduceSub, Nat.reduceEqDiff, Nat.reduceLeDiff, Array.toList, Int.reduceToNat, Int.reduceLE, Int.reduceLT, Int.reduceAdd, Int.reduceNeg, Nat.reduceMul, T14, e0, ew]
        exact ⟨(i + 1, Y), ⟨hlt, by simp only; omega, fun j hj => by simp only; rw [hY j (by omega)]; exact xo j hj⟩, by simp only; omega, by simp [Fg, hpl], HW.refl _⟩
  · have d0 : decide ((i : Int) < (l.length : Int)) = false := by simp; omega
    simp (maxSteps := 400000) only [wE, stepW, footA, makesA, ptrId, pairsOk, footApart, opS, opA, ev, putA, setC, ofConst, ofFlat, List.replicate, List.set, binA, intA, strA, unA, extractA, nilCheckA, bodyA, resultsA, oneOrTup, builtinA, lenA, indexA, minA, loadA, partA, storeA, setCells, fieldA, ptrAdd, AV.cellsOf, AV.one, reduceCtorEq, Nat.reduceAdd, Nat.reduceSub, Nat.reduceEqDiff, Nat.reduceLeDiff, Array.toList, Int.reduceToNat, Int.reduceLE, Int.reduceLT, Int.reduceAdd, Int.reduceNeg, Nat.reduceMul, T14, d0]
    exact ⟨hn, hJ⟩
end Go.Ab
