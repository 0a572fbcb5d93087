/- PullTags, walked. -/
import Derived.Test.YtebgjmoihhbjjaaGreatDoorT1
import Derived.Test.YtebgjmoihhbjjaaGreatDoorBnd
import Derived.Test.YtebgjmoihhbjjaaGreatDoorCodes4
set_option linter.all false
namespace Go.Ab
open Go Go.Lib Go.Proofs

theorem evsA_get : ∀ (l : List Ev) (i j : Nat) (h : i < l.length), j < 6 → (evsA l)[i * 6 + j]? = (evC l[i])[j]?
  | [], i, _, h, _ => by simp at h
  | a :: l, 0, j, _, hj => by
    have : (evsA (a :: l)) = evC a ++ evsA l := by simp [evsA]
    rw [this, Nat.zero_mul, Nat.zero_add, List.getElem?_append_left (by simpa [evC] using hj)]
    rfl
  | a :: l, i + 1, j, h, hj => by
    have e : (evsA (a :: l)) = evC a ++ evsA l := by simp [evsA]
    have := evsA_get l i j (by simpa using h) hj
    rw [e, List.getElem?_append_right (by simp [evC]; omega)]
    simp only [evC, List.length_cons, List.length_nil] at this ⊢
    rw [show (i + 1) * 6 + j - (0 + 1 + 1 + 1 + 1 + 1 + 1) = i * 6 + j by omega, this]
    rfl

/-- A row that stands in a slot may be read shorter, by a new number. -/
theorem Weak.popSlot (G : Nat → Option (List AV)) {H : AHeap} {ko : Nat} {re : TypeId} {cs : List AV} {k : Nat} (hrow : H.get ko = some (.row re 1 cs)) (hk : k ≤ cs.length) (hkn : ko < H.next) {a a' : List AV} (ht : Tzs ko (fun l => if l = k then some (.slc H.next k) else none) none a a') :
    ∃ H', Weak G a H a' H' ∧ H'.get H.next = some (.row re 1 (cs.take k)) ∧ H'.next = H.next + 1 ∧ ∀ j, j < H.next → j ≠ ko → H'.get j = H.get j := by
  refine ⟨⟨H.next + 1, fun j => if j = H.next then some (.row re 1 (cs.take k)) else if j = ko then none else H.get j⟩,
    Weak.rename hrow (by omega) H.next k (by omega) (Nat.le_refl _) (Nat.lt_succ_self _) ?_ (by simp) (fun j => ?_) ht, by simp, rfl, fun j h1 h2 => ?_⟩
  · simp
    omega
  · by_cases h1 : j = H.next
    · exact .inl h1
    · by_cases h2 : j = ko
      · exact .inr (.inl (by subst h2; simp [h1]))
      · cases hg : H.get j with
        | none => exact .inr (.inl (by simp [h1, h2, hg]))
        | some o => exact .inr (.inr ⟨o, o, rfl, by simp [h1, h2, hg], .same o⟩)
  · have : j ≠ H.next := by omega
    simp [this, h2]

/-- Where the walk stands: k events are behind, o are open. -/
def TagsAt (xs : List Ev) (H : AHeap) (x : Nat × Nat × List (List UInt8) × AHeap) : Prop :=
  x.1 ≤ xs.length ∧ TagsOk x.2.2.1 (if x.1 = 0 then none else xs[x.1 - 1]?) (xs.drop x.1) ∧ x.2.2.1.length ≤ x.1 ∧ x.2.2.2.get x.2.1 = some (.row 9 1 (strsA x.2.2.1)) ∧
  H.next ≤ x.2.1 ∧ x.2.1 < x.2.2.2.next ∧ H.next ≤ x.2.2.2.next ∧ ∀ j, j < H.next → x.2.2.2.get j = H.get j

set_option maxHeartbeats 4000000 in
set_option maxRecDepth 100000 in
theorem tags_ok {G : Nat → Option (List AV)} (E : Env G) (B : EnvB G) (P : EnvP G) (R : EnvR G) (text : List UInt8) (H : AHeap) : ACalls Tryz.prog G 5 [.str text] H fun r H' => r = .ret (.bool true) ∧ Kept H H' := by
  refine ACalls.of Tryz.func5 S5_eq R5 N5 rfl rfl ?_
  by_cases hlong : 5000 < text.length
  · have d1 : decide ((text.length : Int) > 5000) = true := by simp; omega
    simp (maxSteps := 400000) only [wE, stepW, footA, makesA, ptrId, pairsOk, footApart, opS, opA, ev, putA, setC, ofConst, ofFlat, List.replicate, List.set, binA, intA, strA, unA, extractA, nilCheckA, bodyA, resultsA, oneOrTup, builtinA, lenA, indexA, minA, loadA, partA, storeA, setCells, fieldA, ptrAdd, AV.cellsOf, AV.one, reduceCtorEq, Nat.reduceAdd, Nat.reduceSub, Nat.reduceEqDiff, Nat.reduceLeDiff, Array.toList, Int.reduceToNat, Int.reduceLE, Int.reduceLT, Int.reduceAdd, Int.reduceNeg, Nat.reduceMul, S5, N5, R5, T5, d1]
    refine AInv.retK B11 (works_ok E B P R H) (fun v H1 hq => ?_) (fun v H1 hq => by cases hq.1)
    obtain ⟨hv, h1⟩ := hq
    cases hv
    simp (maxSteps := 400000) only [wE, stepW, footA, makesA, ptrId, pairsOk, footApart, opS, opA, ev, putA, setC, ofConst, ofFlat, List.replicate, List.set, binA, intA, strA, unA, extractA, nilCheckA, bodyA, resultsA, oneOrTup, builtinA, lenA, indexA, minA, loadA, partA, storeA, setCells, fieldA, ptrAdd, AV.cellsOf, AV.one, reduceCtorEq, Nat.reduceAdd, Nat.reduceSub, Nat.reduceEqDiff, Nat.reduceLeDiff, Array.toList, Int.reduceToNat, Int.reduceLE, Int.reduceLT, Int.reduceAdd, Int.reduceNeg, Nat.reduceMul, T5]
    exact h1
  have d1 : decide ((text.length : Int) > 5000) = false := by simp; omega
  simp (maxSteps := 400000) only [wE, stepW, footA, makesA, ptrId, pairsOk, footApart, opS, opA, ev, putA, setC, ofConst, ofFlat, List.replicate, List.set, binA, intA, strA, unA, extractA, nilCheckA, bodyA, resultsA, oneOrTup, builtinA, lenA, indexA, minA, loadA, partA, storeA, setCells, fieldA, ptrAdd, AV.cellsOf, AV.one, reduceCtorEq, Nat.reduceAdd, Nat.reduceSub, Nat.reduceEqDiff, Nat.reduceLeDiff, Array.toList, Int.reduceToNat, Int.reduceLE, Int.reduceLT, Int.reduceAdd, Int.reduceNeg, Nat.reduceMul, S5, N5, R5, T5, d1]
  refine AInv.retK B12 (all_ok E B P R text H).wfp (fun v H1 hq => ?_) (fun v H1 hq => by cases hq.1.1)
  obtain ⟨⟨hv, h1⟩, wf1⟩ := hq
  cases hv
  have n1 := h1.1
  have hb := all2_bounds text (by omega)
  have hlaw := tags_law text (by omega)
  generalize all2S text = r at hb hlaw
  obtain ⟨xs, line, col, e⟩ := r
  simp only at hb hlaw
  obtain ⟨hxl, _⟩ := hb
  simp only [allA]
  rcases hlaw with ⟨rfl, htags, h2, rfl, rfl⟩ | ⟨he, rfl, hpos⟩
  · have z1 : (((0 : Nat) : Int) != 0) = false := rfl
    simp (maxSteps := 400000) only [wE, stepW, footA, makesA, ptrId, pairsOk, footApart, opS, opA, ev, putA, setC, ofConst, ofFlat, List.replicate, List.set, binA, intA, strA, unA, extractA, nilCheckA, bodyA, resultsA, oneOrTup, builtinA, lenA, indexA, minA, loadA, partA, storeA, setCells, fieldA, ptrAdd, AV.cellsOf, AV.one, reduceCtorEq, Nat.reduceAdd, Nat.reduceSub, Nat.reduceEqDiff, Nat.reduceLeDiff, Array.toList, Int.reduceToNat, Int.reduceLE, Int.reduceLT, Int.reduceAdd, Int.reduceNeg, Nat.reduceMul, T5, z1]
    have hw : Weak G ([.str text, .und, .bool false, .lst xs.length (evsA xs), .int .i64 ((0 : Nat) : Int), .int .i64 ((0 : Nat) : Int), .int .i64 ((0 : Nat) : Int), .nils] ++ List.replicate 36 .und ++ [.lst xs.length (evsA xs), .int .i64 xs.length, .int .i64 0] ++ List.replicate 122 .und) H1 ([.str text, .und, .bool false, .lst xs.length (evsA xs), .int .i64 ((0 : Nat) : Int), .int .i64 ((0 : Nat) : Int), .int .i64 ((0 : Nat) : Int), .slc H1.next 0] ++ List.replicate 36 .und ++ [.lst xs.length (evsA xs), .int .i64 xs.length, .int .i64 0] ++ List.replicate 122 .und) ⟨H1.next + 1, fun j => if j = H1.next then some (.row 9 1 []) else H1.get j⟩ := by
      refine Weak.nilRow H1.next 9 1 (Nat.le_refl _) (Nat.lt_succ_self _) (by simp) (fun j => ?_) (show Tzs _ _ _ _ _ from ⟨.same _, .und _, .same _, .same _, .same _, .same _, .same _, .nil _ rfl, Tzs.refl _⟩)
      by_cases h1 : j = H1.next
      · exact .inl h1
      · cases hg : H1.get j with
        | none => exact .inr (.inl (by simp [h1, hg]))
        | some o => exact .inr (.inr ⟨o, o, rfl, by simp [h1, hg], .same o⟩)
    refine ATrS.weak ((Weak.of (by simp [Fg]) (HW.refl _)).trans hw) (ATrS.loopK (κ := Nat × Nat × List (List UInt8) × AHeap) (fun x => [.str text, .und, .bool false, .lst xs.length (evsA xs), .int .i64 ((0 : Nat) : Int), .int .i64 ((0 : Nat) : Int), .int .i64 ((0 : Nat) : Int), .slc x.2.1 x.2.2.1.length] ++ List.replicate 36 .und ++ [.lst xs.length (evsA xs), .int .i64 xs.length, .int .i64 x.1] ++ List.replicate 122 .und) (fun x => x.2.2.2)
      (TagsAt xs H) (fun x => xs.length - x.1) ⟨(0, H1.next, [], _), ⟨Nat.zero_le _, htags, Nat.le_refl _, by simp [strsA], by simp only; omega, by simp only; omega, by simp only; omega, fun j hj => by simp only [show ¬ j = H1.next by omega, if_false]; exact h1.2 j hj⟩, by simp [Fg], HW.refl _⟩ ?_)
    clear hw
    rintro ⟨k, m, o, J⟩ ⟨hk, ht, hol, hrow, g1, g2, g3, g4⟩
    simp only at hk ht hol hrow g1 g2 g3 g4
    by_cases hlt : k < xs.length
    · have d0 : decide ((k : Int) < (xs.length : Int)) = true := by simp; omega
      have q0 : ((k : Int) < (xs.length : Int)) = True := by simp; omega
      have hat := evsA_at xs k hlt
      have hle : (k * 6 + 6 ≤ (evsA xs).length) = True := by rw [evsA_len]; simp; omega
      have ew : IntKind.i64.wrap ((k : Int) + 1) = ((k + 1 : Nat) : Int) := by rw [wrap64] <;> omega
      rw [List.drop_eq_getElem_cons hlt] at ht
      generalize hx : xs[k] = x at hat ht
      have um : (m = J.next) = False := by simp; omega
      cases ht with
      | @cons _ o' _ _ _ tk hs =>
      simp (maxSteps := 400000) only [wE, stepW, footA, makesA, ptrId, pairsOk, footApart, opS, opA, ev, putA, setC, ofConst, ofFlat, List.replicate, List.set, binA, intA, strA, unA, extractA, nilCheckA, bodyA, resultsA, oneOrTup, builtinA, lenA, indexA, minA, loadA, partA, storeA, setCells, fieldA, ptrAdd, AV.cellsOf, AV.one, reduceCtorEq, Nat.reduceAdd, Nat.reduceSub, Nat.reduceEqDiff, Nat.reduceLeDiff, Array.toList, Int.reduceToNat, Int.reduceLE, Int.reduceLT, Int.reduceAdd, Int.reduceNeg, Nat.reduceMul, T5, d0, q0, hat, hle, indexAddrA, evC]
      generalize hQ : blockA 2 _ = Q
      have xJ : (AHeap.set (AHeap.allocAt J J.next (.cells 39 [.int .i64 0, .str [], .str [], .nils, .int .i64 0, .int .i64 0])) J.next (.cells 39 [.int .i64 x.kind, .str x.name, .str x.text, .lst x.attrs.length (attrsA x.attrs), .int .i64 x.line, .int .i64 x.col])).get J.next = some (.cells 39 [.int .i64 x.kind, .str x.name, .str x.text, .lst x.attrs.length (attrsA x.attrs), .int .i64 x.line, .int .i64 x.col]) := by simp [AHeap.get_set]
      have rest : ∀ a X, (∃ m' X', Weak G a X ([.str text, .und, .bool false, .lst xs.length (evsA xs), .int .i64 ((0 : Nat) : Int), .int .i64 ((0 : Nat) : Int), .int .i64 ((0 : Nat) : Int), .slc m' o'.length, .int .i64 k, .ptr J.next 0] ++ List.replicate 34 .und ++ [.lst xs.length (evsA xs), .int .i64 xs.length, .int .i64 k] ++ List.replicate 122 .und) X' ∧
          X'.get J.next = some (.cells 39 [.int .i64 x.kind, .str x.name, .str x.text, .lst x.attrs.length (attrsA x.attrs), .int .i64 x.line, .int .i64 x.col]) ∧ X'.get m' = some (.row 9 1 (strsA o')) ∧ H.next ≤ m' ∧ m' < X'.next ∧ H.next ≤ X'.next ∧ o'.length ≤ k + 1 ∧ ∀ j, j < H.next → X'.get j = H.get j) → Q .normal a X := by
        rintro a X ⟨m', X', hw, x1, x2, x3, x4, x5, x6, x7⟩
        subst hQ
        simp (maxSteps := 400000) only [wE, stepW, footA, makesA, ptrId, pairsOk, footApart, opS, opA, ev, putA, setC, ofConst, ofFlat, List.replicate, List.set, binA, intA, strA, unA, extractA, nilCheckA, bodyA, resultsA, oneOrTup, builtinA, lenA, indexA, minA, loadA, partA, storeA, setCells, fieldA, ptrAdd, AV.cellsOf, AV.one, reduceCtorEq, Nat.reduceAdd, Nat.reduceSub, Nat.reduceEqDiff, Nat.reduceLeDiff, Array.toList, Int.reduceToNat, Int.reduceLE, Int.reduceLT, Int.reduceAdd, Int.reduceNeg, Nat.reduceMul, T5]
        refine ATrS.weak hw ?_
        refine drawW_fixed mixedOrders L5_20_eq P5_20_eq ?_
        have p1 : decide ((x.line : Int) < 1) = false := by have := tk.pos; simp; omega
        have p2 : decide ((x.col : Int) < 1) = false := by have := tk.pos; simp; omega
        have fin : ∃ x', TagsAt xs H x' ∧ xs.length - x'.1 < xs.length - k ∧ x'.1 = k + 1 ∧ x'.2.1 = m' ∧ x'.2.2.1 = o' ∧ x'.2.2.2 = X' := by
          refine ⟨(k + 1, m', o', X'), ⟨hlt, ?_, x6, x2, x3, x4, x5, x7⟩, by simp only; omega, rfl, rfl, rfl, rfl⟩
          simp only [Nat.succ_ne_zero, if_false, Nat.add_sub_cancel]
          rw [List.getElem?_eq_getElem hlt, hx]
          exact hs
        obtain ⟨y, f1, f2, f3, f4, f5, f6⟩ := fin
        by_cases hk0 : k = 0
        · have p3 : decide ((k : Int) > 0) = false := by simp; omega
          simp (maxSteps := 400000) only [wE, stepW, footA, makesA, ptrId, pairsOk, footApart, opS, opA, ev, putA, setC, ofConst, ofFlat, List.replicate, List.set, binA, intA, strA, unA, extractA, nilCheckA, bodyA, resultsA, oneOrTup, builtinA, lenA, indexA, minA, loadA, partA, storeA, setCells, fieldA, ptrAdd, AV.cellsOf, AV.one, reduceCtorEq, Nat.reduceAdd, Nat.reduceSub, Nat.reduceEqDiff, Nat.reduceLeDiff, Array.toList, Int.reduceToNat, Int.reduceLE, Int.reduceLT, Int.reduceAdd, Int.reduceNeg, Nat.reduceMul, L5_20, T5, x1, p1, p2, p3, ew]
          refine ⟨y, f1, f2, ?_, ?_⟩
          · rw [f3, f4, f5]; simp [Fg]
          · rw [f6]; exact HW.refl _
        · have p3 : decide ((k : Int) > 0) = true := by simp; omega
          have hkp : k - 1 < xs.length := by omega
          have hpv := tk.asc xs[k - 1] (by rw [if_neg hk0, List.getElem?_eq_getElem hkp])
          have g4' := evsA_get xs (k - 1) 4 hkp (by omega)
          have g5' := evsA_get xs (k - 1) 5 hkp (by omega)
          generalize xs[k - 1] = p at hpv g4' g5'
          simp only [evC, List.getElem?_cons_succ, List.getElem?_cons_zero] at g4' g5'
          have e1 : IntKind.i64.wrap ((k : Int) - 1) = ((k - 1 : Nat) : Int) := by rw [wrap64] <;> omega
          have q1 : (((k - 1 : Nat) : Int) < (xs.length : Int)) = True := by simp; omega
          have p4 : decide ((x.line : Int) < (p.line : Int)) = false := by unfold lexLe at hpv; simp at hpv ⊢; omega
          by_cases heq : x.line = p.line
          · have p5 : ((x.line : Int) == (p.line : Int)) = true := by simp [heq]
            have p6 : decide ((x.col : Int) < (p.col : Int)) = false := by unfold lexLe at hpv; simp at hpv ⊢; omega
            simp (maxSteps := 400000) only [wE, stepW, footA, makesA, ptrId, pairsOk, footApart, opS, opA, ev, putA, setC, ofConst, ofFlat, List.replicate, List.set, binA, intA, strA, unA, extractA, nilCheckA, bodyA, resultsA, oneOrTup, builtinA, lenA, indexA, minA, loadA, partA, storeA, setCells, fieldA, ptrAdd, AV.cellsOf, AV.one, reduceCtorEq, Nat.reduceAdd, Nat.reduceSub, Nat.reduceEqDiff, Nat.reduceLeDiff, Array.toList, Int.reduceToNat, Int.reduceLE, Int.reduceLT, Int.reduceAdd, Int.reduceNeg, Nat.reduceMul, L5_20, T5, x1, p1, p2, p3, p4, p5, p6, e1, q1, g4', g5', indexAddrA, ew]
            refine ⟨y, f1, f2, ?_, ?_⟩
            · rw [f3, f4, f5]; simp [Fg]
            · rw [f6]; exact HW.refl _
          · have p5 : ((x.line : Int) == (p.line : Int)) = false := by simp; omega
            simp (maxSteps := 400000) only [wE, stepW, footA, makesA, ptrId, pairsOk, footApart, opS, opA, ev, putA, setC, ofConst, ofFlat, List.replicate, List.set, binA, intA, strA, unA, extractA, nilCheckA, bodyA, resultsA, oneOrTup, builtinA, lenA, indexA, minA, loadA, partA, storeA, setCells, fieldA, ptrAdd, AV.cellsOf, AV.one, reduceCtorEq, Nat.reduceAdd, Nat.reduceSub, Nat.reduceEqDiff, Nat.reduceLeDiff, Array.toList, Int.reduceToNat, Int.reduceLE, Int.reduceLT, Int.reduceAdd, Int.reduceNeg, Nat.reduceMul, L5_20, T5, x1, p1, p2, p3, p4, p5, e1, q1, g4', g5', indexAddrA, ew]
            refine ⟨y, f1, f2, ?_, ?_⟩
            · rw [f3, f4, f5]; simp [Fg]
            · rw [f6]; exact HW.refl _
      have Xn : ∀ (Y : AHeap), Y = (AHeap.set (AHeap.allocAt J J.next (.cells 39 [.int .i64 0, .str [], .str [], .nils, .int .i64 0, .int .i64 0])) J.next (.cells 39 [.int .i64 x.kind, .str x.name, .str x.text, .lst x.attrs.length (attrsA x.attrs), .int .i64 x.line, .int .i64 x.col])) → Y.next = J.next + 1 ∧ Y.get m = some (.row 9 1 (strsA o)) ∧ ∀ j, j < H.next → Y.get j = H.get j := fun Y hY => by
        subst hY
        refine ⟨by simp only [AHeap.next_set, AHeap.next_allocAt]; omega, by rw [AHeap.get_set_ne _ _ (by omega), AHeap.get_allocAt_ne _ _ (by omega)]; exact hrow, fun j hj => by rw [AHeap.get_set_ne _ _ (by omega), AHeap.get_allocAt_ne _ _ (by omega)]; exact g4 j hj⟩
      generalize hY : AHeap.set (AHeap.allocAt _ J.next _) _ _ = Y at xJ Xn ⊢
      obtain ⟨yn, ym, yo⟩ := Xn Y rfl
      clear Xn hY
      have hk5 := tk.kind
      have hkk : x.kind = 0 ∨ x.kind = 1 ∨ x.kind = 2 ∨ x.kind = 3 ∨ x.kind = 4 := by omega
      rcases hkk with hk | hk | hk | hk | hk
      · have c0 : ((x.kind : Int) == 0) = true := by simp [hk]
        have ho := tk.start hk
        have k1 : (Y.next == m) = false := by simp; omega
        have k2 : (o.length + 1 ≤ maxApp) = True := by simp [maxApp]; omega
        have k3 : (m = Y.next) = False := by simp; omega
        simp (maxSteps := 400000) only [wE, stepW, footA, makesA, ptrId, pairsOk, footApart, opS, opA, ev, putA, setC, ofConst, ofFlat, List.replicate, List.set, binA, intA, strA, unA, extractA, nilCheckA, bodyA, resultsA, oneOrTup, builtinA, lenA, indexA, minA, loadA, partA, storeA, setCells, fieldA, ptrAdd, AV.cellsOf, AV.one, reduceCtorEq, Nat.reduceAdd, Nat.reduceSub, Nat.reduceEqDiff, Nat.reduceLeDiff, Array.toList, Int.reduceToNat, Int.reduceLE, Int.reduceLT, Int.reduceAdd, Int.reduceNeg, Nat.reduceMul, T5, c0, xJ, ym, k1, k2, k3, appendA, appSrc, AV.isSlc, sliceLit, fillA, zerosA, srcCells, AV.boxable, Nat.le_refl, Nat.reduceLT, strsA_len, buildA]
        subst ho
        refine rest _ _ ⟨Y.next + 1, _, Weak.of (show Fg _ _ by simp [Fg]) (HW.refl _), ?_, ?_, by omega, ?_, ?_, by simp; omega, fun j hj => ?_⟩
        · rw [AHeap.get_allocAt_ne _ _ (by omega), AHeap.get_del_ne _ (by omega), AHeap.get_allocAt_ne _ _ (by omega)]
          exact xJ
        · rw [AHeap.get_allocAt_same]
          simp [strsA]
        · simp only [AHeap.next_allocAt, AHeap.next_del]; omega
        · simp only [AHeap.next_allocAt, AHeap.next_del]; omega
        · rw [AHeap.get_allocAt_ne _ _ (by omega), AHeap.get_del_ne _ (by omega), AHeap.get_allocAt_ne _ _ (by omega)]
          exact yo j hj
      · have c0 : ((x.kind : Int) == 0) = false := by simp [hk]
        have c1 : ((x.kind : Int) == 1) = true := by simp [hk]
        obtain ⟨hgl, ho⟩ := tk.fin hk
        simp (maxSteps := 400000) only [wE, stepW, footA, makesA, ptrId, pairsOk, footApart, opS, opA, ev, putA, setC, ofConst, ofFlat, List.replicate, List.set, binA, intA, strA, unA, extractA, nilCheckA, bodyA, resultsA, oneOrTup, builtinA, lenA, indexA, minA, loadA, partA, storeA, setCells, fieldA, ptrAdd, AV.cellsOf, AV.one, reduceCtorEq, Nat.reduceAdd, Nat.reduceSub, Nat.reduceEqDiff, Nat.reduceLeDiff, Array.toList, Int.reduceToNat, Int.reduceLE, Int.reduceLT, Int.reduceAdd, Int.reduceNeg, Nat.reduceMul, T5, c0, c1, xJ]
        refine drawW_fixed mixedOrders L5_14_eq P5_14_eq ?_
        rcases List.eq_nil_or_concat o with rfl | ⟨init, last, rfl⟩
        · simp at hgl
        rw [List.concat_eq_append] at ho hgl ym hol ⊢
        have hla : last = x.name := by simpa using hgl
        subst hla
        simp only [List.dropLast_concat] at ho
        subst ho
        simp only [List.length_append, List.length_cons, List.length_nil] at hol ⊢
        have e1 : IntKind.i64.wrap (((o'.length + (0 + 1) : Nat) : Int) - 1) = (o'.length : Int) := by rw [wrap64] <;> omega
        have d1 : (((o'.length + (0 + 1) : Nat) : Int) == 0) = false := by rw [beq_eq_false_iff_ne]; omega
        have q1 : ((o'.length : Int) < ((o'.length + (0 + 1) : Nat) : Int)) = True := by simp; omega
        have q2 : ((o'.length : Int) ≤ ((o'.length + (0 + 1) : Nat) : Int)) = True := by simp; omega
        have hgl2 : (strsA (o' ++ [x.name]))[o'.length]? = some (.str x.name) := by simp [strsA]
        simp (maxSteps := 400000) only [wE, stepW, footA, makesA, ptrId, pairsOk, footApart, opS, opA, ev, putA, setC, ofConst, ofFlat, List.replicate, List.set, binA, intA, strA, unA, extractA, nilCheckA, bodyA, resultsA, oneOrTup, builtinA, lenA, indexA, minA, loadA, partA, storeA, setCells, fieldA, ptrAdd, AV.cellsOf, AV.one, reduceCtorEq, Nat.reduceAdd, Nat.reduceSub, Nat.reduceEqDiff, Nat.reduceLeDiff, Array.toList, Int.reduceToNat, Int.reduceLE, Int.reduceLT, Int.reduceAdd, Int.reduceNeg, Nat.reduceMul, L5_14, T5, xJ, ym, e1, d1, q1, q2, hgl2, beq_self_eq_true, indexAddrA, sliceA, boundA]
        obtain ⟨X', hw, x1, x2, x3⟩ := Weak.popSlot G (k := o'.length) ym (by simp [strsA]) (by omega) (a := [.str text, .und, .bool false, .lst xs.length (evsA xs), .int .i64 ((0 : Nat) : Int), .int .i64 ((0 : Nat) : Int), .int .i64 ((0 : Nat) : Int), .slc m o'.length, .int .i64 k, .ptr J.next 0] ++ List.replicate 34 .und ++ [.lst xs.length (evsA xs), .int .i64 xs.length, .int .i64 k] ++ List.replicate 122 .und) (a' := [.str text, .und, .bool false, .lst xs.length (evsA xs), .int .i64 ((0 : Nat) : Int), .int .i64 ((0 : Nat) : Int), .int .i64 ((0 : Nat) : Int), .slc Y.next o'.length, .int .i64 k, .ptr J.next 0] ++ List.replicate 34 .und ++ [.lst xs.length (evsA xs), .int .i64 xs.length, .int .i64 k] ++ List.replicate 122 .und) (by exact (show Tzs _ _ _ (_ :: _ :: _ :: _ :: _ :: _ :: _ :: _ :: _) (_ :: _ :: _ :: _ :: _ :: _ :: _ :: _ :: _) from ⟨.same _, .und _, .same _, .same _, .same _, .same _, .same _, .slc _ _ (by simp), Tzs.refl _⟩))
        refine rest _ _ ⟨Y.next, X', (Weak.of (show Fg _ _ by simp [Fg]) (HW.refl _)).trans hw, (x3 _ (by omega) (by omega)).trans xJ, ?_, by omega, by omega, by omega, by omega, fun j hj => (x3 j (by omega) (by omega)).trans (yo j hj)⟩
        rw [x1]
        simp [strsA]
      · have c0 : ((x.kind : Int) == 0) = false := by simp [hk]
        have c1 : ((x.kind : Int) == 1) = false := by simp [hk]
        have c2 : ((x.kind : Int) == 2) = true := by simp [hk]
        obtain ⟨t1, t2, t3⟩ := tk.text hk
        have ho := tk.other (by omega)
        subst ho
        have d1 : ((o'.length : Int) == 0) = false := by
          rw [beq_eq_false_iff_ne]
          intro h
          exact t1 (List.length_eq_zero_iff.1 (by omega))
        have d2 : (x.text == []) = false := by simpa using t2
        have done : Q .normal = Q .normal := rfl
        by_cases hk0 : k = 0
        · have p3 : decide ((k : Int) > 0) = false := by simp; omega
          simp (maxSteps := 400000) only [wE, stepW, footA, makesA, ptrId, pairsOk, footApart, opS, opA, ev, putA, setC, ofConst, ofFlat, List.replicate, List.set, binA, intA, strA, unA, extractA, nilCheckA, bodyA, resultsA, oneOrTup, builtinA, lenA, indexA, minA, loadA, partA, storeA, setCells, fieldA, ptrAdd, AV.cellsOf, AV.one, reduceCtorEq, Nat.reduceAdd, Nat.reduceSub, Nat.reduceEqDiff, Nat.reduceLeDiff, Array.toList, Int.reduceToNat, Int.reduceLE, Int.reduceLT, Int.reduceAdd, Int.reduceNeg, Nat.reduceMul, T5, c0, c1, c2, xJ, d1, d2, p3]
          exact rest _ _ ⟨m, Y, Weak.of (show Fg _ _ by simp [Fg]) (HW.refl _), xJ, ym, g1, by omega, by omega, by omega, yo⟩
        · have p3 : decide ((k : Int) > 0) = true := by simp; omega
          have hkp : k - 1 < xs.length := by omega
          have hpv := t3 xs[k - 1] (by rw [if_neg hk0, List.getElem?_eq_getElem hkp])
          have g0' := evsA_get xs (k - 1) 0 hkp (by omega)
          generalize xs[k - 1] = p at hpv g0'
          simp only [evC, List.getElem?_cons_succ, List.getElem?_cons_zero, Nat.add_zero] at g0'
          have e1 : IntKind.i64.wrap ((k : Int) - 1) = ((k - 1 : Nat) : Int) := by rw [wrap64] <;> omega
          have q1 : (((k - 1 : Nat) : Int) < (xs.length : Int)) = True := by simp; omega
          have p4 : ((p.kind : Int) == 2) = false := by rw [beq_eq_false_iff_ne]; omega
          simp (maxSteps := 400000) only [wE, stepW, footA, makesA, ptrId, pairsOk, footApart, opS, opA, ev, putA, setC, ofConst, ofFlat, List.replicate, List.set, binA, intA, strA, unA, extractA, nilCheckA, bodyA, resultsA, oneOrTup, builtinA, lenA, indexA, minA, loadA, partA, storeA, setCells, fieldA, ptrAdd, AV.cellsOf, AV.one, reduceCtorEq, Nat.reduceAdd, Nat.reduceSub, Nat.reduceEqDiff, Nat.reduceLeDiff, Array.toList, Int.reduceToNat, Int.reduceLE, Int.reduceLT, Int.reduceAdd, Int.reduceNeg, Nat.reduceMul, T5, c0, c1, c2, xJ, d1, d2, p3, e1, q1, g0', p4, indexAddrA]
          exact rest _ _ ⟨m, Y, Weak.of (show Fg _ _ by simp [Fg]) (HW.refl _), xJ, ym, g1, by omega, by omega, by omega, yo⟩
      all_goals
        have c0 : ((x.kind : Int) == 0) = false := by simp [hk]
        have c1 : ((x.kind : Int) == 1) = false := by simp [hk]
        have c2 : ((x.kind : Int) == 2) = false := by simp [hk]
        have ho := tk.other (by omega)
        subst ho
        simp (maxSteps := 400000) only [wE, stepW, footA, makesA, ptrId, pairsOk, footApart, opS, opA, ev, putA, setC, ofConst, ofFlat, List.replicate, List.set, binA, intA, strA, unA, extractA, nilCheckA, bodyA, resultsA, oneOrTup, builtinA, lenA, indexA, minA, loadA, partA, storeA, setCells, fieldA, ptrAdd, AV.cellsOf, AV.one, reduceCtorEq, Nat.reduceAdd, Nat.reduceSub, Nat.reduceEqDiff, Nat.reduceLeDiff, Array.toList, Int.reduceToNat, Int.reduceLE, Int.reduceLT, Int.reduceAdd, Int.reduceNeg, Nat.reduceMul, T5, c0, c1, c2, xJ]
        exact rest _ _ ⟨m, Y, Weak.of (show Fg _ _ by simp [Fg]) (HW.refl _), xJ, ym, g1, by omega, by omega, by omega, yo⟩
    · have d0 : decide ((k : Int) < (xs.length : Int)) = false := by simp; omega
      rw [List.drop_eq_nil_of_le (by omega)] at ht
      cases ht
      have z2 : decide ((xs.length : Int) ≥ 2) = true := by simp; omega
      have z3 : (((0 : Nat) : Int) == 0) = true := rfl
      simp (maxSteps := 400000) only [wE, stepW, footA, makesA, ptrId, pairsOk, footApart, opS, opA, ev, putA, setC, ofConst, ofFlat, List.replicate, List.set, binA, intA, strA, unA, extractA, nilCheckA, bodyA, resultsA, oneOrTup, builtinA, lenA, indexA, minA, loadA, partA, storeA, setCells, fieldA, ptrAdd, AV.cellsOf, AV.one, reduceCtorEq, Nat.reduceAdd, Nat.reduceSub, Nat.reduceEqDiff, Nat.reduceLeDiff, Array.toList, Int.reduceToNat, Int.reduceLE, Int.reduceLT, Int.reduceAdd, Int.reduceNeg, Nat.reduceMul, T5, d0, z2, z3]
      refine AInv.retK B11 (works_ok E B P R J) (fun v H2 hq => ?_) (fun v H2 hq => by cases hq.1)
      obtain ⟨hv, h2⟩ := hq
      cases hv
      simp (maxSteps := 400000) only [wE, stepW, footA, makesA, ptrId, pairsOk, footApart, opS, opA, ev, putA, setC, ofConst, ofFlat, List.replicate, List.set, binA, intA, strA, unA, extractA, nilCheckA, bodyA, resultsA, oneOrTup, builtinA, lenA, indexA, minA, loadA, partA, storeA, setCells, fieldA, ptrAdd, AV.cellsOf, AV.one, reduceCtorEq, Nat.reduceAdd, Nat.reduceSub, Nat.reduceEqDiff, Nat.reduceLeDiff, Array.toList, Int.reduceToNat, Int.reduceLE, Int.reduceLT, Int.reduceAdd, Int.reduceNeg, Nat.reduceMul, T5]
      exact ⟨by have := h2.1; omega, fun j hj => (h2.2 j (by omega)).trans (g4 j hj)⟩
  · have z1 : (((e : Nat) : Int) != 0) = true := by simp; omega
    have z2 : ((((0 : Nat) : Int)) == 0) = true := rfl
    rcases hpos with ⟨hl, hc⟩ | ⟨rfl, rfl, rfl⟩
    · have z3 : decide ((line : Int) > 0) = true := by simp; omega
      have z4 : decide ((col : Int) > 0) = true := by simp; omega
      simp (maxSteps := 400000) only [wE, stepW, footA, makesA, ptrId, pairsOk, footApart, opS, opA, ev, putA, setC, ofConst, ofFlat, List.replicate, List.set, binA, intA, strA, unA, extractA, nilCheckA, bodyA, resultsA, oneOrTup, builtinA, lenA, indexA, minA, loadA, partA, storeA, setCells, fieldA, ptrAdd, AV.cellsOf, AV.one, reduceCtorEq, Nat.reduceAdd, Nat.reduceSub, Nat.reduceEqDiff, Nat.reduceLeDiff, Array.toList, Int.reduceToNat, Int.reduceLE, Int.reduceLT, Int.reduceAdd, Int.reduceNeg, Nat.reduceMul, T5, z1, z2, z3, z4, beq_self_eq_true, eqNeq]
      refine AInv.retK B11 (works_ok E B P R H1) (fun v H2 hq => ?_) (fun v H2 hq => by cases hq.1)
      obtain ⟨hv, h2⟩ := hq
      cases hv
      simp (maxSteps := 400000) only [wE, stepW, footA, makesA, ptrId, pairsOk, footApart, opS, opA, ev, putA, setC, ofConst, ofFlat, List.replicate, List.set, binA, intA, strA, unA, extractA, nilCheckA, bodyA, resultsA, oneOrTup, builtinA, lenA, indexA, minA, loadA, partA, storeA, setCells, fieldA, ptrAdd, AV.cellsOf, AV.one, reduceCtorEq, Nat.reduceAdd, Nat.reduceSub, Nat.reduceEqDiff, Nat.reduceLeDiff, Array.toList, Int.reduceToNat, Int.reduceLE, Int.reduceLT, Int.reduceAdd, Int.reduceNeg, Nat.reduceMul, T5]
      exact h1.trans h2
    · have z3 : decide ((((0 : Nat) : Int)) > 0) = false := rfl
      have z4 : ((((10 : Nat) : Int)) == 10) = true := rfl
      simp (maxSteps := 400000) only [wE, stepW, footA, makesA, ptrId, pairsOk, footApart, opS, opA, ev, putA, setC, ofConst, ofFlat, List.replicate, List.set, binA, intA, strA, unA, extractA, nilCheckA, bodyA, resultsA, oneOrTup, builtinA, lenA, indexA, minA, loadA, partA, storeA, setCells, fieldA, ptrAdd, AV.cellsOf, AV.one, reduceCtorEq, Nat.reduceAdd, Nat.reduceSub, Nat.reduceEqDiff, Nat.reduceLeDiff, Array.toList, Int.reduceToNat, Int.reduceLE, Int.reduceLT, Int.reduceAdd, Int.reduceNeg, Nat.reduceMul, T5, z1, z2, z3, z4, beq_self_eq_true, eqNeq]
      refine AInv.retK B11 (works_ok E B P R H1) (fun v H2 hq => ?_) (fun v H2 hq => by cases hq.1)
      obtain ⟨hv, h2⟩ := hq
      cases hv
      simp (maxSteps := 400000) only [wE, stepW, footA, makesA, ptrId, pairsOk, footApart, opS, opA, ev, putA, setC, ofConst, ofFlat, List.replicate, List.set, binA, intA, strA, unA, extractA, nilCheckA, bodyA, resultsA, oneOrTup, builtinA, lenA, indexA, minA, loadA, partA, storeA, setCells, fieldA, ptrAdd, AV.cellsOf, AV.one, reduceCtorEq, Nat.reduceAdd, Nat.reduceSub, Nat.reduceEqDiff, Nat.reduceLeDiff, Array.toList, Int.reduceToNat, Int.reduceLE, Int.reduceLT, Int.reduceAdd, Int.reduceNeg, Nat.reduceMul, T5]
      exact h1.trans h2
end Go.Ab
