/- The examples' own check, walked. -/
import Derived.Test.YtebgjmoihhbjjaaGreatDoorW23
set_option linter.all false
namespace Go.Ab
open Go Go.Lib Go.Proofs

theorem VR.lstNils {C : Ctx} {n : Nat} {cells cells' : List AV} (w : World) (h : Tzs 0 (fun _ => none) (some (.lst 0 [])) cells cells') : ∀ v, VR C (.lst n cells) v → VR C (.lst n cells') v := by
  intro v hv
  have hl := h.at.1
  have mv : ∀ (i : Nat) (y : AV), cells'[i]? = some y → ∃ x, cells[i]? = some x ∧ ∀ v, VR C x v → VR C y v := by
    intro i y hy
    have hi : i < cells.length := by rw [hl]; exact (List.getElem?_eq_some_iff.1 hy).1
    refine ⟨cells[i], List.getElem?_eq_getElem hi, ?_⟩
    exact (h.at.2 i _ y (List.getElem?_eq_getElem hi) hy).move (Adv.refl C w) (fun l y v hy => by cases hy) fun y v hy hx => by
      cases hy; cases hx; exact .lstNil
  cases hv with
  | lst _ _ c off cap arr f hI hl2 h1 h2 =>
    exact .lst n cells' c off cap arr f hI hl2 (fun i y hy => by obtain ⟨x, hx, _⟩ := mv i y hy; exact h1 i x hx) (fun i y hy => by obtain ⟨x, hx, hm⟩ := mv i y hy; exact hm _ (h2 i x hx))
  | lstNil =>
    cases cells' with
    | nil => exact .lstNil
    | cons a l => simp at hl

theorem Weak.vals {G : Nat → Option (List AV)} {x0 x1 x2 y1 : AV} {H : AHeap} (h : ∀ (C : Ctx) (w : World) v, VR C x1 v → VR C y1 v) : Weak G [x0, x1, x2] H [x0, y1, x2] H := by
  intro C w R hH
  refine ⟨C, hH, R, Adv.refl C w, fun ys hy => ?_⟩
  match ys, hy with
  | [a, b, c], hy =>
    exact VRs.cons (hy.2 0 _ _ rfl rfl) (VRs.cons (h C w _ (hy.2 1 _ _ rfl rfl)) (VRs.cons (hy.2 2 _ _ rfl rfl) (VRs.nil C)))
  | [], hy => have := hy.1; simp at this
  | [_], hy => have := hy.1; simp at this
  | [_, _], hy => have := hy.1; simp at this
  | _ :: _ :: _ :: _ :: _, hy => have := hy.1; simp at this

theorem Weak.freezeVals {G : Nat → Option (List AV)} {H : AHeap} {j : Nat} {e : TypeId} {size : Nat} {cs a a' : List AV} (hj : H.get j = some (.row e size cs)) (hsz : 0 < size) (hv : Tzs j (fun len => some (.lst len cs)) none a a') :
    Weak G a H a' (H.del j) :=
  Weak.freeze hj hsz (Nat.le_refl _) (by simp [AHeap.get_del]) (fun i => by
    by_cases h : i = j
    · exact .inr (.inl (by simp [AHeap.get_del, h]))
    · cases hg : H.get i with
      | none => exact .inr (.inl (by simp [AHeap.get_del, h, hg]))
      | some o => exact .inr (.inr ⟨o, o, rfl, by simp [AHeap.get_del, h, hg], .same o⟩)) hv
/-- A row within a row is not written any more. -/
theorem Weak.freezeIn {G : Nat → Option (List AV)} {H : AHeap} {j m : Nat} {e e2 : TypeId} {size size2 : Nat} {cs cm cm' a : List AV} (hj : H.get j = some (.row e size cs)) (hsz : 0 < size) (hm : H.get m = some (.row e2 size2 cm)) (hjm : m ≠ j)
    (hc : Tzs j (fun len => some (.lst len cs)) none cm cm') : Weak G a H a ((H.del j).set m (.row e2 size2 cm')) :=
  Weak.freeze hj hsz (Nat.le_refl _) (by simp [AHeap.get_del, AHeap.get_set, Ne.symm hjm]) (fun i => by
    by_cases h : i = j
    · exact .inr (.inl (by simp [AHeap.get_del, AHeap.get_set, h, Ne.symm hjm]))
    · by_cases h2 : i = m
      · subst h2
        exact .inr (.inr ⟨_, .row e2 size2 cm', hm, by simp [AHeap.get_set], .row _ _ _ _ hc⟩)
      · cases hg : H.get i with
        | none => exact .inr (.inl (by simp [AHeap.get_del, AHeap.get_set, h, h2, hg]))
        | some o => exact .inr (.inr ⟨o, o, rfl, by simp [AHeap.get_del, AHeap.get_set, h, h2, hg], .same o⟩)) (Tzs.refl _)

set_option maxRecDepth 100000 in
theorem works_ok {G : Nat → Option (List AV)} (E : Env G) (B : EnvB G) (P : EnvP G) (R : EnvR G) (H : AHeap) : ACalls Tryz.prog G 11 [] H fun r H' => r = .ret (.bool true) ∧ Kept H H' := by
  refine ACalls.of Tryz.func11 S11_eq R11 N11 rfl rfl ?_
  simp (maxSteps := 400000) only [wE, stepW, footA, makesA, ptrId, pairsOk, footApart, opS, opA, ev, putA, setC, ofConst, ofFlat, List.replicate, List.set, binA, intA, strA, unA, extractA, nilCheckA, bodyA, resultsA, oneOrTup, builtinA, lenA, indexA, minA, loadA, partA, storeA, setCells, fieldA, ptrAdd, AV.cellsOf, AV.one, reduceCtorEq, Nat.reduceAdd, Nat.reduceSub, Nat.reduceEqDiff, Nat.reduceLeDiff, Array.toList, Int.reduceToNat, Int.reduceLE, Int.reduceLT, Int.reduceAdd, Int.reduceNeg, Nat.reduceMul, S11, N11, R11, T11]
  refine AInv.retK B12 (all_ok E B P R worksA H) (fun v H1 hq => ?_) (fun v H1 hq => by cases hq.1)
  obtain ⟨hv, h1⟩ := hq
  cases hv
  rw [worksA_eq]
  have n1 := h1.1
  have q1 : (H1.next + 1 = H1.next) = False := by simp
  simp only [allA]
  simp (maxSteps := 400000) only [wE, stepW, footA, makesA, ptrId, pairsOk, footApart, opS, opA, ev, putA, setC, ofConst, ofFlat, List.replicate, List.set, binA, intA, strA, unA, extractA, nilCheckA, bodyA, resultsA, oneOrTup, builtinA, lenA, indexA, minA, loadA, partA, storeA, setCells, fieldA, ptrAdd, AV.cellsOf, AV.one, reduceCtorEq, Nat.reduceAdd, Nat.reduceSub, Nat.reduceEqDiff, Nat.reduceLeDiff, Array.toList, Int.reduceToNat, Int.reduceLE, Int.reduceLT, Int.reduceAdd, Int.reduceNeg, Nat.reduceMul, T11, buildA, sliceLit, fillA, zerosA, AV.boxable, Nat.le_refl, Nat.reduceLT]
  generalize hX : AHeap.allocAt _ (H1.next + 1) _ = X
  have xn : X.next = H1.next + 2 := by rw [← hX]; simp only [AHeap.next_allocAt]; omega
  have xk : X.get H1.next = some (.row 59 2 [.str [120], .str [49, 60]]) := by rw [← hX, AHeap.get_allocAt_ne _ _ (by omega), AHeap.get_allocAt_same]
  have xo : ∀ j, j < H1.next → X.get j = H1.get j := fun j hj => by rw [← hX, AHeap.get_allocAt_ne _ _ (by omega), AHeap.get_allocAt_ne _ _ (by omega)]
  have xm : X.get (H1.next + 1) = some (.row 39 6 [.int .i64 0, .str [97], .str [], .slc H1.next 1, .int .i64 1, .int .i64 1, .int .i64 2, .str [], .str [98, 60, 65], .nils, .int .i64 1, .int .i64 14, .int .i64 1, .str [97], .str [], .nils, .int .i64 1, .int .i64 33]) := by rw [← hX, AHeap.get_allocAt_same]
  refine AInv.retK B12 (all_ok E B P R worksB X) (fun v H2 hq => ?_) (fun v H2 hq => by cases hq.1)
  obtain ⟨hv, h2⟩ := hq
  cases hv
  rw [worksB_eq]
  have n2 := h2.1
  have yk := (h2.2 _ (by omega)).trans xk
  have ym := (h2.2 _ (by omega)).trans xm
  simp only [allA]
  have c0 : (((0 : Nat) : Int) == 0) = true := rfl
  have c1 : (((1 : Nat) : Int) == 1) = true := rfl
  have c7 : (((7 : Nat) : Int) == 7) = true := rfl
  have c9 : (((110 : Nat) : Int) == 110) = true := rfl
  simp (maxSteps := 400000) only [wE, stepW, footA, makesA, ptrId, pairsOk, footApart, opS, opA, ev, putA, setC, ofConst, ofFlat, List.replicate, List.set, binA, intA, strA, unA, extractA, nilCheckA, bodyA, resultsA, oneOrTup, builtinA, lenA, indexA, minA, loadA, partA, storeA, setCells, fieldA, ptrAdd, AV.cellsOf, AV.one, reduceCtorEq, Nat.reduceAdd, Nat.reduceSub, Nat.reduceEqDiff, Nat.reduceLeDiff, Array.toList, Int.reduceToNat, Int.reduceLE, Int.reduceLT, Int.reduceAdd, Int.reduceNeg, Nat.reduceMul, T11, c0]
  have hw1 : Weak G [.lst worksEv.length (evsA worksEv), .slc (H1.next + 1) 3, .bool true] H2 [.lst worksEv.length (evsA worksEv), .slc (H1.next + 1) 3, .bool true] ((H2.del H1.next).set (H1.next + 1) (.row 39 6 [.int .i64 0, .str [97], .str [], .lst 1 [.str [120], .str [49, 60]], .int .i64 1, .int .i64 1, .int .i64 2, .str [], .str [98, 60, 65], .nils, .int .i64 1, .int .i64 14, .int .i64 1, .str [97], .str [], .nils, .int .i64 1, .int .i64 33])) :=
    Weak.freezeIn yk (by omega) ym (by omega) ⟨.same _, .same _, .same _, .slc _ _ rfl, Tzs.refl _⟩
  have hw2 := Weak.freezeVals (G := G) (H := ((H2.del H1.next).set (H1.next + 1) (.row 39 6 [.int .i64 0, .str [97], .str [], .lst 1 [.str [120], .str [49, 60]], .int .i64 1, .int .i64 1, .int .i64 2, .str [], .str [98, 60, 65], .nils, .int .i64 1, .int .i64 14, .int .i64 1, .str [97], .str [], .nils, .int .i64 1, .int .i64 33]))) (j := H1.next + 1) (AHeap.get_set_same _ _ _) (by omega)
    (a := [.lst worksEv.length (evsA worksEv), .slc (H1.next + 1) 3, .bool true]) (a' := [.lst worksEv.length (evsA worksEv), .lst 3 [.int .i64 0, .str [97], .str [], .lst 1 [.str [120], .str [49, 60]], .int .i64 1, .int .i64 1, .int .i64 2, .str [], .str [98, 60, 65], .nils, .int .i64 1, .int .i64 14, .int .i64 1, .str [97], .str [], .nils, .int .i64 1, .int .i64 33], .bool true]) ⟨.same _, .slc _ _ rfl, .same _, trivial⟩
  have hw3 : Weak G [.lst worksEv.length (evsA worksEv), .lst 3 [.int .i64 0, .str [97], .str [], .lst 1 [.str [120], .str [49, 60]], .int .i64 1, .int .i64 1, .int .i64 2, .str [], .str [98, 60, 65], .nils, .int .i64 1, .int .i64 14, .int .i64 1, .str [97], .str [], .nils, .int .i64 1, .int .i64 33], .bool true] (((H2.del H1.next).set (H1.next + 1) (.row 39 6 [.int .i64 0, .str [97], .str [], .lst 1 [.str [120], .str [49, 60]], .int .i64 1, .int .i64 1, .int .i64 2, .str [], .str [98, 60, 65], .nils, .int .i64 1, .int .i64 14, .int .i64 1, .str [97], .str [], .nils, .int .i64 1, .int .i64 33])).del (H1.next + 1)) [.lst worksEv.length (evsA worksEv), .lst worksEv.length (evsA worksEv), .bool true] _ :=
    Weak.vals fun C w v hv => VR.lstNils (cells := [.int .i64 0, .str [97], .str [], .lst 1 [.str [120], .str [49, 60]], .int .i64 1, .int .i64 1, .int .i64 2, .str [], .str [98, 60, 65], .nils, .int .i64 1, .int .i64 14, .int .i64 1, .str [97], .str [], .nils, .int .i64 1, .int .i64 33]) (cells' := [.int .i64 0, .str [97], .str [], .lst 1 [.str [120], .str [49, 60]], .int .i64 1, .int .i64 1, .int .i64 2, .str [], .str [98, 60, 65], .lst 0 [], .int .i64 1, .int .i64 14, .int .i64 1, .str [97], .str [], .lst 0 [], .int .i64 1, .int .i64 33]) w (show Tzs _ _ _ _ _ from ⟨.same _, .same _, .same _, .same _, .same _, .same _, .same _, .same _, .same _, .nil _ rfl, .same _, .same _, .same _, .same _, .same _, .nil _ rfl, .same _, .same _, trivial⟩) v hv
  refine AInv.retK B14 (ACalls.weak ((hw1.trans hw2).trans hw3) (same_ok G worksEv true (by decide) (by decide) _)) (fun v H3 hq => ?_) (fun v H3 hq => by cases hq.1)
  obtain ⟨hv, h3⟩ := hq
  cases hv
  have n3 := h3.1
  simp only [AHeap.next_del, AHeap.next_set] at n3
  simp (maxSteps := 400000) only [wE, stepW, footA, makesA, ptrId, pairsOk, footApart, opS, opA, ev, putA, setC, ofConst, ofFlat, List.replicate, List.set, binA, intA, strA, unA, extractA, nilCheckA, bodyA, resultsA, oneOrTup, builtinA, lenA, indexA, minA, loadA, partA, storeA, setCells, fieldA, ptrAdd, AV.cellsOf, AV.one, reduceCtorEq, Nat.reduceAdd, Nat.reduceSub, Nat.reduceEqDiff, Nat.reduceLeDiff, Array.toList, Int.reduceToNat, Int.reduceLE, Int.reduceLT, Int.reduceAdd, Int.reduceNeg, Nat.reduceMul, T11, c1, c7, c9]
  refine ⟨by omega, fun j hj => ?_⟩
  rw [h3.2, AHeap.get_del_ne _ (by omega), AHeap.get_set_ne _ _ (by omega), AHeap.get_del_ne _ (by omega), h2.2 j (by omega), xo j (by omega)]
  exact h1.2 j hj
end Go.Ab
