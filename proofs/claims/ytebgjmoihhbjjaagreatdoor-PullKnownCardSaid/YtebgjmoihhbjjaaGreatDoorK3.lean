/- PullKnown, walked. -/
import Derived.Test.YtebgjmoihhbjjaaGreatDoorK1
import Derived.Test.YtebgjmoihhbjjaaGreatDoorK2
import Derived.Test.YtebgjmoihhbjjaaGreatDoorCodes4
set_option linter.all false
namespace Go.Ab
open Go Go.Lib Go.Proofs

theorem Weak.vals2 {G : Nat → Option (List AV)} {x0 x1 x2 y0 y1 : AV} {H : AHeap} (h0 : ∀ (C : Ctx) (w : World) v, VR C x0 v → VR C y0 v) (h1 : ∀ (C : Ctx) (w : World) v, VR C x1 v → VR C y1 v) : Weak G [x0, x1, x2] H [y0, y1, x2] H := by
  intro C w R hH
  refine ⟨C, hH, R, Adv.refl C w, fun ys hy => ?_⟩
  match ys, hy with
  | [a, b, c], hy =>
    exact VRs.cons (h0 C w _ (hy.2 0 _ _ rfl rfl)) (VRs.cons (h1 C w _ (hy.2 1 _ _ rfl rfl)) (VRs.cons (hy.2 2 _ _ rfl rfl) (VRs.nil C)))
  | [], hy => have := hy.1; simp at this
  | [_], hy => have := hy.1; simp at this
  | [_, _], hy => have := hy.1; simp at this
  | _ :: _ :: _ :: _ :: _, hy => have := hy.1; simp at this

/-- Where the walk through the wrong documents stands. -/
def KnownAt (H : AHeap) (m : Nat) (x : Nat × AHeap) : Prop :=
  x.1 ≤ knownT.length ∧ x.2.get m = some (.row 48 3 (knownC knownT)) ∧ H.next ≤ m ∧ m < x.2.next ∧ H.next ≤ x.2.next ∧ ∀ j, j < H.next → x.2.get j = H.get j
/-- Where the walk through the two parsers stands. -/
def NoneAt (H : AHeap) (m p : Nat) (x : Nat × AHeap) : Prop :=
  x.1 ≤ 2 ∧ x.2.get m = some (.row 29 1 [.nilp, .ptr p 0]) ∧ x.2.get p = some (.cells 54 zeroPar) ∧ H.next ≤ m ∧ m < x.2.next ∧ H.next ≤ p ∧ p < x.2.next ∧ H.next ≤ x.2.next ∧ ∀ j, j < H.next → x.2.get j = H.get j

set_option maxHeartbeats 8000000 in
set_option maxRecDepth 100000 in
theorem known_ok {G : Nat → Option (List AV)} (E : Env G) (B : EnvB G) (P : EnvP G) (R : EnvR G) (H : AHeap) : ACalls Tryz.prog G 8 [] H fun r H' => r = .ret (.bool true) ∧ Kept H H' := by
  refine ACalls.of Tryz.func8 S8_eq R8 N8 rfl rfl ?_
  simp (maxSteps := 400000) only [wE, stepW, footA, makesA, ptrId, pairsOk, footApart, opS, opA, ev, putA, setC, ofConst, ofFlat, List.replicate, List.set, binA, intA, strA, unA, extractA, nilCheckA, bodyA, resultsA, oneOrTup, builtinA, lenA, indexA, minA, loadA, partA, storeA, setCells, fieldA, ptrAdd, AV.cellsOf, AV.one, reduceCtorEq, Nat.reduceAdd, Nat.reduceSub, Nat.reduceEqDiff, Nat.reduceLeDiff, Array.toList, Int.reduceToNat, Int.reduceLE, Int.reduceLT, Int.reduceAdd, Int.reduceNeg, Nat.reduceMul, S8, N8, R8, T8]
  refine AInv.retK B12 (all_ok E B P R knownA H) (fun v H1 hq => ?_) (fun v H1 hq => by cases hq.1)
  obtain ⟨hv, h1⟩ := hq
  cases hv
  rw [knownA_eq]
  have n1 := h1.1
  have z0 : (((0 : Nat) : Int) != 0) = false := rfl
  simp only [allA]
  simp (maxSteps := 400000) only [wE, stepW, footA, makesA, ptrId, pairsOk, footApart, opS, opA, ev, putA, setC, ofConst, ofFlat, List.replicate, List.set, binA, intA, strA, unA, extractA, nilCheckA, bodyA, resultsA, oneOrTup, builtinA, lenA, indexA, minA, loadA, partA, storeA, setCells, fieldA, ptrAdd, AV.cellsOf, AV.one, reduceCtorEq, Nat.reduceAdd, Nat.reduceSub, Nat.reduceEqDiff, Nat.reduceLeDiff, Array.toList, Int.reduceToNat, Int.reduceLE, Int.reduceLT, Int.reduceAdd, Int.reduceNeg, Nat.reduceMul, T8, z0, buildA, sliceLit, fillA, zerosA, AV.boxable, Nat.le_refl, Nat.reduceLT]
  have xm := AHeap.get_allocAt_same H1 H1.next (.row 39 6 [.int .i64 3, .str [], .str [99], .nils, .int .i64 2, .int .i64 1, .int .i64 0, .str [97], .str [], .nils, .int .i64 2, .int .i64 9, .int .i64 1, .str [97], .str [], .nils, .int .i64 2, .int .i64 9])
  have hw1 := Weak.freezeVals (G := G) xm (by omega) (a := [.lst knownEv.length (evsA knownEv), .slc H1.next 3, .bool true]) (a' := [.lst knownEv.length (evsA knownEv), .lst 3 [.int .i64 3, .str [], .str [99], .nils, .int .i64 2, .int .i64 1, .int .i64 0, .str [97], .str [], .nils, .int .i64 2, .int .i64 9, .int .i64 1, .str [97], .str [], .nils, .int .i64 2, .int .i64 9], .bool true]) ⟨.same _, .slc _ _ rfl, .same _, trivial⟩
  have hw2 : Weak G [.lst knownEv.length (evsA knownEv), .lst 3 [.int .i64 3, .str [], .str [99], .nils, .int .i64 2, .int .i64 1, .int .i64 0, .str [97], .str [], .nils, .int .i64 2, .int .i64 9, .int .i64 1, .str [97], .str [], .nils, .int .i64 2, .int .i64 9], .bool true] _ [.lst knownEv.length (evsA knownEv), .lst knownEv.length (evsA knownEv), .bool true] _ :=
    Weak.vals (H := (H1.allocAt H1.next (.row 39 6 [.int .i64 3, .str [], .str [99], .nils, .int .i64 2, .int .i64 1, .int .i64 0, .str [97], .str [], .nils, .int .i64 2, .int .i64 9, .int .i64 1, .str [97], .str [], .nils, .int .i64 2, .int .i64 9])).del H1.next) fun C w v hv => VR.lstNils (cells := [.int .i64 3, .str [], .str [99], .nils, .int .i64 2, .int .i64 1, .int .i64 0, .str [97], .str [], .nils, .int .i64 2, .int .i64 9, .int .i64 1, .str [97], .str [], .nils, .int .i64 2, .int .i64 9]) (cells' := evsA knownEv) w (show Tzs _ _ _ _ [_, _, _, _, _, _, _, _, _, _, _, _, _, _, _, _, _, _] from ⟨.same _, .same _, .same _, .nil _ rfl, .same _, .same _, .same _, .same _, .same _, .nil _ rfl, .same _, .same _, .same _, .same _, .same _, .nil _ rfl, .same _, .same _, trivial⟩) v hv
  refine AInv.retK B14 (ACalls.weak (hw1.trans hw2) (same_ok G knownEv true (by decide) (by decide) _)) (fun v H3 hq => ?_) (fun v H3 hq => by cases hq.1)
  obtain ⟨hv, h3⟩ := hq
  cases hv
  have n3 := h3.1
  simp only [AHeap.next_del, AHeap.next_allocAt] at n3
  have o3 : ∀ j, j < H.next → H3.get j = H.get j := fun j hj => by rw [h3.2, AHeap.get_del_ne _ (by omega), AHeap.get_allocAt_ne _ _ (by omega)]; exact h1.2 j hj
  simp (maxSteps := 400000) only [wE, stepW, footA, makesA, ptrId, pairsOk, footApart, opS, opA, ev, putA, setC, ofConst, ofFlat, List.replicate, List.set, binA, intA, strA, unA, extractA, nilCheckA, bodyA, resultsA, oneOrTup, builtinA, lenA, indexA, minA, loadA, partA, storeA, setCells, fieldA, ptrAdd, AV.cellsOf, AV.one, reduceCtorEq, Nat.reduceAdd, Nat.reduceSub, Nat.reduceEqDiff, Nat.reduceLeDiff, Array.toList, Int.reduceToNat, Int.reduceLE, Int.reduceLT, Int.reduceAdd, Int.reduceNeg, Nat.reduceMul, T8, buildA, sliceLit, fillA, zerosA, AV.boxable, Nat.le_refl, Nat.reduceLT]
  generalize hX : AHeap.allocAt H3 H3.next _ = X
  have xn : X.next = H3.next + 1 := by rw [← hX]; simp only [AHeap.next_allocAt]; omega
  have xt : X.get H3.next = some (.row 48 3 (knownC knownT)) := by rw [← hX, AHeap.get_allocAt_same]; rfl
  have xo : ∀ j, j < H.next → X.get j = H.get j := fun j hj => by rw [← hX, AHeap.get_allocAt_ne _ _ (by omega)]; exact o3 j hj
  clear hX xm hw1 hw2
  refine ATrS.loopK (κ := Nat × AHeap) (fun x => [.bool false] ++ List.replicate 47 .und ++ [.slc H3.next 12, .int .i64 12, .int .i64 x.1] ++ List.replicate 73 .und) (fun x => x.2)
    (KnownAt H H3.next) (fun x => 12 - x.1) ⟨(0, X), ⟨Nat.zero_le _, xt, by omega, by simp only; omega, by simp only; omega, xo⟩, by simp [Fg], HW.refl _⟩ ?_
  rintro ⟨k, J⟩ ⟨hk, ht, g1, g2, g3, g4⟩
  simp only at hk ht g1 g2 g3 g4
  have hkl : knownT.length = 12 := rfl
  by_cases hlt : k < 12
  · have d0 : decide ((k : Int) < 12) = true := by simp; omega
    have q0 : ((k : Int) < ((12 : Nat) : Int)) = True := by simp; omega
    have hat := knownC_at knownT k (by omega)
    have hle : (k * 3 + 3 ≤ (knownC knownT).length) = True := by rw [knownC_len]; simp; omega
    have ew : IntKind.i64.wrap ((k : Int) + 1) = ((k + 1 : Nat) : Int) := by rw [wrap64] <;> omega
    have hall := knownT_all knownT[k] (List.getElem_mem _)
    generalize knownT[k] = x at hat hall
    have um : (H3.next = J.next) = False := by simp; omega
    simp (maxSteps := 400000) only [wE, stepW, footA, makesA, ptrId, pairsOk, footApart, opS, opA, ev, putA, setC, ofConst, ofFlat, List.replicate, List.set, binA, intA, strA, unA, extractA, nilCheckA, bodyA, resultsA, oneOrTup, builtinA, lenA, indexA, minA, loadA, partA, storeA, setCells, fieldA, ptrAdd, AV.cellsOf, AV.one, reduceCtorEq, Nat.reduceAdd, Nat.reduceSub, Nat.reduceEqDiff, Nat.reduceLeDiff, Array.toList, Int.reduceToNat, Int.reduceLE, Int.reduceLT, Int.reduceAdd, Int.reduceNeg, Nat.reduceMul, T8, d0, q0, hat, hle, ht, indexAddrA]
    generalize hY : AHeap.set (AHeap.allocAt J J.next _) _ _ = Y
    have yn : Y.next = J.next + 1 := by rw [← hY]; simp only [AHeap.next_set, AHeap.next_allocAt]; omega
    have yx : Y.get J.next = some (.cells 48 [.str x.1, .int .i64 x.2.1, .int .i64 x.2.2]) := by rw [← hY, AHeap.get_set_same]
    have yo : ∀ j, j < J.next → Y.get j = J.get j := fun j hj => by rw [← hY, AHeap.get_set_ne _ _ (by omega), AHeap.get_allocAt_ne _ _ (by omega)]
    try simp (maxSteps := 400000) only [wE, stepW, footA, makesA, ptrId, pairsOk, footApart, opS, opA, ev, putA, setC, ofConst, ofFlat, List.replicate, List.set, binA, intA, strA, unA, extractA, nilCheckA, bodyA, resultsA, oneOrTup, builtinA, lenA, indexA, minA, loadA, partA, storeA, setCells, fieldA, ptrAdd, AV.cellsOf, AV.one, reduceCtorEq, Nat.reduceAdd, Nat.reduceSub, Nat.reduceEqDiff, Nat.reduceLeDiff, Array.toList, Int.reduceToNat, Int.reduceLE, Int.reduceLT, Int.reduceAdd, Int.reduceNeg, Nat.reduceMul, T8, yx]
    refine AInv.retK B12 (all_ok E B P R x.1 Y) (fun v H4 hq => ?_) (fun v H4 hq => by cases hq.1)
    obtain ⟨hv, h4⟩ := hq
    cases hv
    rw [hall]
    have n4 := h4.1
    have y4 := (h4.2 J.next (by omega)).trans yx
    have z1 : (((0 : Nat) : Int) != 0) = false := rfl
    have z2 : (((1 : Nat) : Int) != 1) = false := rfl
    have z3 : ((x.2.1 : Int) != (x.2.1 : Int)) = false := by simp
    have z4 : ((x.2.2 : Int) != (x.2.2 : Int)) = false := by simp
    simp only [allA]
    simp (maxSteps := 400000) only [wE, stepW, footA, makesA, ptrId, pairsOk, footApart, opS, opA, ev, putA, setC, ofConst, ofFlat, List.replicate, List.set, binA, intA, strA, unA, extractA, nilCheckA, bodyA, resultsA, oneOrTup, builtinA, lenA, indexA, minA, loadA, partA, storeA, setCells, fieldA, ptrAdd, AV.cellsOf, AV.one, reduceCtorEq, Nat.reduceAdd, Nat.reduceSub, Nat.reduceEqDiff, Nat.reduceLeDiff, Array.toList, Int.reduceToNat, Int.reduceLE, Int.reduceLT, Int.reduceAdd, Int.reduceNeg, Nat.reduceMul, T8, y4, z1, z2, z3, z4, ew]
    refine ⟨(k + 1, H4), ⟨by simp only; omega, ?_, g1, by simp only; omega, by simp only; omega, fun j hj => ?_⟩, by simp only; omega, by simp [Fg], HW.refl _⟩
    · simp only
      rw [h4.2 _ (by omega), yo _ (by omega)]
      exact ht
    · simp only
      rw [h4.2 _ (by omega), yo _ (by omega)]
      exact g4 j hj
  · have d0 : decide ((k : Int) < 12) = false := by simp; omega
    simp (maxSteps := 400000) only [wE, stepW, footA, makesA, ptrId, pairsOk, footApart, opS, opA, ev, putA, setC, ofConst, ofFlat, List.replicate, List.set, binA, intA, strA, unA, extractA, nilCheckA, bodyA, resultsA, oneOrTup, builtinA, lenA, indexA, minA, loadA, partA, storeA, setCells, fieldA, ptrAdd, AV.cellsOf, AV.one, reduceCtorEq, Nat.reduceAdd, Nat.reduceSub, Nat.reduceEqDiff, Nat.reduceLeDiff, Array.toList, Int.reduceToNat, Int.reduceLE, Int.reduceLT, Int.reduceAdd, Int.reduceNeg, Nat.reduceMul, T8, d0, sliceLit, fillA, zerosA, AV.boxable, Nat.le_refl, Nat.reduceLT]
    have en1 : (J.next = J.next + 1) = False := by simp
    generalize hY : AHeap.allocAt (AHeap.allocAt J J.next _) (J.next + 1) _ = Y
    have yn : Y.next = J.next + 2 := by rw [← hY]; simp only [AHeap.next_allocAt]; omega
    have yp : Y.get J.next = some (.cells 54 zeroPar) := by rw [← hY, AHeap.get_allocAt_ne _ _ (by omega), AHeap.get_allocAt_same]; rfl
    have ym : Y.get (J.next + 1) = some (.row 29 1 [.nilp, .ptr J.next 0]) := by rw [← hY, AHeap.get_allocAt_same]
    have yo : ∀ j, j < H.next → Y.get j = H.get j := fun j hj => by rw [← hY, AHeap.get_allocAt_ne _ _ (by omega), AHeap.get_allocAt_ne _ _ (by omega)]; exact g4 j hj
    clear hY
    refine ATrS.loopK (κ := Nat × AHeap) (fun x => [.bool false] ++ List.replicate 83 .und ++ [.slc (J.next + 1) 2, .int .i64 2, .int .i64 x.1] ++ List.replicate 37 .und) (fun x => x.2)
      (NoneAt H (J.next + 1) J.next) (fun x => 2 - x.1) ⟨(0, Y), ⟨Nat.zero_le _, ym, yp, by omega, by simp only; omega, by omega, by simp only; omega, by simp only; omega, yo⟩, by simp [Fg], HW.refl _⟩ ?_
    generalize J.next = p at yp ym
    clear hk ht g1 g2 g3 g4 yn yp ym yo en1 hlt d0
    rintro ⟨k, J⟩ ⟨hk, ht, hp, g1, g2, g5, g6, g3, g4⟩
    simp only at hk ht hp g1 g2 g3 g4 g5 g6
    by_cases hlt : k < 2
    · have d0 : decide ((k : Int) < 2) = true := by simp; omega
      have q0 : ((k : Int) < ((2 : Nat) : Int)) = True := by simp; omega
      have ew : IntKind.i64.wrap ((k : Int) + 1) = ((k + 1 : Nat) : Int) := by rw [wrap64] <;> omega
      obtain ⟨v, hv, hnext, hwhere⟩ : ∃ v, ([.nilp, .ptr p 0] : List AV)[k]? = some v ∧ (∀ X : AHeap, X.get p = some (.cells 54 zeroPar) → ACalls Tryz.prog G 21 [v] X fun r H' => r = .ret (.tup [zeroEv, .bool false, .int .i64 9]) ∧ Kept X H') ∧ (∀ X : AHeap, X.get p = some (.cells 54 zeroPar) → ACalls Tryz.prog G 19 [v] X fun r H' => r = .ret (.tup [.int .i64 0, .int .i64 0]) ∧ Kept X H') := by
        rcases (show k = 0 ∨ k = 1 by omega) with rfl | rfl
        · exact ⟨_, rfl, fun X _ => next_nil X, fun X _ => where_nil X⟩
        · exact ⟨_, rfl, fun X hX => next_zero hX, fun X hX => where_zero hX⟩
      simp (maxSteps := 400000) only [wE, stepW, footA, makesA, ptrId, pairsOk, footApart, opS, opA, ev, putA, setC, ofConst, ofFlat, List.replicate, List.set, binA, intA, strA, unA, extractA, nilCheckA, bodyA, resultsA, oneOrTup, builtinA, lenA, indexA, minA, loadA, partA, storeA, setCells, fieldA, ptrAdd, AV.cellsOf, AV.one, reduceCtorEq, Nat.reduceAdd, Nat.reduceSub, Nat.reduceEqDiff, Nat.reduceLeDiff, Array.toList, Int.reduceToNat, Int.reduceLE, Int.reduceLT, Int.reduceAdd, Int.reduceNeg, Nat.reduceMul, T8, d0, q0, ht, hv, indexAddrA]
      refine AInv.retK B21 (hnext J hp) (fun v1 J1 hq => ?_) (fun v1 J1 hq => by cases hq.1)
      obtain ⟨hv1, h1⟩ := hq
      cases hv1
      have n1 := h1.1
      simp only [zeroEv]
      simp (maxSteps := 400000) only [wE, stepW, footA, makesA, ptrId, pairsOk, footApart, opS, opA, ev, putA, setC, ofConst, ofFlat, List.replicate, List.set, binA, intA, strA, unA, extractA, nilCheckA, bodyA, resultsA, oneOrTup, builtinA, lenA, indexA, minA, loadA, partA, storeA, setCells, fieldA, ptrAdd, AV.cellsOf, AV.one, reduceCtorEq, Nat.reduceAdd, Nat.reduceSub, Nat.reduceEqDiff, Nat.reduceLeDiff, Array.toList, Int.reduceToNat, Int.reduceLE, Int.reduceLT, Int.reduceAdd, Int.reduceNeg, Nat.reduceMul, T8]
      generalize hX : AHeap.set (AHeap.allocAt J1 J1.next _) _ _ = X
      have xn : X.next = J1.next + 1 := by rw [← hX]; simp only [AHeap.next_set, AHeap.next_allocAt]; omega
      have xx : X.get J1.next = some (.cells 39 [.int .i64 0, .str [], .str [], .nils, .int .i64 0, .int .i64 0]) := by rw [← hX, AHeap.get_set_same]
      have xo : ∀ j, j < J1.next → X.get j = J1.get j := fun j hj => by rw [← hX, AHeap.get_set_ne _ _ (by omega), AHeap.get_allocAt_ne _ _ (by omega)]
      have xp : X.get p = some (.cells 54 zeroPar) := (xo p (by omega)).trans ((h1.2 p g6).trans hp)
      refine AInv.retK B19 (hwhere X xp) (fun v1 J2 hq => ?_) (fun v1 J2 hq => by cases hq.1)
      obtain ⟨hv1, h2⟩ := hq
      cases hv1
      have n2 := h2.1
      have x2 := (h2.2 J1.next (by omega)).trans xx
      have z1 : ((9 : Int) != 9) = false := rfl
      have z2 : ((0 : Int) != 0) = false := rfl
      have u1 : (J1.next = J2.next) = False := by simp; omega
      simp (maxSteps := 400000) only [wE, stepW, footA, makesA, ptrId, pairsOk, footApart, opS, opA, ev, putA, setC, ofConst, ofFlat, List.replicate, List.set, binA, intA, strA, unA, extractA, nilCheckA, bodyA, resultsA, oneOrTup, builtinA, lenA, indexA, minA, loadA, partA, storeA, setCells, fieldA, ptrAdd, AV.cellsOf, AV.one, reduceCtorEq, Nat.reduceAdd, Nat.reduceSub, Nat.reduceEqDiff, Nat.reduceLeDiff, Array.toList, Int.reduceToNat, Int.reduceLE, Int.reduceLT, Int.reduceAdd, Int.reduceNeg, Nat.reduceMul, T8, x2, z1, z2, u1, buildA, sliceLit, fillA, zerosA, AV.boxable, Nat.le_refl, Nat.reduceLT]
      generalize hZ : AHeap.allocAt (AHeap.allocAt J2 J2.next _) (J2.next + 1) _ = Z
      have zn : Z.next = J2.next + 2 := by rw [← hZ]; simp only [AHeap.next_allocAt]; omega
      have za : Z.get J2.next = some (.row 39 6 [.int .i64 0, .str [], .str [], .nils, .int .i64 0, .int .i64 0]) := by rw [← hZ, AHeap.get_allocAt_ne _ _ (by omega), AHeap.get_allocAt_same]
      have zb : Z.get (J2.next + 1) = some (.row 39 6 [.int .i64 0, .str [], .str [], .nils, .int .i64 0, .int .i64 0]) := by rw [← hZ, AHeap.get_allocAt_same]
      have zo : ∀ j, j < J2.next → Z.get j = J2.get j := fun j hj => by rw [← hZ, AHeap.get_allocAt_ne _ _ (by omega), AHeap.get_allocAt_ne _ _ (by omega)]
      have hw1 := Weak.freezeVals (G := G) (H := Z) (j := J2.next) za (by omega) (a := [.slc J2.next 1, .slc (J2.next + 1) 1, .bool true]) (a' := [.lst 1 [.int .i64 0, .str [], .str [], .nils, .int .i64 0, .int .i64 0], .slc (J2.next + 1) 1, .bool true]) ⟨.slc _ _ rfl, .same _, .same _, trivial⟩
      have hw2 := Weak.freezeVals (G := G) (H := Z.del J2.next) (j := J2.next + 1) ((AHeap.get_del_ne _ (by omega)).trans zb) (by omega) (a := [.lst 1 [.int .i64 0, .str [], .str [], .nils, .int .i64 0, .int .i64 0], .slc (J2.next + 1) 1, .bool true]) (a' := [.lst 1 [.int .i64 0, .str [], .str [], .nils, .int .i64 0, .int .i64 0], .lst 1 [.int .i64 0, .str [], .str [], .nils, .int .i64 0, .int .i64 0], .bool true]) ⟨.same _, .slc _ _ rfl, .same _, trivial⟩
      have nn : ∀ (C : Ctx) (w : World) v, VR C (.lst 1 [.int .i64 0, .str [], .str [], .nils, .int .i64 0, .int .i64 0]) v → VR C (.lst [noEv].length (evsA [noEv])) v := fun C w v hv => VR.lstNils (cells := [.int .i64 0, .str [], .str [], .nils, .int .i64 0, .int .i64 0]) (cells' := evsA [noEv]) w (show Tzs _ _ _ _ [_, _, _, _, _, _] from ⟨.same _, .same _, .same _, .nil _ rfl, .same _, .same _, trivial⟩) v hv
      have hw3 := Weak.vals2 (G := G) (H := (Z.del J2.next).del (J2.next + 1)) (x2 := .bool true) nn nn
      refine AInv.retK B14 (ACalls.weak ((hw1.trans hw2).trans hw3) (same_ok G [noEv] true (by decide) (by decide) _)) (fun v1 J3 hq => ?_) (fun v1 J3 hq => by cases hq.1)
      obtain ⟨hv1, h3⟩ := hq
      cases hv1
      have n3 := h3.1
      simp only [AHeap.next_del] at n3
      have o3 : ∀ j, j < J.next → J3.get j = J.get j := fun j hj => by rw [h3.2, AHeap.get_del_ne _ (by omega), AHeap.get_del_ne _ (by omega), zo j (by omega), h2.2 j (by omega), xo j (by omega), h1.2 j hj]
      simp (maxSteps := 400000) only [wE, stepW, footA, makesA, ptrId, pairsOk, footApart, opS, opA, ev, putA, setC, ofConst, ofFlat, List.replicate, List.set, binA, intA, strA, unA, extractA, nilCheckA, bodyA, resultsA, oneOrTup, builtinA, lenA, indexA, minA, loadA, partA, storeA, setCells, fieldA, ptrAdd, AV.cellsOf, AV.one, reduceCtorEq, Nat.reduceAdd, Nat.reduceSub, Nat.reduceEqDiff, Nat.reduceLeDiff, Array.toList, Int.reduceToNat, Int.reduceLE, Int.reduceLT, Int.reduceAdd, Int.reduceNeg, Nat.reduceMul, T8, ew]
      refine ⟨(k + 1, J3), ⟨by simp only; omega, (o3 _ g2).trans ht, (o3 _ g6).trans hp, g1, by simp only; omega, g5, by simp only; omega, by simp only; omega, fun j hj => (o3 j (by omega)).trans (g4 j hj)⟩, by simp only; omega, by simp [Fg], HW.refl _⟩
    · have d0 : decide ((k : Int) < 2) = false := by simp; omega
      simp (maxSteps := 400000) only [wE, stepW, footA, makesA, ptrId, pairsOk, footApart, opS, opA, ev, putA, setC, ofConst, ofFlat, List.replicate, List.set, binA, intA, strA, unA, extractA, nilCheckA, bodyA, resultsA, oneOrTup, builtinA, lenA, indexA, minA, loadA, partA, storeA, setCells, fieldA, ptrAdd, AV.cellsOf, AV.one, reduceCtorEq, Nat.reduceAdd, Nat.reduceSub, Nat.reduceEqDiff, Nat.reduceLeDiff, Array.toList, Int.reduceToNat, Int.reduceLE, Int.reduceLT, Int.reduceAdd, Int.reduceNeg, Nat.reduceMul, T8, d0]
      refine AInv.retK B11 (works_ok E B P R J) (fun v H6 hq => ?_) (fun v H6 hq => by cases hq.1)
      obtain ⟨hv, h6⟩ := hq
      cases hv
      simp (maxSteps := 400000) only [wE, stepW, footA, makesA, ptrId, pairsOk, footApart, opS, opA, ev, putA, setC, ofConst, ofFlat, List.replicate, List.set, binA, intA, strA, unA, extractA, nilCheckA, bodyA, resultsA, oneOrTup, builtinA, lenA, indexA, minA, loadA, partA, storeA, setCells, fieldA, ptrAdd, AV.cellsOf, AV.one, reduceCtorEq, Nat.reduceAdd, Nat.reduceSub, Nat.reduceEqDiff, Nat.reduceLeDiff, Array.toList, Int.reduceToNat, Int.reduceLE, Int.reduceLT, Int.reduceAdd, Int.reduceNeg, Nat.reduceMul, T8]
      exact ⟨by have := h6.1; omega, fun j hj => (h6.2 j (by omega)).trans (g4 j hj)⟩
end Go.Ab
