/- PullDeep, walked. -/
import Derived.Test.YtebgjmoihhbjjaaGreatDoorD1
import Derived.Test.YtebgjmoihhbjjaaGreatDoorW27
import Derived.Test.YtebgjmoihhbjjaaGreatDoorShelfR
import Derived.Test.YtebgjmoihhbjjaaGreatDoorCodes4
set_option linter.all false
namespace Go.Ab
open Go Go.Lib Go.Proofs

theorem repeat_ab {G : Nat → Option (List AV)} (s : List UInt8) (c : Nat) (h : s.length * c ≤ 140737488355328) (hc : c ≤ 1000000000000) : PureCall Tryz.prog G 23 [.str s, .int .i64 c] (.str (Lib.repeatL s c)) :=
  PureCall.shelf (vs := [.string ⟨s.toArray⟩, .int .i64 c]) rfl (fun C => .str _) fun C w R =>
    (Tryz.strings_Repeat ⟨s.toArray⟩ c w (by omega) (by rw [size_of]; exact h)).mono fun e w' ⟨h1, h2⟩ => ⟨by simpa using h1, h2⟩
theorem u8_nat {n : Int} (h : (Lit.int .u8 n).wf = true) : ∃ k : Nat, n = (k : Int) ∧ k ≤ 255 := by
  have : 0 ≤ n ∧ n ≤ 255 := by simpa [Lit.wf, IntKind.min, IntKind.max, IntKind.bits, IntKind.signed] using h
  exact ⟨n.toNat, by omega, by omega⟩
theorem repeatB : bodyT Tryz.prog 23 = true := by kernel_rfl
theorem rep120 : ∀ m, Lib.repeatL [120] m = List.replicate m 120
  | 0 => rfl
  | m + 1 => by rw [List.replicate_succ, ← rep120 m]; rfl

set_option maxHeartbeats 8000000 in
set_option maxRecDepth 100000 in
theorem deep_ok {G : Nat → Option (List AV)} (E : Env G) (B : EnvB G) (P : EnvP G) (R : EnvR G) (d e : Nat) (hd : d ≤ 255) (he : e ≤ 255) (empty : Bool) (H : AHeap) : ACalls Tryz.prog G 9 [.int .u8 d, .bool empty, .int .u8 e] H fun r H' => r = .ret (.bool true) ∧ Kept H H' := by
  refine ACalls.of Tryz.func9 S9_eq R9 N9 rfl rfl ?_
  have m210 : (d : Int).tmod 210 = ((d % 210 : Nat) : Int) := rfl
  have m3 : (e : Int).tmod 3 = ((e % 3 : Nat) : Int) := rfl
  have b210 : d % 210 < 210 := Nat.mod_lt _ (by decide)
  have b3 : e % 3 < 3 := Nat.mod_lt _ (by decide)
  generalize d % 210 = r at m210 b210
  generalize e % 3 = q at m3 b3
  have w1 : IntKind.i64.wrap (d : Int) = (d : Int) := by rw [wrap64] <;> omega
  have w2 : IntKind.i64.wrap (1 + (r : Int)) = ((r + 1 : Nat) : Int) := by rw [wrap64] <;> omega
  have w3 : IntKind.i64.wrap (q : Int) = (q : Int) := by rw [wrap64] <;> omega
  have w4 : IntKind.i64.wrap ((q : Int) - 1) = (q : Int) - 1 := by rw [wrap64] <;> omega
  have w5 : IntKind.i64.wrap (1048569 + ((q : Int) - 1)) = ((1048568 + q : Nat) : Int) := by rw [wrap64] <;> omega
  have z210 : ((210 : Int) = 0) = False := by simp
  have z3 : ((3 : Int) = 0) = False := by simp
  have law := deep_law (r + 1) empty (by omega) (by omega)
  simp (maxSteps := 400000) only [wE, stepW, footA, makesA, ptrId, pairsOk, footApart, opS, opA, ev, putA, setC, ofConst, ofFlat, List.replicate, List.set, binA, intA, strA, unA, extractA, nilCheckA, bodyA, resultsA, oneOrTup, builtinA, lenA, indexA, minA, loadA, partA, storeA, setCells, fieldA, ptrAdd, AV.cellsOf, AV.one, reduceCtorEq, Nat.reduceAdd, Nat.reduceSub, Nat.reduceEqDiff, Nat.reduceLeDiff, Array.toList, Int.reduceToNat, Int.reduceLE, Int.reduceLT, Int.reduceAdd, Int.reduceNeg, Nat.reduceMul, S9, N9, R9, T9, convA, m210, w1, w2, z210]
  refine AInv.pureK repeatB (repeat_ab _ _ (by simp; omega) (by omega)) fun H1 h1 => ?_
  have hk : ∀ (l : List UInt8), (Lib.repeatL l (r + 1)).length = (r + 1) * l.length := fun l => repeatL_len2 l _
  generalize hemp : deepMid empty = mid at law
  cases empty
  all_goals
    simp (maxSteps := 400000) only [wE, stepW, footA, makesA, ptrId, pairsOk, footApart, opS, opA, ev, putA, setC, ofConst, ofFlat, List.replicate, List.set, binA, intA, strA, unA, extractA, nilCheckA, bodyA, resultsA, oneOrTup, builtinA, lenA, indexA, minA, loadA, partA, storeA, setCells, fieldA, ptrAdd, AV.cellsOf, AV.one, reduceCtorEq, Nat.reduceAdd, Nat.reduceSub, Nat.reduceEqDiff, Nat.reduceLeDiff, Array.toList, Int.reduceToNat, Int.reduceLE, Int.reduceLT, Int.reduceAdd, Int.reduceNeg, Nat.reduceMul, T9]
    try refine ⟨by simp only [hk, maxStr, List.length_cons, List.length_nil]; omega, ?_⟩
    refine AInv.pureK repeatB (repeat_ab _ _ (by simp only [List.length_cons, List.length_nil]; omega) (by omega)) fun H2 h2 => ?_
    simp (maxSteps := 400000) only [wE, stepW, footA, makesA, ptrId, pairsOk, footApart, opS, opA, ev, putA, setC, ofConst, ofFlat, List.replicate, List.set, binA, intA, strA, unA, extractA, nilCheckA, bodyA, resultsA, oneOrTup, builtinA, lenA, indexA, minA, loadA, partA, storeA, setCells, fieldA, ptrAdd, AV.cellsOf, AV.one, reduceCtorEq, Nat.reduceAdd, Nat.reduceSub, Nat.reduceEqDiff, Nat.reduceLeDiff, Array.toList, Int.reduceToNat, Int.reduceLE, Int.reduceLT, Int.reduceAdd, Int.reduceNeg, Nat.reduceMul, T9]
    refine ⟨by simp only [hk, maxStr, List.length_cons, List.length_nil, List.length_append]; omega, ?_⟩
    refine AInv.retK B12 (all_ok E B P R _ H2) (fun v H3 hq => ?_) (fun v H3 hq => by cases hq.1)
    obtain ⟨hv, h3⟩ := hq
    cases hv
    rw [show all2S _ = all2S (deepT (r + 1) mid) from congrArg all2S (by subst hemp; simp [deepT, deepMid])]
    have c1 : (((2 : Nat) : Int) != 2) = false := rfl
    have c2 : ((2 : Int) != 0) = true := rfl
    have c3 : (((1 : Nat) : Int) != 1) = false := rfl
    have c4 : (((601 : Nat) : Int) != 601) = false := rfl
    have c5 : (((0 : Nat) : Int) != 0) = false := rfl
    have c6 : ((0 : Int) != 0) = false := rfl
    have lw := long_wrong (1048568 + q)
    have ll := long_law (1048568 + q) (by omega)
    have law2 : ∃ l a b c g, all2S (deepT (r + 1) mid) = (l, a, b, c) ∧ decide (((r + 1 : Nat) : Int) > 200) = g ∧ ((g = true ∧ a = 1 ∧ b = 601 ∧ c = 2) ∨ (g = false ∧ (((r + 1 : Nat) : Int) == 200) = false ∧ c = 0) ∨ (g = false ∧ (((r + 1 : Nat) : Int) == 200) = true ∧ ((a = 1 ∧ b = 601 ∧ c = 2 ∧ mid ≠ []) ∨ (c = 0 ∧ mid = [])))) := by
      by_cases h1 : 200 < r + 1
      · rw [if_pos (.inl h1)] at law
        exact ⟨_, _, _, _, _, law, rfl, .inl ⟨by simp; omega, rfl, rfl, rfl⟩⟩
      by_cases h2 : r + 1 = 200
      · have hg : decide (((r + 1 : Nat) : Int) > 200) = false := by simp; omega
        have he2 : (((r + 1 : Nat) : Int) == 200) = true := by rw [h2]; rfl
        split at law
        · rename_i hc
          refine ⟨_, _, _, _, _, law, hg, .inr (.inr ⟨rfl, he2, .inl ⟨rfl, rfl, rfl, ?_⟩⟩)⟩
          rcases hc with hc | hc
          · exact absurd hc h1
          · first
              | (exfalso; simp at hc; done)
              | (rw [← hemp]; simp [deepMid])
        · rename_i hc
          obtain ⟨l, hl⟩ := law
          refine ⟨_, _, _, _, _, hl, hg, .inr (.inr ⟨rfl, he2, .inr ⟨rfl, ?_⟩⟩)⟩
          first
            | (exfalso; exact hc (.inr ⟨h2, rfl⟩))
            | (rw [← hemp]; rfl)
      · rw [if_neg (by rintro (h | h); exact h1 h; exact h2 h.1)] at law
        obtain ⟨l, hl⟩ := law
        refine ⟨_, _, _, _, _, hl, rfl, .inr (.inl ⟨by simp; omega, ?_, rfl⟩)⟩
        rw [beq_eq_false_iff_ne]
        omega
    obtain ⟨l, a, b, c, g, hl, hg, hcase⟩ := law2
    rw [hl]
    simp only [allA]
    rcases hcase with ⟨rfl, rfl, rfl, rfl⟩ | ⟨rfl, he2, rfl⟩ | ⟨rfl, he2, ⟨rfl, rfl, rfl, hm⟩ | ⟨rfl, hm⟩⟩
    all_goals first
      | (exfalso; subst hemp; simp [deepMid] at hm; done)
      | skip
    all_goals
      first
        | simp (maxSteps := 400000) only [wE, stepW, footA, makesA, ptrId, pairsOk, footApart, opS, opA, ev, putA, setC, ofConst, ofFlat, List.replicate, List.set, binA, intA, strA, unA, extractA, nilCheckA, bodyA, resultsA, oneOrTup, builtinA, lenA, indexA, minA, loadA, partA, storeA, setCells, fieldA, ptrAdd, AV.cellsOf, AV.one, reduceCtorEq, Nat.reduceAdd, Nat.reduceSub, Nat.reduceEqDiff, Nat.reduceLeDiff, Array.toList, Int.reduceToNat, Int.reduceLE, Int.reduceLT, Int.reduceAdd, Int.reduceNeg, Nat.reduceMul, T9, hg, he2, c1, c2, c3, c4, c5, c6, w3, w4, w5, convA, m3, z3]
        | simp (maxSteps := 400000) only [wE, stepW, footA, makesA, ptrId, pairsOk, footApart, opS, opA, ev, putA, setC, ofConst, ofFlat, List.replicate, List.set, binA, intA, strA, unA, extractA, nilCheckA, bodyA, resultsA, oneOrTup, builtinA, lenA, indexA, minA, loadA, partA, storeA, setCells, fieldA, ptrAdd, AV.cellsOf, AV.one, reduceCtorEq, Nat.reduceAdd, Nat.reduceSub, Nat.reduceEqDiff, Nat.reduceLeDiff, Array.toList, Int.reduceToNat, Int.reduceLE, Int.reduceLT, Int.reduceAdd, Int.reduceNeg, Nat.reduceMul, T9, hg, c1, c2, c3, c4, c5, c6, w3, w4, w5, convA, m3, z3]
      refine AInv.pureK repeatB (repeat_ab _ _ (by simp only [List.length_cons, List.length_nil]; omega) (by omega)) fun H4 h4 => ?_
      simp (maxSteps := 400000) only [wE, stepW, footA, makesA, ptrId, pairsOk, footApart, opS, opA, ev, putA, setC, ofConst, ofFlat, List.replicate, List.set, binA, intA, strA, unA, extractA, nilCheckA, bodyA, resultsA, oneOrTup, builtinA, lenA, indexA, minA, loadA, partA, storeA, setCells, fieldA, ptrAdd, AV.cellsOf, AV.one, reduceCtorEq, Nat.reduceAdd, Nat.reduceSub, Nat.reduceEqDiff, Nat.reduceLeDiff, Array.toList, Int.reduceToNat, Int.reduceLE, Int.reduceLT, Int.reduceAdd, Int.reduceNeg, Nat.reduceMul, T9]
      refine ⟨by simp only [repeatL_len2, maxStr, List.length_cons, List.length_nil, List.length_append]; omega, ?_⟩
      try refine ⟨by simp only [repeatL_len2, maxStr, List.length_cons, List.length_nil, List.length_append]; omega, ?_⟩
      refine AInv.retK B12 (all_ok E B P R _ H4) (fun v H5 hq => ?_) (fun v H5 hq => by cases hq.1)
      obtain ⟨hv, h5⟩ := hq
      cases hv
      rw [show all2S _ = all2S (longT (1048568 + q)) from congrArg all2S (by simp [longT, rep120])]
      have n0 : (((0 : Nat) : Int) == 2) = false := rfl
      have n1 : (((0 : Nat) : Int) == 0) = true := rfl
      have n2 : (((2 : Nat) : Int) == 2) = true := rfl
      have n3 : (((2 : Nat) : Int) == 0) = false := rfl
      have fin : Kept H H5 := ((((h1.kept.trans h2.kept).trans h3).trans h4.kept).trans h5)
      by_cases hq2 : q = 2
      · rw [lw (by omega)]
        simp only [allA]
        have k1 : decide ((q : Int) - 1 > 0) = true := by simp; omega
        have k2 : decide ((q : Int) - 1 ≤ 0) = false := by simp; omega
        simp (maxSteps := 400000) only [wE, stepW, footA, makesA, ptrId, pairsOk, footApart, opS, opA, ev, putA, setC, ofConst, ofFlat, List.replicate, List.set, binA, intA, strA, unA, extractA, nilCheckA, bodyA, resultsA, oneOrTup, builtinA, lenA, indexA, minA, loadA, partA, storeA, setCells, fieldA, ptrAdd, AV.cellsOf, AV.one, reduceCtorEq, Nat.reduceAdd, Nat.reduceSub, Nat.reduceEqDiff, Nat.reduceLeDiff, Array.toList, Int.reduceToNat, Int.reduceLE, Int.reduceLT, Int.reduceAdd, Int.reduceNeg, Nat.reduceMul, T9, k1, k2, n0, n1, n2, n3, eqNeq, beq_self_eq_true]
        refine AInv.retK B11 (works_ok E B P R H5) (fun v H6 hq => ?_) (fun v H6 hq => by cases hq.1)
        obtain ⟨hv, h6⟩ := hq
        cases hv
        simp (maxSteps := 400000) only [wE, stepW, footA, makesA, ptrId, pairsOk, footApart, opS, opA, ev, putA, setC, ofConst, ofFlat, List.replicate, List.set, binA, intA, strA, unA, extractA, nilCheckA, bodyA, resultsA, oneOrTup, builtinA, lenA, indexA, minA, loadA, partA, storeA, setCells, fieldA, ptrAdd, AV.cellsOf, AV.one, reduceCtorEq, Nat.reduceAdd, Nat.reduceSub, Nat.reduceEqDiff, Nat.reduceLeDiff, Array.toList, Int.reduceToNat, Int.reduceLE, Int.reduceLT, Int.reduceAdd, Int.reduceNeg, Nat.reduceMul, T9]
        exact fin.trans h6
      · obtain ⟨l2, hl2⟩ := ll (by omega)
        rw [hl2]
        simp only [allA]
        have k1 : decide ((q : Int) - 1 > 0) = false := by simp; omega
        have k2 : decide ((q : Int) - 1 ≤ 0) = true := by simp; omega
        simp (maxSteps := 400000) only [wE, stepW, footA, makesA, ptrId, pairsOk, footApart, opS, opA, ev, putA, setC, ofConst, ofFlat, List.replicate, List.set, binA, intA, strA, unA, extractA, nilCheckA, bodyA, resultsA, oneOrTup, builtinA, lenA, indexA, minA, loadA, partA, storeA, setCells, fieldA, ptrAdd, AV.cellsOf, AV.one, reduceCtorEq, Nat.reduceAdd, Nat.reduceSub, Nat.reduceEqDiff, Nat.reduceLeDiff, Array.toList, Int.reduceToNat, Int.reduceLE, Int.reduceLT, Int.reduceAdd, Int.reduceNeg, Nat.reduceMul, T9, k1, k2, n0, n1, n2, n3, eqNeq, beq_self_eq_true]
        refine AInv.retK B11 (works_ok E B P R H5) (fun v H6 hq => ?_) (fun v H6 hq => by cases hq.1)
        obtain ⟨hv, h6⟩ := hq
        cases hv
        simp (maxSteps := 400000) only [wE, stepW, footA, makesA, ptrId, pairsOk, footApart, opS, opA, ev, putA, setC, ofConst, ofFlat, List.replicate, List.set, binA, intA, strA, unA, extractA, nilCheckA, bodyA, resultsA, oneOrTup, builtinA, lenA, indexA, minA, loadA, partA, storeA, setCells, fieldA, ptrAdd, AV.cellsOf, AV.one, reduceCtorEq, Nat.reduceAdd, Nat.reduceSub, Nat.reduceEqDiff, Nat.reduceLeDiff, Array.toList, Int.reduceToNat, Int.reduceLE, Int.reduceLT, Int.reduceAdd, Int.reduceNeg, Nat.reduceMul, T9]
        exact fin.trans h6
end Go.Ab
