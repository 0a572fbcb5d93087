/- End tags and instructions, walked. -/
import Derived.Test.YtebgjmoihhbjjaaGreatDoorW5
set_option linter.all false
namespace Go.Ab
open Go Go.Lib Go.Proofs

theorem endTag_ok {G : Nat → Option (List AV)} (E : Env G) {s : List UInt8} {i : Nat} (hi : i ≤ s.length) (hs : s.length ≤ 1000000000) :
    PureCall Tryz.prog G 90 [.str s, .int .i64 i] (.tup [.str (endS s i).1, .int .i64 (endS s i).2.1, .bool (endS s i).2.2]) := by
  intro H
  refine ACalls.keep (ACalls.of Tryz.func90 S90_eq R90 N90 rfl rfl ?_)
  have hxs : ((i : Int) ≤ s.length) = True := by simp; omega
  simp (maxSteps := 400000) only [wE, stepW, footA, makesA, ptrId, pairsOk, footApart, opS, opA, ev, putA, setC, ofConst, ofFlat, List.replicate, List.set, binA, intA, strA, unA, extractA, nilCheckA, bodyA, resultsA, oneOrTup, builtinA, lenA, indexA, minA, loadA, partA, storeA, setCells, fieldA, ptrAdd, AV.cellsOf, AV.one, reduceCtorEq, Nat.reduceAdd, Nat.reduceSub, Nat.reduceEqDiff, Nat.reduceLeDiff, Array.toList, Int.reduceToNat, Int.reduceLE, Int.reduceLT, Int.reduceAdd, Int.reduceNeg, Nat.reduceMul, S90, N90, R90, T90, hxs]
  refine AInv.pureK E.hasPreB (E.hasPre _ _) fun H1 h1 => ?_
  cases h : Lib.hasPrefix (s.drop i) [60, 47] with
  | false =>
    simp (maxSteps := 400000) only [wE, stepW, footA, makesA, ptrId, pairsOk, footApart, opS, opA, ev, putA, setC, ofConst, ofFlat, List.replicate, List.set, binA, intA, strA, unA, extractA, nilCheckA, bodyA, resultsA, oneOrTup, builtinA, lenA, indexA, minA, loadA, partA, storeA, setCells, fieldA, ptrAdd, AV.cellsOf, AV.one, reduceCtorEq, Nat.reduceAdd, Nat.reduceSub, Nat.reduceEqDiff, Nat.reduceLeDiff, Array.toList, Int.reduceToNat, Int.reduceLE, Int.reduceLT, Int.reduceAdd, Int.reduceNeg, Nat.reduceMul, T90, h]
    exact ⟨by simp [endS, h], h1.post⟩
  | true =>
    have hl := hasPrefix_len h
    simp only [List.length_cons, List.length_nil, List.length_drop] at hl
    have e2 : IntKind.i64.wrap ((i : Int) + 2) = ((i + 2 : Nat) : Int) := by rw [wrap64] <;> omega
    simp (maxSteps := 400000) only [wE, stepW, footA, makesA, ptrId, pairsOk, footApart, opS, opA, ev, putA, setC, ofConst, ofFlat, List.replicate, List.set, binA, intA, strA, unA, extractA, nilCheckA, bodyA, resultsA, oneOrTup, builtinA, lenA, indexA, minA, loadA, partA, storeA, setCells, fieldA, ptrAdd, AV.cellsOf, AV.one, reduceCtorEq, Nat.reduceAdd, Nat.reduceSub, Nat.reduceEqDiff, Nat.reduceLeDiff, Array.toList, Int.reduceToNat, Int.reduceLE, Int.reduceLT, Int.reduceAdd, Int.reduceNeg, Nat.reduceMul, T90, h, e2]
    refine AInv.pureK B113 (until_ok E (by omega) hs) fun H2 h2 => ?_
    have k1 := untilN_ge s (i + 2) [62]
    have k2 := untilN_le (s := s) (i := i + 2) [62] (by omega)
    have hk : endS s i = ((s.take (untilN s (i + 2) [62])).drop (i + 2), skipN s (untilN s (i + 2) [62]) + 1, isNameS ((s.take (untilN s (i + 2) [62])).drop (i + 2)) && Lib.hasPrefix (s.drop (skipN s (untilN s (i + 2) [62]))) [62]) := by simp [endS, h]
    generalize untilN s (i + 2) [62] = k at k1 k2 hk ⊢
    have f1 : (((i + 2 : Nat) : Int) ≤ (k : Nat)) = True := by simp; omega
    have f2 : ((k : Int) ≤ s.length) = True := by simp; omega
    simp (maxSteps := 400000) only [wE, stepW, footA, makesA, ptrId, pairsOk, footApart, opS, opA, ev, putA, setC, ofConst, ofFlat, List.replicate, List.set, binA, intA, strA, unA, extractA, nilCheckA, bodyA, resultsA, oneOrTup, builtinA, lenA, indexA, minA, loadA, partA, storeA, setCells, fieldA, ptrAdd, AV.cellsOf, AV.one, reduceCtorEq, Nat.reduceAdd, Nat.reduceSub, Nat.reduceEqDiff, Nat.reduceLeDiff, Array.toList, Int.reduceToNat, Int.reduceLE, Int.reduceLT, Int.reduceAdd, Int.reduceNeg, Nat.reduceMul, T90, e2, f1, f2]
    refine AInv.pureK B114 (skip_ok G k2 hs) fun H3 h3 => ?_
    have k3 := skipN_ge s k
    have k4 := skipN_le k2
    generalize skipN s k = j at k3 k4 hk ⊢
    have e3 : IntKind.i64.wrap ((j : Int) + 1) = ((j + 1 : Nat) : Int) := by rw [wrap64] <;> omega
    have f3 : ((j : Int) ≤ s.length) = True := by simp; omega
    simp (maxSteps := 400000) only [wE, stepW, footA, makesA, ptrId, pairsOk, footApart, opS, opA, ev, putA, setC, ofConst, ofFlat, List.replicate, List.set, binA, intA, strA, unA, extractA, nilCheckA, bodyA, resultsA, oneOrTup, builtinA, lenA, indexA, minA, loadA, partA, storeA, setCells, fieldA, ptrAdd, AV.cellsOf, AV.one, reduceCtorEq, Nat.reduceAdd, Nat.reduceSub, Nat.reduceEqDiff, Nat.reduceLeDiff, Array.toList, Int.reduceToNat, Int.reduceLE, Int.reduceLT, Int.reduceAdd, Int.reduceNeg, Nat.reduceMul, T90, e3]
    refine AInv.pureK B43 (isName_ok E (by simp; omega)) fun H4 h4 => ?_
    have h14 := ((h1.trans h2).trans h3).trans h4
    cases hn : isNameS ((s.take k).drop (i + 2)) with
    | false =>
      simp (maxSteps := 400000) only [wE, stepW, footA, makesA, ptrId, pairsOk, footApart, opS, opA, ev, putA, setC, ofConst, ofFlat, List.replicate, List.set, binA, intA, strA, unA, extractA, nilCheckA, bodyA, resultsA, oneOrTup, builtinA, lenA, indexA, minA, loadA, partA, storeA, setCells, fieldA, ptrAdd, AV.cellsOf, AV.one, reduceCtorEq, Nat.reduceAdd, Nat.reduceSub, Nat.reduceEqDiff, Nat.reduceLeDiff, Array.toList, Int.reduceToNat, Int.reduceLE, Int.reduceLT, Int.reduceAdd, Int.reduceNeg, Nat.reduceMul, T90, f3]
      exact ⟨by rw [hk, hn]; simp, h14.post⟩
    | true =>
      simp (maxSteps := 400000) only [wE, stepW, footA, makesA, ptrId, pairsOk, footApart, opS, opA, ev, putA, setC, ofConst, ofFlat, List.replicate, List.set, binA, intA, strA, unA, extractA, nilCheckA, bodyA, resultsA, oneOrTup, builtinA, lenA, indexA, minA, loadA, partA, storeA, setCells, fieldA, ptrAdd, AV.cellsOf, AV.one, reduceCtorEq, Nat.reduceAdd, Nat.reduceSub, Nat.reduceEqDiff, Nat.reduceLeDiff, Array.toList, Int.reduceToNat, Int.reduceLE, Int.reduceLT, Int.reduceAdd, Int.reduceNeg, Nat.reduceMul, T90, f3]
      refine AInv.pureK E.hasPreB (E.hasPre _ _) fun H5 h5 => ?_
      simp (maxSteps := 400000) only [wE, stepW, footA, makesA, ptrId, pairsOk, footApart, opS, opA, ev, putA, setC, ofConst, ofFlat, List.replicate, List.set, binA, intA, strA, unA, extractA, nilCheckA, bodyA, resultsA, oneOrTup, builtinA, lenA, indexA, minA, loadA, partA, storeA, setCells, fieldA, ptrAdd, AV.cellsOf, AV.one, reduceCtorEq, Nat.reduceAdd, Nat.reduceSub, Nat.reduceEqDiff, Nat.reduceLeDiff, Array.toList, Int.reduceToNat, Int.reduceLE, Int.reduceLT, Int.reduceAdd, Int.reduceNeg, Nat.reduceMul, T90]
      exact ⟨by rw [hk, hn]; simp, (h14.trans h5).post⟩

theorem instruction_ok {G : Nat → Option (List AV)} (E : Env G) {s : List UInt8} {i : Nat} (hi : i ≤ s.length) (hs : s.length ≤ 1000000000) :
    PureCall Tryz.prog G 89 [.str s, .int .i64 i] (.tup [.str (instrS s i).1, .str (instrS s i).2.1, .int .i64 (instrS s i).2.2.1, .bool (instrS s i).2.2.2]) := by
  intro H
  refine ACalls.keep (ACalls.of Tryz.func89 S89_eq R89 N89 rfl rfl ?_)
  have hxs : ((i : Int) ≤ s.length) = True := by simp; omega
  simp (maxSteps := 400000) only [wE, stepW, footA, makesA, ptrId, pairsOk, footApart, opS, opA, ev, putA, setC, ofConst, ofFlat, List.replicate, List.set, binA, intA, strA, unA, extractA, nilCheckA, bodyA, resultsA, oneOrTup, builtinA, lenA, indexA, minA, loadA, partA, storeA, setCells, fieldA, ptrAdd, AV.cellsOf, AV.one, reduceCtorEq, Nat.reduceAdd, Nat.reduceSub, Nat.reduceEqDiff, Nat.reduceLeDiff, Array.toList, Int.reduceToNat, Int.reduceLE, Int.reduceLT, Int.reduceAdd, Int.reduceNeg, Nat.reduceMul, S89, N89, R89, T89, hxs]
  refine AInv.pureK E.hasPreB (E.hasPre _ _) fun H1 h1 => ?_
  cases h : Lib.hasPrefix (s.drop i) [60, 63] with
  | false =>
    simp (maxSteps := 400000) only [wE, stepW, footA, makesA, ptrId, pairsOk, footApart, opS, opA, ev, putA, setC, ofConst, ofFlat, List.replicate, List.set, binA, intA, strA, unA, extractA, nilCheckA, bodyA, resultsA, oneOrTup, builtinA, lenA, indexA, minA, loadA, partA, storeA, setCells, fieldA, ptrAdd, AV.cellsOf, AV.one, reduceCtorEq, Nat.reduceAdd, Nat.reduceSub, Nat.reduceEqDiff, Nat.reduceLeDiff, Array.toList, Int.reduceToNat, Int.reduceLE, Int.reduceLT, Int.reduceAdd, Int.reduceNeg, Nat.reduceMul, T89, h]
    exact ⟨by simp [instrS, h], h1.post⟩
  | true =>
    have hl := hasPrefix_len h
    simp only [List.length_cons, List.length_nil, List.length_drop] at hl
    have e2 : IntKind.i64.wrap ((i : Int) + 2) = ((i + 2 : Nat) : Int) := by rw [wrap64] <;> omega
    simp (maxSteps := 400000) only [wE, stepW, footA, makesA, ptrId, pairsOk, footApart, opS, opA, ev, putA, setC, ofConst, ofFlat, List.replicate, List.set, binA, intA, strA, unA, extractA, nilCheckA, bodyA, resultsA, oneOrTup, builtinA, lenA, indexA, minA, loadA, partA, storeA, setCells, fieldA, ptrAdd, AV.cellsOf, AV.one, reduceCtorEq, Nat.reduceAdd, Nat.reduceSub, Nat.reduceEqDiff, Nat.reduceLeDiff, Array.toList, Int.reduceToNat, Int.reduceLE, Int.reduceLT, Int.reduceAdd, Int.reduceNeg, Nat.reduceMul, T89, h, e2]
    refine AInv.pureK B113 (until_ok E (by omega) hs) fun H2 h2 => ?_
    have k1 := untilN_ge s (i + 2) [63]
    have k2 := untilN_le (s := s) (i := i + 2) [63] (by omega)
    have hk : instrS s i = if isNameS ((s.take (untilN s (i + 2) [63])).drop (i + 2)) = true ∧ isXmlS ((s.take (untilN s (i + 2) [63])).drop (i + 2)) = false then
        (if Lib.index (s.drop (skipN s (untilN s (i + 2) [63]))) [63, 62] < 0 ∨ (0 < Lib.index (s.drop (skipN s (untilN s (i + 2) [63]))) [63, 62] ∧ skipN s (untilN s (i + 2) [63]) = untilN s (i + 2) [63]) then ([], [], 0, false)
        else ((s.take (untilN s (i + 2) [63])).drop (i + 2), (s.take (skipN s (untilN s (i + 2) [63]) + (Lib.index (s.drop (skipN s (untilN s (i + 2) [63]))) [63, 62]).toNat)).drop (skipN s (untilN s (i + 2) [63])), skipN s (untilN s (i + 2) [63]) + (Lib.index (s.drop (skipN s (untilN s (i + 2) [63]))) [63, 62]).toNat + 2, true))
        else ([], [], 0, false) := by simp [instrS, h]
    generalize untilN s (i + 2) [63] = k at k1 k2 hk ⊢
    have f1 : (((i + 2 : Nat) : Int) ≤ (k : Nat)) = True := by simp; omega
    have f2 : ((k : Int) ≤ s.length) = True := by simp; omega
    simp (maxSteps := 400000) only [wE, stepW, footA, makesA, ptrId, pairsOk, footApart, opS, opA, ev, putA, setC, ofConst, ofFlat, List.replicate, List.set, binA, intA, strA, unA, extractA, nilCheckA, bodyA, resultsA, oneOrTup, builtinA, lenA, indexA, minA, loadA, partA, storeA, setCells, fieldA, ptrAdd, AV.cellsOf, AV.one, reduceCtorEq, Nat.reduceAdd, Nat.reduceSub, Nat.reduceEqDiff, Nat.reduceLeDiff, Array.toList, Int.reduceToNat, Int.reduceLE, Int.reduceLT, Int.reduceAdd, Int.reduceNeg, Nat.reduceMul, T89, e2, f1, f2]
    refine AInv.pureK B43 (isName_ok E (by simp; omega)) fun H3 h3 => ?_
    have h13 := (h1.trans h2).trans h3
    have hnl : ((s.take k).drop (i + 2)).length ≤ 1000000000 := by simp; omega
    generalize (s.take k).drop (i + 2) = name at hk hnl ⊢
    cases hn : isNameS name with
    | false =>
      simp (maxSteps := 400000) only [wE, stepW, footA, makesA, ptrId, pairsOk, footApart, opS, opA, ev, putA, setC, ofConst, ofFlat, List.replicate, List.set, binA, intA, strA, unA, extractA, nilCheckA, bodyA, resultsA, oneOrTup, builtinA, lenA, indexA, minA, loadA, partA, storeA, setCells, fieldA, ptrAdd, AV.cellsOf, AV.one, reduceCtorEq, Nat.reduceAdd, Nat.reduceSub, Nat.reduceEqDiff, Nat.reduceLeDiff, Array.toList, Int.reduceToNat, Int.reduceLE, Int.reduceLT, Int.reduceAdd, Int.reduceNeg, Nat.reduceMul, T89]
      exact ⟨by rw [hk, hn]; simp, h13.post⟩
    | true =>
      simp (maxSteps := 400000) only [wE, stepW, footA, makesA, ptrId, pairsOk, footApart, opS, opA, ev, putA, setC, ofConst, ofFlat, List.replicate, List.set, binA, intA, strA, unA, extractA, nilCheckA, bodyA, resultsA, oneOrTup, builtinA, lenA, indexA, minA, loadA, partA, storeA, setCells, fieldA, ptrAdd, AV.cellsOf, AV.one, reduceCtorEq, Nat.reduceAdd, Nat.reduceSub, Nat.reduceEqDiff, Nat.reduceLeDiff, Array.toList, Int.reduceToNat, Int.reduceLE, Int.reduceLT, Int.reduceAdd, Int.reduceNeg, Nat.reduceMul, T89]
      refine AInv.pureK E.foldB (E.fold _ hnl) fun H4 h4 => ?_
      cases hx : isXmlS name with
      | true =>
        simp (maxSteps := 400000) only [wE, stepW, footA, makesA, ptrId, pairsOk, footApart, opS, opA, ev, putA, setC, ofConst, ofFlat, List.replicate, List.set, binA, intA, strA, unA, extractA, nilCheckA, bodyA, resultsA, oneOrTup, builtinA, lenA, indexA, minA, loadA, partA, storeA, setCells, fieldA, ptrAdd, AV.cellsOf, AV.one, reduceCtorEq, Nat.reduceAdd, Nat.reduceSub, Nat.reduceEqDiff, Nat.reduceLeDiff, Array.toList, Int.reduceToNat, Int.reduceLE, Int.reduceLT, Int.reduceAdd, Int.reduceNeg, Nat.reduceMul, T89]
        exact ⟨by rw [hk, hn, hx]; simp, (h13.trans h4).post⟩
      | false =>
        simp (maxSteps := 400000) only [wE, stepW, footA, makesA, ptrId, pairsOk, footApart, opS, opA, ev, putA, setC, ofConst, ofFlat, List.replicate, List.set, binA, intA, strA, unA, extractA, nilCheckA, bodyA, resultsA, oneOrTup, builtinA, lenA, indexA, minA, loadA, partA, storeA, setCells, fieldA, ptrAdd, AV.cellsOf, AV.one, reduceCtorEq, Nat.reduceAdd, Nat.reduceSub, Nat.reduceEqDiff, Nat.reduceLeDiff, Array.toList, Int.reduceToNat, Int.reduceLE, Int.reduceLT, Int.reduceAdd, Int.reduceNeg, Nat.reduceMul, T89]
        refine AInv.pureK B114 (skip_ok G k2 hs) fun H5 h5 => ?_
        have k3 := skipN_ge s k
        have k4 := skipN_le k2
        generalize skipN s k = j at k3 k4 hk ⊢
        have f3 : ((j : Int) ≤ s.length) = True := by simp; omega
        simp (maxSteps := 400000) only [wE, stepW, footA, makesA, ptrId, pairsOk, footApart, opS, opA, ev, putA, setC, ofConst, ofFlat, List.replicate, List.set, binA, intA, strA, unA, extractA, nilCheckA, bodyA, resultsA, oneOrTup, builtinA, lenA, indexA, minA, loadA, partA, storeA, setCells, fieldA, ptrAdd, AV.cellsOf, AV.one, reduceCtorEq, Nat.reduceAdd, Nat.reduceSub, Nat.reduceEqDiff, Nat.reduceLeDiff, Array.toList, Int.reduceToNat, Int.reduceLE, Int.reduceLT, Int.reduceAdd, Int.reduceNeg, Nat.reduceMul, T89, f3]
        refine AInv.pureK E.indexB (E.index _ _ (by simp; omega)) fun H6 h6 => ?_
        have h16 := ((h13.trans h4).trans h5).trans h6
        have n1 := Lib.index_ge (s.drop j) [63, 62]
        have n2 := fun h => index_bound (s := s.drop j) (p := [63, 62]) h
        simp only [List.length_cons, List.length_nil, List.length_drop] at n2
        generalize Lib.index (s.drop j) [63, 62] = n at n1 n2 hk ⊢
        cases b1 : decide (n < 0) with
        | true =>
          simp (maxSteps := 400000) only [wE, stepW, footA, makesA, ptrId, pairsOk, footApart, opS, opA, ev, putA, setC, ofConst, ofFlat, List.replicate, List.set, binA, intA, strA, unA, extractA, nilCheckA, bodyA, resultsA, oneOrTup, builtinA, lenA, indexA, minA, loadA, partA, storeA, setCells, fieldA, ptrAdd, AV.cellsOf, AV.one, reduceCtorEq, Nat.reduceAdd, Nat.reduceSub, Nat.reduceEqDiff, Nat.reduceLeDiff, Array.toList, Int.reduceToNat, Int.reduceLE, Int.reduceLT, Int.reduceAdd, Int.reduceNeg, Nat.reduceMul, T89, b1]
          simp at b1
          exact ⟨by rw [hk, hn, hx]; simp [b1], h16.post⟩
        | false =>
          simp at b1
          obtain ⟨m, rfl⟩ : ∃ m : Nat, n = m := ⟨n.toNat, by omega⟩
          have n3 := n2 b1
          simp only [Int.toNat_natCast] at n3
          have d1 : decide ((m : Int) < 0) = false := by simp
          have e4 : IntKind.i64.wrap ((j : Int) + (m : Int)) = ((j + m : Nat) : Int) := by rw [wrap64] <;> omega
          have e5 : IntKind.i64.wrap (((j + m : Nat) : Int) + 2) = ((j + m + 2 : Nat) : Int) := by rw [wrap64] <;> omega
          have f4 : ((j : Int) ≤ (j + m : Nat)) = True := by simp; omega
          have f5 : (((j + m : Nat) : Int) ≤ s.length) = True := by simp; omega
          by_cases hm : 0 < m ∧ j = k
          · obtain ⟨hm, rfl⟩ := hm
            have d2 : decide ((m : Int) > 0) = true := by simp; omega
            have d3 : ((j : Int) == (j : Int)) = true := by simp
            simp (maxSteps := 400000) only [wE, stepW, footA, makesA, ptrId, pairsOk, footApart, opS, opA, ev, putA, setC, ofConst, ofFlat, List.replicate, List.set, binA, intA, strA, unA, extractA, nilCheckA, bodyA, resultsA, oneOrTup, builtinA, lenA, indexA, minA, loadA, partA, storeA, setCells, fieldA, ptrAdd, AV.cellsOf, AV.one, reduceCtorEq, Nat.reduceAdd, Nat.reduceSub, Nat.reduceEqDiff, Nat.reduceLeDiff, Array.toList, Int.reduceToNat, Int.reduceLE, Int.reduceLT, Int.reduceAdd, Int.reduceNeg, Nat.reduceMul, T89, d1, d2, d3]
            exact ⟨by rw [hk, hn, hx]; simp [hm], h16.post⟩
          · have hk' : instrS s i = (name, (s.take (j + m)).drop j, j + m + 2, true) := by
              rw [hk, hn, hx, if_pos ⟨rfl, rfl⟩, if_neg (by omega)]
              simp
            cases d2 : decide ((m : Int) > 0) with
            | false =>
              simp (maxSteps := 400000) only [wE, stepW, footA, makesA, ptrId, pairsOk, footApart, opS, opA, ev, putA, setC, ofConst, ofFlat, List.replicate, List.set, binA, intA, strA, unA, extractA, nilCheckA, bodyA, resultsA, oneOrTup, builtinA, lenA, indexA, minA, loadA, partA, storeA, setCells, fieldA, ptrAdd, AV.cellsOf, AV.one, reduceCtorEq, Nat.reduceAdd, Nat.reduceSub, Nat.reduceEqDiff, Nat.reduceLeDiff, Array.toList, Int.reduceToNat, Int.reduceLE, Int.reduceLT, Int.reduceAdd, Int.reduceNeg, Nat.reduceMul, T89, d1, d2]
              refine drawW_fixed mixedOrders L89_11_eq P89_11_eq ?_
              simp (maxSteps := 400000) only [wE, stepW, footA, makesA, ptrId, pairsOk, footApart, opS, opA, ev, putA, setC, ofConst, ofFlat, List.replicate, List.set, binA, intA, strA, unA, extractA, nilCheckA, bodyA, resultsA, oneOrTup, builtinA, lenA, indexA, minA, loadA, partA, storeA, setCells, fieldA, ptrAdd, AV.cellsOf, AV.one, reduceCtorEq, Nat.reduceAdd, Nat.reduceSub, Nat.reduceEqDiff, Nat.reduceLeDiff, Array.toList, Int.reduceToNat, Int.reduceLE, Int.reduceLT, Int.reduceAdd, Int.reduceNeg, Nat.reduceMul, L89_11, T89, e4, e5, f4, f5]
              exact ⟨by rw [hk'], h16.post⟩
            | true =>
              have d3 : ((j : Int) == (k : Int)) = false := by simp at d2 ⊢; omega
              simp (maxSteps := 400000) only [wE, stepW, footA, makesA, ptrId, pairsOk, footApart, opS, opA, ev, putA, setC, ofConst, ofFlat, List.replicate, List.set, binA, intA, strA, unA, extractA, nilCheckA, bodyA, resultsA, oneOrTup, builtinA, lenA, indexA, minA, loadA, partA, storeA, setCells, fieldA, ptrAdd, AV.cellsOf, AV.one, reduceCtorEq, Nat.reduceAdd, Nat.reduceSub, Nat.reduceEqDiff, Nat.reduceLeDiff, Array.toList, Int.reduceToNat, Int.reduceLE, Int.reduceLT, Int.reduceAdd, Int.reduceNeg, Nat.reduceMul, T89, d1, d2, d3]
              refine drawW_fixed mixedOrders L89_11_eq P89_11_eq ?_
              simp (maxSteps := 400000) only [wE, stepW, footA, makesA, ptrId, pairsOk, footApart, opS, opA, ev, putA, setC, ofConst, ofFlat, List.replicate, List.set, binA, intA, strA, unA, extractA, nilCheckA, bodyA, resultsA, oneOrTup, builtinA, lenA, indexA, minA, loadA, partA, storeA, setCells, fieldA, ptrAdd, AV.cellsOf, AV.one, reduceCtorEq, Nat.reduceAdd, Nat.reduceSub, Nat.reduceEqDiff, Nat.reduceLeDiff, Array.toList, Int.reduceToNat, Int.reduceLE, Int.reduceLT, Int.reduceAdd, Int.reduceNeg, Nat.reduceMul, L89_11, T89, e4, e5, f4, f5]
              exact ⟨by rw [hk'], h16.post⟩
end Go.Ab
