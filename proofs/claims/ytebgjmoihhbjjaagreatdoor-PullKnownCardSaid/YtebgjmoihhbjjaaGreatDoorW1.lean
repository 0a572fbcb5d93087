/- The parser's small functions, walked. -/
import Derived.Test.YtebgjmoihhbjjaaGreatDoorCodes2
import Derived.Test.YtebgjmoihhbjjaaGreatDoorCodes3
import Derived.Test.YtebgjmoihhbjjaaGreatDoorSpec
set_option linter.all false
namespace Go.Ab
open Go Go.Lib Go.Proofs

/-- What is asked of the library. -/
structure Env (G : Nat → Option (List AV)) : Prop where
  cutPre : ∀ s p, PureCall Tryz.prog G 110 [.str s, .str p] (.tup [.str (Lib.trimPrefix s p), .bool (Lib.hasPrefix s p)])
  cutPreB : bodyT Tryz.prog 110 = true
  cut : ∀ s p, s.length ≤ 1000000000 → PureCall Tryz.prog G 72 [.str s, .str p] (.tup [.str (Lib.cut s p).1, .str (Lib.cut s p).2.1, .bool (Lib.cut s p).2.2])
  cutB : bodyT Tryz.prog 72 = true
  hasPre : ∀ s p, PureCall Tryz.prog G 38 [.str s, .str p] (.bool (Lib.hasPrefix s p))
  hasPreB : bodyT Tryz.prog 38 = true
  index : ∀ s p, s.length ≤ 1000000000 → PureCall Tryz.prog G 65 [.str s, .str p] (.int .i64 (Lib.index s p))
  indexB : bodyT Tryz.prog 65 = true
  indexByte : ∀ (s : List UInt8) (c : UInt8), PureCall Tryz.prog G 86 [.str s, .int .u8 c.toNat] (.int .i64 (Lib.indexByte s c))
  indexByteB : bodyT Tryz.prog 86 = true
  dec : ∀ l, l ≠ [] → PureCall Tryz.prog G 60 [.str l] (.tup [.int .i32 ((dec l).1 : Nat), .int .i64 ((dec l).2 : Nat)])
  decB : bodyT Tryz.prog 60 = true
  fold : ∀ l, l.length ≤ 1000000000 → PureCall Tryz.prog G 46 [.str l, .str [120, 109, 108]] (.bool (isXmlS l))
  foldB : bodyT Tryz.prog 46 = true

theorem cdata_ok {G : Nat → Option (List AV)} (E : Env G) {s : List UInt8} {i : Nat} (hi : i ≤ s.length) (hs : s.length ≤ 1000000000) :
    PureCall Tryz.prog G 85 [.str s, .int .i64 i] (.tup [.str (cdataS s i).1, .int .i64 (cdataS s i).2.1, .bool (cdataS s i).2.2]) := by
  intro H
  refine ACalls.keep (ACalls.of Tryz.func85 S85_eq R85 N85 rfl rfl ?_)
  have hxs : ((i : Int) ≤ s.length) = True := by simp; omega
  simp (maxSteps := 400000) only [wE, stepW, footA, makesA, ptrId, pairsOk, footApart, opS, opA, ev, putA, setC, ofConst, ofFlat, List.replicate, List.set, binA, intA, strA, unA, extractA, nilCheckA, bodyA, resultsA, oneOrTup, builtinA, lenA, indexA, minA, loadA, partA, storeA, setCells, fieldA, ptrAdd, AV.cellsOf, AV.one, reduceCtorEq, Nat.reduceAdd, Nat.reduceSub, Nat.reduceEqDiff, Nat.reduceLeDiff, Array.toList, Int.reduceToNat, Int.reduceLE, Int.reduceLT, Int.reduceAdd, Int.reduceNeg, Nat.reduceMul, S85, N85, R85, T85, hxs]
  refine AInv.pureK E.cutPreB (E.cutPre _ _) fun H1 h1 => ?_
  simp (maxSteps := 400000) only [wE, stepW, footA, makesA, ptrId, pairsOk, footApart, opS, opA, ev, putA, setC, ofConst, ofFlat, List.replicate, List.set, binA, intA, strA, unA, extractA, nilCheckA, bodyA, resultsA, oneOrTup, builtinA, lenA, indexA, minA, loadA, partA, storeA, setCells, fieldA, ptrAdd, AV.cellsOf, AV.one, reduceCtorEq, Nat.reduceAdd, Nat.reduceSub, Nat.reduceEqDiff, Nat.reduceLeDiff, Array.toList, Int.reduceToNat, Int.reduceLE, Int.reduceLT, Int.reduceAdd, Int.reduceNeg, Nat.reduceMul, T85]
  refine condS.split (fun h => ?_) (fun h => ?_)
  · have h : Lib.hasPrefix (s.drop i) sCdata = false := by simpa [sCdata] using h
    simp (maxSteps := 400000) only [wE, stepW, footA, makesA, ptrId, pairsOk, footApart, opS, opA, ev, putA, setC, ofConst, ofFlat, List.replicate, List.set, binA, intA, strA, unA, extractA, nilCheckA, bodyA, resultsA, oneOrTup, builtinA, lenA, indexA, minA, loadA, partA, storeA, setCells, fieldA, ptrAdd, AV.cellsOf, AV.one, reduceCtorEq, Nat.reduceAdd, Nat.reduceSub, Nat.reduceEqDiff, Nat.reduceLeDiff, Array.toList, Int.reduceToNat, Int.reduceLE, Int.reduceLT, Int.reduceAdd, Int.reduceNeg, Nat.reduceMul, T85]
    simp [cdataS, h]
    exact h1.post
  · have h' : Lib.hasPrefix (s.drop i) sCdata = true := by simpa [sCdata] using h
    have ht : Lib.trimPrefix (s.drop i) [60, 33, 91, 67, 68, 65, 84, 65, 91] = (s.drop i).drop 9 := by
      unfold Lib.trimPrefix
      rw [if_pos (by simpa [sCdata] using h')]
      rfl
    rw [ht]
    have hc := cut_le ((s.drop i).drop 9) [93, 93, 62]
    simp only [List.length_drop] at hc
    simp (maxSteps := 400000) only [wE, stepW, footA, makesA, ptrId, pairsOk, footApart, opS, opA, ev, putA, setC, ofConst, ofFlat, List.replicate, List.set, binA, intA, strA, unA, extractA, nilCheckA, bodyA, resultsA, oneOrTup, builtinA, lenA, indexA, minA, loadA, partA, storeA, setCells, fieldA, ptrAdd, AV.cellsOf, AV.one, reduceCtorEq, Nat.reduceAdd, Nat.reduceSub, Nat.reduceEqDiff, Nat.reduceLeDiff, Array.toList, Int.reduceToNat, Int.reduceLE, Int.reduceLT, Int.reduceAdd, Int.reduceNeg, Nat.reduceMul, T85]
    refine AInv.pureK E.cutB (E.cut _ _ (by simp only [List.length_drop]; omega)) fun H2 h2 => ?_
    simp (maxSteps := 400000) only [wE, stepW, footA, makesA, ptrId, pairsOk, footApart, opS, opA, ev, putA, setC, ofConst, ofFlat, List.replicate, List.set, binA, intA, strA, unA, extractA, nilCheckA, bodyA, resultsA, oneOrTup, builtinA, lenA, indexA, minA, loadA, partA, storeA, setCells, fieldA, ptrAdd, AV.cellsOf, AV.one, reduceCtorEq, Nat.reduceAdd, Nat.reduceSub, Nat.reduceEqDiff, Nat.reduceLeDiff, Array.toList, Int.reduceToNat, Int.reduceLE, Int.reduceLT, Int.reduceAdd, Int.reduceNeg, Nat.reduceMul, T85]
    simp (disch := omega) only [wrap64]
    refine ⟨?_, (h1.trans h2).post⟩
    simp only [cdataS, if_pos h', sCend]
    push_cast
    rfl

theorem white_ok (G : Nat → Option (List AV)) (c : UInt8) : PureCall Tryz.prog G 84 [.int .u8 c.toNat] (.bool (isW c)) := by
  intro H
  refine ACalls.keep (ACalls.of Tryz.func84 S84_eq R84 N84 rfl rfl ?_)
  have e32 : ((c.toNat : Int) == 32) = (c == 32) := byte_eq c 32 (by omega)
  have e9 : ((c.toNat : Int) == 9) = (c == 9) := byte_eq c 9 (by omega)
  have e10 : ((c.toNat : Int) == 10) = (c == 10) := byte_eq c 10 (by omega)
  cases h1 : (c == 32) <;> cases h2 : (c == 9) <;> simp (maxSteps := 400000) only [wE, stepW, footA, makesA, ptrId, pairsOk, footApart, opS, opA, ev, putA, setC, ofConst, ofFlat, List.replicate, List.set, binA, intA, strA, unA, extractA, nilCheckA, bodyA, resultsA, oneOrTup, builtinA, lenA, indexA, minA, loadA, partA, storeA, setCells, fieldA, ptrAdd, AV.cellsOf, AV.one, reduceCtorEq, Nat.reduceAdd, Nat.reduceSub, Nat.reduceEqDiff, Nat.reduceLeDiff, Array.toList, Int.reduceToNat, Int.reduceLE, Int.reduceLT, Int.reduceAdd, Int.reduceNeg, Nat.reduceMul, S84, N84, R84, T84, e32, e9, e10, h1, h2, isW, Bool.true_or, Bool.or_true, Bool.false_or, Bool.or_false] <;> simp

theorem skip_ok (G : Nat → Option (List AV)) {s : List UInt8} {i : Nat} (hi : i ≤ s.length) (hs : s.length ≤ 1000000000) : PureCall Tryz.prog G 114 [.str s, .int .i64 i] (.int .i64 (skipN s i)) := by
  intro H
  refine ACalls.keep (ACalls.of Tryz.func114 S114_eq R114 N114 rfl rfl ?_)
  simp (maxSteps := 400000) only [wE, stepW, footA, makesA, ptrId, pairsOk, footApart, opS, opA, ev, putA, setC, ofConst, ofFlat, List.replicate, List.set, binA, intA, strA, unA, extractA, nilCheckA, bodyA, resultsA, oneOrTup, builtinA, lenA, indexA, minA, loadA, partA, storeA, setCells, fieldA, ptrAdd, AV.cellsOf, AV.one, reduceCtorEq, Nat.reduceAdd, Nat.reduceSub, Nat.reduceEqDiff, Nat.reduceLeDiff, Array.toList, Int.reduceToNat, Int.reduceLE, Int.reduceLT, Int.reduceAdd, Int.reduceNeg, Nat.reduceMul, S114, N114, R114, T114]
  refine ATrS.loopK (κ := Nat × AHeap) (fun x => [.str s, .int .i64 x.1, .und, .und, .int .i64 0] ++ List.replicate 13 .und) (fun x => x.2)
    (fun x => x.1 ≤ s.length ∧ skipN s x.1 = skipN s i ∧ Keeps H x.2) (fun x => s.length - x.1) ⟨(i, H), ⟨hi, rfl, Keeps.refl H⟩, by simp [Fg], HW.refl H⟩ ?_
  rintro ⟨k, H1⟩ ⟨hk, hk2, hH⟩
  simp only at hk hk2 hH
  simp (maxSteps := 400000) only [wE, stepW, footA, makesA, ptrId, pairsOk, footApart, opS, opA, ev, putA, setC, ofConst, ofFlat, List.replicate, List.set, binA, intA, strA, unA, extractA, nilCheckA, bodyA, resultsA, oneOrTup, builtinA, lenA, indexA, minA, loadA, partA, storeA, setCells, fieldA, ptrAdd, AV.cellsOf, AV.one, reduceCtorEq, Nat.reduceAdd, Nat.reduceSub, Nat.reduceEqDiff, Nat.reduceLeDiff, Array.toList, Int.reduceToNat, Int.reduceLE, Int.reduceLT, Int.reduceAdd, Int.reduceNeg, Nat.reduceMul, T114]
  refine guardS.split (fun hlt => ?_) (fun hge => ?_)
  · have hlt : k < s.length := by simpa using hlt
    simp (maxSteps := 400000) only [wE, stepW, footA, makesA, ptrId, pairsOk, footApart, opS, opA, ev, putA, setC, ofConst, ofFlat, List.replicate, List.set, binA, intA, strA, unA, extractA, nilCheckA, bodyA, resultsA, oneOrTup, builtinA, lenA, indexA, minA, loadA, partA, storeA, setCells, fieldA, ptrAdd, AV.cellsOf, AV.one, reduceCtorEq, Nat.reduceAdd, Nat.reduceSub, Nat.reduceEqDiff, Nat.reduceLeDiff, Array.toList, Int.reduceToNat, Int.reduceLE, Int.reduceLT, Int.reduceAdd, Int.reduceNeg, Nat.reduceMul, T114, List.getElem?_eq_getElem hlt]
    refine AInv.pureK B84 (white_ok G _) fun H2 h2 => ?_
    simp (maxSteps := 400000) only [wE, stepW, footA, makesA, ptrId, pairsOk, footApart, opS, opA, ev, putA, setC, ofConst, ofFlat, List.replicate, List.set, binA, intA, strA, unA, extractA, nilCheckA, bodyA, resultsA, oneOrTup, builtinA, lenA, indexA, minA, loadA, partA, storeA, setCells, fieldA, ptrAdd, AV.cellsOf, AV.one, reduceCtorEq, Nat.reduceAdd, Nat.reduceSub, Nat.reduceEqDiff, Nat.reduceLeDiff, Array.toList, Int.reduceToNat, Int.reduceLE, Int.reduceLT, Int.reduceAdd, Int.reduceNeg, Nat.reduceMul, T114]
    refine condS.split (fun hw => ?_) (fun hw => ?_)
    · simp (maxSteps := 400000) only [wE, stepW, footA, makesA, ptrId, pairsOk, footApart, opS, opA, ev, putA, setC, ofConst, ofFlat, List.replicate, List.set, binA, intA, strA, unA, extractA, nilCheckA, bodyA, resultsA, oneOrTup, builtinA, lenA, indexA, minA, loadA, partA, storeA, setCells, fieldA, ptrAdd, AV.cellsOf, AV.one, reduceCtorEq, Nat.reduceAdd, Nat.reduceSub, Nat.reduceEqDiff, Nat.reduceLeDiff, Array.toList, Int.reduceToNat, Int.reduceLE, Int.reduceLT, Int.reduceAdd, Int.reduceNeg, Nat.reduceMul, T114]
      simp (disch := omega) only [wrap64]
      exact ⟨(k + 1, H2), ⟨hlt, by rw [← hk2]; exact skipN_step hlt hw, hH.trans h2⟩, by simp only; omega, by simp [Fg], HW.refl _⟩
    · simp (maxSteps := 400000) only [wE, stepW, footA, makesA, ptrId, pairsOk, footApart, opS, opA, ev, putA, setC, ofConst, ofFlat, List.replicate, List.set, binA, intA, strA, unA, extractA, nilCheckA, bodyA, resultsA, oneOrTup, builtinA, lenA, indexA, minA, loadA, partA, storeA, setCells, fieldA, ptrAdd, AV.cellsOf, AV.one, reduceCtorEq, Nat.reduceAdd, Nat.reduceSub, Nat.reduceEqDiff, Nat.reduceLeDiff, Array.toList, Int.reduceToNat, Int.reduceLE, Int.reduceLT, Int.reduceAdd, Int.reduceNeg, Nat.reduceMul, T114]
      exact ⟨by rw [← hk2, skipN_stop hlt (by simp [hw])], (hH.trans h2).post⟩
  · have hge : s.length ≤ k := by simpa using hge
    simp (maxSteps := 400000) only [wE, stepW, footA, makesA, ptrId, pairsOk, footApart, opS, opA, ev, putA, setC, ofConst, ofFlat, List.replicate, List.set, binA, intA, strA, unA, extractA, nilCheckA, bodyA, resultsA, oneOrTup, builtinA, lenA, indexA, minA, loadA, partA, storeA, setCells, fieldA, ptrAdd, AV.cellsOf, AV.one, reduceCtorEq, Nat.reduceAdd, Nat.reduceSub, Nat.reduceEqDiff, Nat.reduceLeDiff, Array.toList, Int.reduceToNat, Int.reduceLE, Int.reduceLT, Int.reduceAdd, Int.reduceNeg, Nat.reduceMul, T114]
    exact ⟨by rw [← hk2, skipN_end hge], hH.post⟩

theorem cons_append_len {α : Type} (n : Nat) (x : α) : List.replicate (n + 1) x = x :: List.replicate n x := rfl

theorem until_ok {G : Nat → Option (List AV)} (E : Env G) {s stop : List UInt8} {i : Nat} (hi : i ≤ s.length) (hs : s.length ≤ 1000000000) : PureCall Tryz.prog G 113 [.str s, .int .i64 i, .str stop] (.int .i64 (untilN s i stop)) := by
  intro H
  refine ACalls.keep (ACalls.of Tryz.func113 S113_eq R113 N113 rfl rfl ?_)
  simp (maxSteps := 400000) only [wE, stepW, footA, makesA, ptrId, pairsOk, footApart, opS, opA, ev, putA, setC, ofConst, ofFlat, List.replicate, List.set, binA, intA, strA, unA, extractA, nilCheckA, bodyA, resultsA, oneOrTup, builtinA, lenA, indexA, minA, loadA, partA, storeA, setCells, fieldA, ptrAdd, AV.cellsOf, AV.one, reduceCtorEq, Nat.reduceAdd, Nat.reduceSub, Nat.reduceEqDiff, Nat.reduceLeDiff, Array.toList, Int.reduceToNat, Int.reduceLE, Int.reduceLT, Int.reduceAdd, Int.reduceNeg, Nat.reduceMul, S113, N113, R113, T113]
  refine ATrS.loopK (κ := Nat × AHeap) (fun x => [.str s, .int .i64 x.1, .str stop, .und, .und, .und, .int .i64 0] ++ List.replicate 22 .und) (fun x => x.2)
    (fun x => x.1 ≤ s.length ∧ untilN s x.1 stop = untilN s i stop ∧ Keeps H x.2) (fun x => s.length - x.1) ⟨(i, H), ⟨hi, rfl, Keeps.refl H⟩, by simp [Fg], HW.refl H⟩ ?_
  rintro ⟨k, H1⟩ ⟨hk, hk2, hH⟩
  simp only at hk hk2 hH
  simp (maxSteps := 400000) only [wE, stepW, footA, makesA, ptrId, pairsOk, footApart, opS, opA, ev, putA, setC, ofConst, ofFlat, List.replicate, List.set, binA, intA, strA, unA, extractA, nilCheckA, bodyA, resultsA, oneOrTup, builtinA, lenA, indexA, minA, loadA, partA, storeA, setCells, fieldA, ptrAdd, AV.cellsOf, AV.one, reduceCtorEq, Nat.reduceAdd, Nat.reduceSub, Nat.reduceEqDiff, Nat.reduceLeDiff, Array.toList, Int.reduceToNat, Int.reduceLE, Int.reduceLT, Int.reduceAdd, Int.reduceNeg, Nat.reduceMul, T113]
  refine guardS.split (fun hlt => ?_) (fun hge => ?_)
  · have hlt : k < s.length := by simpa using hlt
    simp (maxSteps := 400000) only [wE, stepW, footA, makesA, ptrId, pairsOk, footApart, opS, opA, ev, putA, setC, ofConst, ofFlat, List.replicate, List.set, binA, intA, strA, unA, extractA, nilCheckA, bodyA, resultsA, oneOrTup, builtinA, lenA, indexA, minA, loadA, partA, storeA, setCells, fieldA, ptrAdd, AV.cellsOf, AV.one, reduceCtorEq, Nat.reduceAdd, Nat.reduceSub, Nat.reduceEqDiff, Nat.reduceLeDiff, Array.toList, Int.reduceToNat, Int.reduceLE, Int.reduceLT, Int.reduceAdd, Int.reduceNeg, Nat.reduceMul, T113, List.getElem?_eq_getElem hlt]
    refine AInv.pureK B84 (white_ok G _) fun H2 h2 => ?_
    simp (maxSteps := 400000) only [wE, stepW, footA, makesA, ptrId, pairsOk, footApart, opS, opA, ev, putA, setC, ofConst, ofFlat, List.replicate, List.set, binA, intA, strA, unA, extractA, nilCheckA, bodyA, resultsA, oneOrTup, builtinA, lenA, indexA, minA, loadA, partA, storeA, setCells, fieldA, ptrAdd, AV.cellsOf, AV.one, reduceCtorEq, Nat.reduceAdd, Nat.reduceSub, Nat.reduceEqDiff, Nat.reduceLeDiff, Array.toList, Int.reduceToNat, Int.reduceLE, Int.reduceLT, Int.reduceAdd, Int.reduceNeg, Nat.reduceMul, T113]
    refine guardS.split (fun hw => ?_) (fun hw => ?_)
    · simp (maxSteps := 400000) only [wE, stepW, footA, makesA, ptrId, pairsOk, footApart, opS, opA, ev, putA, setC, ofConst, ofFlat, List.replicate, List.set, binA, intA, strA, unA, extractA, nilCheckA, bodyA, resultsA, oneOrTup, builtinA, lenA, indexA, minA, loadA, partA, storeA, setCells, fieldA, ptrAdd, AV.cellsOf, AV.one, reduceCtorEq, Nat.reduceAdd, Nat.reduceSub, Nat.reduceEqDiff, Nat.reduceLeDiff, Array.toList, Int.reduceToNat, Int.reduceLE, Int.reduceLT, Int.reduceAdd, Int.reduceNeg, Nat.reduceMul, T113, List.getElem?_eq_getElem hlt]
      refine AInv.pureK E.indexByteB (E.indexByte _ _) fun H3 h3 => ?_
      simp (maxSteps := 400000) only [wE, stepW, footA, makesA, ptrId, pairsOk, footApart, opS, opA, ev, putA, setC, ofConst, ofFlat, List.replicate, List.set, binA, intA, strA, unA, extractA, nilCheckA, bodyA, resultsA, oneOrTup, builtinA, lenA, indexA, minA, loadA, partA, storeA, setCells, fieldA, ptrAdd, AV.cellsOf, AV.one, reduceCtorEq, Nat.reduceAdd, Nat.reduceSub, Nat.reduceEqDiff, Nat.reduceLeDiff, Array.toList, Int.reduceToNat, Int.reduceLE, Int.reduceLT, Int.reduceAdd, Int.reduceNeg, Nat.reduceMul, T113]
      refine condS.split (fun hx => ?_) (fun hx => ?_)
      · simp (maxSteps := 400000) only [wE, stepW, footA, makesA, ptrId, pairsOk, footApart, opS, opA, ev, putA, setC, ofConst, ofFlat, List.replicate, List.set, binA, intA, strA, unA, extractA, nilCheckA, bodyA, resultsA, oneOrTup, builtinA, lenA, indexA, minA, loadA, partA, storeA, setCells, fieldA, ptrAdd, AV.cellsOf, AV.one, reduceCtorEq, Nat.reduceAdd, Nat.reduceSub, Nat.reduceEqDiff, Nat.reduceLeDiff, Array.toList, Int.reduceToNat, Int.reduceLE, Int.reduceLT, Int.reduceAdd, Int.reduceNeg, Nat.reduceMul, T113]
        simp (disch := omega) only [wrap64]
        refine ⟨(k + 1, H3), ⟨hlt, ?_, (hH.trans h2).trans h3⟩, by simp only; omega, by simp [Fg], HW.refl _⟩
        rw [← hk2]
        unfold untilN
        rw [List.drop_eq_getElem_cons hlt, List.takeWhile_cons_of_pos (by simpa using ⟨by simpa using hw, by simpa using hx⟩)]
        simp
        omega
      · simp (maxSteps := 400000) only [wE, stepW, footA, makesA, ptrId, pairsOk, footApart, opS, opA, ev, putA, setC, ofConst, ofFlat, List.replicate, List.set, binA, intA, strA, unA, extractA, nilCheckA, bodyA, resultsA, oneOrTup, builtinA, lenA, indexA, minA, loadA, partA, storeA, setCells, fieldA, ptrAdd, AV.cellsOf, AV.one, reduceCtorEq, Nat.reduceAdd, Nat.reduceSub, Nat.reduceEqDiff, Nat.reduceLeDiff, Array.toList, Int.reduceToNat, Int.reduceLE, Int.reduceLT, Int.reduceAdd, Int.reduceNeg, Nat.reduceMul, T113]
        refine ⟨?_, ((hH.trans h2).trans h3).post⟩
        rw [← hk2]
        unfold untilN
        rw [List.drop_eq_getElem_cons hlt, List.takeWhile_cons_of_neg (by simp at hx ⊢; intro _; omega)]
        simp
    · simp (maxSteps := 400000) only [wE, stepW, footA, makesA, ptrId, pairsOk, footApart, opS, opA, ev, putA, setC, ofConst, ofFlat, List.replicate, List.set, binA, intA, strA, unA, extractA, nilCheckA, bodyA, resultsA, oneOrTup, builtinA, lenA, indexA, minA, loadA, partA, storeA, setCells, fieldA, ptrAdd, AV.cellsOf, AV.one, reduceCtorEq, Nat.reduceAdd, Nat.reduceSub, Nat.reduceEqDiff, Nat.reduceLeDiff, Array.toList, Int.reduceToNat, Int.reduceLE, Int.reduceLT, Int.reduceAdd, Int.reduceNeg, Nat.reduceMul, T113]
      refine ⟨?_, (hH.trans h2).post⟩
      rw [← hk2]
      unfold untilN
      rw [List.drop_eq_getElem_cons hlt, List.takeWhile_cons_of_neg (by simp at hw ⊢; simp [hw])]
      simp
  · have hge : s.length ≤ k := by simpa using hge
    simp (maxSteps := 400000) only [wE, stepW, footA, makesA, ptrId, pairsOk, footApart, opS, opA, ev, putA, setC, ofConst, ofFlat, List.replicate, List.set, binA, intA, strA, unA, extractA, nilCheckA, bodyA, resultsA, oneOrTup, builtinA, lenA, indexA, minA, loadA, partA, storeA, setCells, fieldA, ptrAdd, AV.cellsOf, AV.one, reduceCtorEq, Nat.reduceAdd, Nat.reduceSub, Nat.reduceEqDiff, Nat.reduceLeDiff, Array.toList, Int.reduceToNat, Int.reduceLE, Int.reduceLT, Int.reduceAdd, Int.reduceNeg, Nat.reduceMul, T113]
    refine ⟨?_, hH.post⟩
    rw [← hk2]
    unfold untilN
    rw [List.drop_eq_nil_of_le hge]
    simp


theorem comment_ok {G : Nat → Option (List AV)} (E : Env G) {s : List UInt8} {i : Nat} (hi : i ≤ s.length) (hs : s.length ≤ 1000000000) :
    PureCall Tryz.prog G 88 [.str s, .int .i64 i] (.tup [.str (commentS s i).1, .int .i64 (commentS s i).2.1, .bool (commentS s i).2.2]) := by
  intro H
  refine ACalls.keep (ACalls.of Tryz.func88 S88_eq R88 N88 rfl rfl ?_)
  have hxs : ((i : Int) ≤ s.length) = True := by simp; omega
  simp (maxSteps := 400000) only [wE, stepW, footA, makesA, ptrId, pairsOk, footApart, opS, opA, ev, putA, setC, ofConst, ofFlat, List.replicate, List.set, binA, intA, strA, unA, extractA, nilCheckA, bodyA, resultsA, oneOrTup, builtinA, lenA, indexA, minA, loadA, partA, storeA, setCells, fieldA, ptrAdd, AV.cellsOf, AV.one, reduceCtorEq, Nat.reduceAdd, Nat.reduceSub, Nat.reduceEqDiff, Nat.reduceLeDiff, Array.toList, Int.reduceToNat, Int.reduceLE, Int.reduceLT, Int.reduceAdd, Int.reduceNeg, Nat.reduceMul, S88, N88, R88, T88, hxs]
  refine AInv.pureK E.cutPreB (E.cutPre _ _) fun H1 h1 => ?_
  simp (maxSteps := 400000) only [wE, stepW, footA, makesA, ptrId, pairsOk, footApart, opS, opA, ev, putA, setC, ofConst, ofFlat, List.replicate, List.set, binA, intA, strA, unA, extractA, nilCheckA, bodyA, resultsA, oneOrTup, builtinA, lenA, indexA, minA, loadA, partA, storeA, setCells, fieldA, ptrAdd, AV.cellsOf, AV.one, reduceCtorEq, Nat.reduceAdd, Nat.reduceSub, Nat.reduceEqDiff, Nat.reduceLeDiff, Array.toList, Int.reduceToNat, Int.reduceLE, Int.reduceLT, Int.reduceAdd, Int.reduceNeg, Nat.reduceMul, T88]
  refine condS.split (fun h => ?_) (fun h => ?_)
  · have h : Lib.hasPrefix (s.drop i) sCom = false := by simpa [sCom] using h
    simp (maxSteps := 400000) only [wE, stepW, footA, makesA, ptrId, pairsOk, footApart, opS, opA, ev, putA, setC, ofConst, ofFlat, List.replicate, List.set, binA, intA, strA, unA, extractA, nilCheckA, bodyA, resultsA, oneOrTup, builtinA, lenA, indexA, minA, loadA, partA, storeA, setCells, fieldA, ptrAdd, AV.cellsOf, AV.one, reduceCtorEq, Nat.reduceAdd, Nat.reduceSub, Nat.reduceEqDiff, Nat.reduceLeDiff, Array.toList, Int.reduceToNat, Int.reduceLE, Int.reduceLT, Int.reduceAdd, Int.reduceNeg, Nat.reduceMul, T88]
    simp [commentS, h]
    exact h1.post
  · have h' : Lib.hasPrefix (s.drop i) sCom = true := by simpa [sCom] using h
    have ht : Lib.trimPrefix (s.drop i) [60, 33, 45, 45] = (s.drop i).drop 4 := by
      unfold Lib.trimPrefix
      rw [if_pos (by simpa [sCom] using h')]
      rfl
    rw [ht]
    have hc := cut_le ((s.drop i).drop 4) [45, 45]
    simp only [List.length_drop] at hc
    simp (maxSteps := 400000) only [wE, stepW, footA, makesA, ptrId, pairsOk, footApart, opS, opA, ev, putA, setC, ofConst, ofFlat, List.replicate, List.set, binA, intA, strA, unA, extractA, nilCheckA, bodyA, resultsA, oneOrTup, builtinA, lenA, indexA, minA, loadA, partA, storeA, setCells, fieldA, ptrAdd, AV.cellsOf, AV.one, reduceCtorEq, Nat.reduceAdd, Nat.reduceSub, Nat.reduceEqDiff, Nat.reduceLeDiff, Array.toList, Int.reduceToNat, Int.reduceLE, Int.reduceLT, Int.reduceAdd, Int.reduceNeg, Nat.reduceMul, T88]
    refine AInv.pureK E.cutB (E.cut _ _ (by simp only [List.length_drop]; omega)) fun H2 h2 => ?_
    simp (maxSteps := 400000) only [wE, stepW, footA, makesA, ptrId, pairsOk, footApart, opS, opA, ev, putA, setC, ofConst, ofFlat, List.replicate, List.set, binA, intA, strA, unA, extractA, nilCheckA, bodyA, resultsA, oneOrTup, builtinA, lenA, indexA, minA, loadA, partA, storeA, setCells, fieldA, ptrAdd, AV.cellsOf, AV.one, reduceCtorEq, Nat.reduceAdd, Nat.reduceSub, Nat.reduceEqDiff, Nat.reduceLeDiff, Array.toList, Int.reduceToNat, Int.reduceLE, Int.reduceLT, Int.reduceAdd, Int.reduceNeg, Nat.reduceMul, T88]
    simp (disch := omega) only [wrap64]
    refine guardS.split (fun hg => ?_) (fun hg => ?_)
    · simp (maxSteps := 400000) only [wE, stepW, footA, makesA, ptrId, pairsOk, footApart, opS, opA, ev, putA, setC, ofConst, ofFlat, List.replicate, List.set, binA, intA, strA, unA, extractA, nilCheckA, bodyA, resultsA, oneOrTup, builtinA, lenA, indexA, minA, loadA, partA, storeA, setCells, fieldA, ptrAdd, AV.cellsOf, AV.one, reduceCtorEq, Nat.reduceAdd, Nat.reduceSub, Nat.reduceEqDiff, Nat.reduceLeDiff, Array.toList, Int.reduceToNat, Int.reduceLE, Int.reduceLT, Int.reduceAdd, Int.reduceNeg, Nat.reduceMul, T88]
      refine AInv.pureK E.hasPreB (E.hasPre _ _) fun H3 h3 => ?_
      simp (maxSteps := 400000) only [wE, stepW, footA, makesA, ptrId, pairsOk, footApart, opS, opA, ev, putA, setC, ofConst, ofFlat, List.replicate, List.set, binA, intA, strA, unA, extractA, nilCheckA, bodyA, resultsA, oneOrTup, builtinA, lenA, indexA, minA, loadA, partA, storeA, setCells, fieldA, ptrAdd, AV.cellsOf, AV.one, reduceCtorEq, Nat.reduceAdd, Nat.reduceSub, Nat.reduceEqDiff, Nat.reduceLeDiff, Array.toList, Int.reduceToNat, Int.reduceLE, Int.reduceLT, Int.reduceAdd, Int.reduceNeg, Nat.reduceMul, T88]
      refine ⟨?_, ((h1.trans h2).trans h3).post⟩
      simp only [commentS, if_pos h', sDash, hg, Bool.true_and]
      push_cast
      rfl
    · simp (maxSteps := 400000) only [wE, stepW, footA, makesA, ptrId, pairsOk, footApart, opS, opA, ev, putA, setC, ofConst, ofFlat, List.replicate, List.set, binA, intA, strA, unA, extractA, nilCheckA, bodyA, resultsA, oneOrTup, builtinA, lenA, indexA, minA, loadA, partA, storeA, setCells, fieldA, ptrAdd, AV.cellsOf, AV.one, reduceCtorEq, Nat.reduceAdd, Nat.reduceSub, Nat.reduceEqDiff, Nat.reduceLeDiff, Array.toList, Int.reduceToNat, Int.reduceLE, Int.reduceLT, Int.reduceAdd, Int.reduceNeg, Nat.reduceMul, T88]
      refine ⟨?_, (h1.trans h2).post⟩
      simp only [commentS, if_pos h', sDash, hg, Bool.not_true, Bool.false_and]
      push_cast
      rfl

theorem declaration_ok {G : Nat → Option (List AV)} (E : Env G) {s : List UInt8} (hs : s.length ≤ 1000000000) : PureCall Tryz.prog G 61 [.str s] (.int .i64 (declS s)) := by
  intro H
  refine ACalls.keep (ACalls.of Tryz.func61 S61_eq R61 N61 rfl rfl ?_)
  simp (maxSteps := 400000) only [wE, stepW, footA, makesA, ptrId, pairsOk, footApart, opS, opA, ev, putA, setC, ofConst, ofFlat, List.replicate, List.set, binA, intA, strA, unA, extractA, nilCheckA, bodyA, resultsA, oneOrTup, builtinA, lenA, indexA, minA, loadA, partA, storeA, setCells, fieldA, ptrAdd, AV.cellsOf, AV.one, reduceCtorEq, Nat.reduceAdd, Nat.reduceSub, Nat.reduceEqDiff, Nat.reduceLeDiff, Array.toList, Int.reduceToNat, Int.reduceLE, Int.reduceLT, Int.reduceAdd, Int.reduceNeg, Nat.reduceMul, S61, N61, R61, T61]
  refine AInv.pureK E.hasPreB (E.hasPre _ _) fun H1 h1 => ?_
  simp (maxSteps := 400000) only [wE, stepW, footA, makesA, ptrId, pairsOk, footApart, opS, opA, ev, putA, setC, ofConst, ofFlat, List.replicate, List.set, binA, intA, strA, unA, extractA, nilCheckA, bodyA, resultsA, oneOrTup, builtinA, lenA, indexA, minA, loadA, partA, storeA, setCells, fieldA, ptrAdd, AV.cellsOf, AV.one, reduceCtorEq, Nat.reduceAdd, Nat.reduceSub, Nat.reduceEqDiff, Nat.reduceLeDiff, Array.toList, Int.reduceToNat, Int.reduceLE, Int.reduceLT, Int.reduceAdd, Int.reduceNeg, Nat.reduceMul, T61]
  refine guardS.split (fun h => ?_) (fun h => ?_)
  · have h' : Lib.hasPrefix s sXml = true := by simpa [sXml] using h
    have hl := hasPrefix_len h'
    simp only [sXml, List.length_cons, List.length_nil] at hl
    simp (maxSteps := 400000) only [wE, stepW, footA, makesA, ptrId, pairsOk, footApart, opS, opA, ev, putA, setC, ofConst, ofFlat, List.replicate, List.set, binA, intA, strA, unA, extractA, nilCheckA, bodyA, resultsA, oneOrTup, builtinA, lenA, indexA, minA, loadA, partA, storeA, setCells, fieldA, ptrAdd, AV.cellsOf, AV.one, reduceCtorEq, Nat.reduceAdd, Nat.reduceSub, Nat.reduceEqDiff, Nat.reduceLeDiff, Array.toList, Int.reduceToNat, Int.reduceLE, Int.reduceLT, Int.reduceAdd, Int.reduceNeg, Nat.reduceMul, T61]
    refine guardS.split (fun h5 => ?_) (fun h5 => ?_)
    · have h5' : s.length ≠ 5 := by simp at h5; omega
      have hlt : 5 < s.length := by omega
      have hget : s.getD 5 0 = s[5] := by simp [List.getD, List.getElem?_eq_getElem hlt]
      simp (maxSteps := 400000) only [wE, stepW, footA, makesA, ptrId, pairsOk, footApart, opS, opA, ev, putA, setC, ofConst, ofFlat, List.replicate, List.set, binA, intA, strA, unA, extractA, nilCheckA, bodyA, resultsA, oneOrTup, builtinA, lenA, indexA, minA, loadA, partA, storeA, setCells, fieldA, ptrAdd, AV.cellsOf, AV.one, reduceCtorEq, Nat.reduceAdd, Nat.reduceSub, Nat.reduceEqDiff, Nat.reduceLeDiff, Array.toList, Int.reduceToNat, Int.reduceLE, Int.reduceLT, Int.reduceAdd, Int.reduceNeg, Nat.reduceMul, T61, List.getElem?_eq_getElem hlt]
      refine AInv.pureK B84 (white_ok G _) fun H2 h2 => ?_
      simp (maxSteps := 400000) only [wE, stepW, footA, makesA, ptrId, pairsOk, footApart, opS, opA, ev, putA, setC, ofConst, ofFlat, List.replicate, List.set, binA, intA, strA, unA, extractA, nilCheckA, bodyA, resultsA, oneOrTup, builtinA, lenA, indexA, minA, loadA, partA, storeA, setCells, fieldA, ptrAdd, AV.cellsOf, AV.one, reduceCtorEq, Nat.reduceAdd, Nat.reduceSub, Nat.reduceEqDiff, Nat.reduceLeDiff, Array.toList, Int.reduceToNat, Int.reduceLE, Int.reduceLT, Int.reduceAdd, Int.reduceNeg, Nat.reduceMul, T61]
      refine condS.split (fun hw => ?_) (fun hw => ?_)
      · have hw' : ¬ isW (s.getD 5 0) = true := by rw [hget]; simpa using hw
        simp (maxSteps := 400000) only [wE, stepW, footA, makesA, ptrId, pairsOk, footApart, opS, opA, ev, putA, setC, ofConst, ofFlat, List.replicate, List.set, binA, intA, strA, unA, extractA, nilCheckA, bodyA, resultsA, oneOrTup, builtinA, lenA, indexA, minA, loadA, partA, storeA, setCells, fieldA, ptrAdd, AV.cellsOf, AV.one, reduceCtorEq, Nat.reduceAdd, Nat.reduceSub, Nat.reduceEqDiff, Nat.reduceLeDiff, Array.toList, Int.reduceToNat, Int.reduceLE, Int.reduceLT, Int.reduceAdd, Int.reduceNeg, Nat.reduceMul, T61]
        have hd : declS s = 0 := by unfold declS; exact if_neg fun h => hw' h.2.2
        exact ⟨by rw [hd], (h1.trans h2).post⟩
      · have hw' : isW (s.getD 5 0) = true := by rw [hget]; simpa using hw
        have hd : declS s = if 0 ≤ Lib.index (s.drop 5) [63, 62] then 5 + Lib.index (s.drop 5) [63, 62] + 2 else -1 := by simp only [declS, h', h5', hw', ne_eq, not_false_eq_true, and_self, if_true]
        have hxs : ((5 : Int) ≤ s.length) = True := by simp; omega
        simp (maxSteps := 400000) only [wE, stepW, footA, makesA, ptrId, pairsOk, footApart, opS, opA, ev, putA, setC, ofConst, ofFlat, List.replicate, List.set, binA, intA, strA, unA, extractA, nilCheckA, bodyA, resultsA, oneOrTup, builtinA, lenA, indexA, minA, loadA, partA, storeA, setCells, fieldA, ptrAdd, AV.cellsOf, AV.one, reduceCtorEq, Nat.reduceAdd, Nat.reduceSub, Nat.reduceEqDiff, Nat.reduceLeDiff, Array.toList, Int.reduceToNat, Int.reduceLE, Int.reduceLT, Int.reduceAdd, Int.reduceNeg, Nat.reduceMul, T61, hxs]
        refine AInv.pureK E.indexB (E.index _ _ (by simp; omega)) fun H3 h3 => ?_
        have hge := Lib.index_ge (s.drop 5) [63, 62]
        have hle := Lib.index_le (s.drop 5) [63, 62]
        simp only [List.length_drop] at hle
        simp (maxSteps := 400000) only [wE, stepW, footA, makesA, ptrId, pairsOk, footApart, opS, opA, ev, putA, setC, ofConst, ofFlat, List.replicate, List.set, binA, intA, strA, unA, extractA, nilCheckA, bodyA, resultsA, oneOrTup, builtinA, lenA, indexA, minA, loadA, partA, storeA, setCells, fieldA, ptrAdd, AV.cellsOf, AV.one, reduceCtorEq, Nat.reduceAdd, Nat.reduceSub, Nat.reduceEqDiff, Nat.reduceLeDiff, Array.toList, Int.reduceToNat, Int.reduceLE, Int.reduceLT, Int.reduceAdd, Int.reduceNeg, Nat.reduceMul, T61]
        refine condS.split (fun hn => ?_) (fun hn => ?_)
        · have hn' : 0 ≤ Lib.index (s.drop 5) [63, 62] := by simpa using hn
          simp (maxSteps := 400000) only [wE, stepW, footA, makesA, ptrId, pairsOk, footApart, opS, opA, ev, putA, setC, ofConst, ofFlat, List.replicate, List.set, binA, intA, strA, unA, extractA, nilCheckA, bodyA, resultsA, oneOrTup, builtinA, lenA, indexA, minA, loadA, partA, storeA, setCells, fieldA, ptrAdd, AV.cellsOf, AV.one, reduceCtorEq, Nat.reduceAdd, Nat.reduceSub, Nat.reduceEqDiff, Nat.reduceLeDiff, Array.toList, Int.reduceToNat, Int.reduceLE, Int.reduceLT, Int.reduceAdd, Int.reduceNeg, Nat.reduceMul, T61]
          simp (disch := omega) only [wrap64]
          exact ⟨by rw [hd, if_pos hn'], ((h1.trans h2).trans h3).post⟩
        · have hn' : ¬ 0 ≤ Lib.index (s.drop 5) [63, 62] := by simpa using hn
          simp (maxSteps := 400000) only [wE, stepW, footA, makesA, ptrId, pairsOk, footApart, opS, opA, ev, putA, setC, ofConst, ofFlat, List.replicate, List.set, binA, intA, strA, unA, extractA, nilCheckA, bodyA, resultsA, oneOrTup, builtinA, lenA, indexA, minA, loadA, partA, storeA, setCells, fieldA, ptrAdd, AV.cellsOf, AV.one, reduceCtorEq, Nat.reduceAdd, Nat.reduceSub, Nat.reduceEqDiff, Nat.reduceLeDiff, Array.toList, Int.reduceToNat, Int.reduceLE, Int.reduceLT, Int.reduceAdd, Int.reduceNeg, Nat.reduceMul, T61]
          exact ⟨by rw [hd, if_neg hn'], ((h1.trans h2).trans h3).post⟩
    · have h5' : s.length = 5 := by simp at h5; omega
      simp (maxSteps := 400000) only [wE, stepW, footA, makesA, ptrId, pairsOk, footApart, opS, opA, ev, putA, setC, ofConst, ofFlat, List.replicate, List.set, binA, intA, strA, unA, extractA, nilCheckA, bodyA, resultsA, oneOrTup, builtinA, lenA, indexA, minA, loadA, partA, storeA, setCells, fieldA, ptrAdd, AV.cellsOf, AV.one, reduceCtorEq, Nat.reduceAdd, Nat.reduceSub, Nat.reduceEqDiff, Nat.reduceLeDiff, Array.toList, Int.reduceToNat, Int.reduceLE, Int.reduceLT, Int.reduceAdd, Int.reduceNeg, Nat.reduceMul, T61]
      exact ⟨by simp [declS, h5'], h1.post⟩
  · have h' : ¬ Lib.hasPrefix s sXml = true := by simpa [sXml] using h
    simp (maxSteps := 400000) only [wE, stepW, footA, makesA, ptrId, pairsOk, footApart, opS, opA, ev, putA, setC, ofConst, ofFlat, List.replicate, List.set, binA, intA, strA, unA, extractA, nilCheckA, bodyA, resultsA, oneOrTup, builtinA, lenA, indexA, minA, loadA, partA, storeA, setCells, fieldA, ptrAdd, AV.cellsOf, AV.one, reduceCtorEq, Nat.reduceAdd, Nat.reduceSub, Nat.reduceEqDiff, Nat.reduceLeDiff, Array.toList, Int.reduceToNat, Int.reduceLE, Int.reduceLT, Int.reduceAdd, Int.reduceNeg, Nat.reduceMul, T61]
    exact ⟨by simp [declS, h'], h1.post⟩
end Go.Ab
