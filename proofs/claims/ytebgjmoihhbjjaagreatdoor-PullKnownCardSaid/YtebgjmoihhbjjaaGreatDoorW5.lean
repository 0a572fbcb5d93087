/- Names, walked. -/
import Derived.Test.YtebgjmoihhbjjaaGreatDoorW4
set_option linter.all false
namespace Go.Ab
open Go Go.Lib Go.Proofs

theorem cut_snd_le (s p : List UInt8) : (Lib.cut s p).2.1.length ≤ s.length := by
  unfold Lib.cut
  split
  · simp
  · simp

theorem isName_ok {G : Nat → Option (List AV)} (E : Env G) {s : List UInt8} (hs : s.length ≤ 1000000000) : PureCall Tryz.prog G 43 [.str s] (.bool (isNameS s)) := by
  intro H
  refine ACalls.keep (ACalls.of Tryz.func43 S43_eq R43 N43 rfl rfl ?_)
  simp (maxSteps := 400000) only [wE, stepW, footA, makesA, ptrId, pairsOk, footApart, opS, opA, ev, putA, setC, ofConst, ofFlat, List.replicate, List.set, binA, intA, strA, unA, extractA, nilCheckA, bodyA, resultsA, oneOrTup, builtinA, lenA, indexA, minA, loadA, partA, storeA, setCells, fieldA, ptrAdd, AV.cellsOf, AV.one, reduceCtorEq, Nat.reduceAdd, Nat.reduceSub, Nat.reduceEqDiff, Nat.reduceLeDiff, Array.toList, Int.reduceToNat, Int.reduceLE, Int.reduceLT, Int.reduceAdd, Int.reduceNeg, Nat.reduceMul, S43, N43, R43, T43]
  refine AInv.pureK B25 (isText_ok E hs) fun H1 h1 => ?_
  cases ht : isTextS s with
  | false =>
    simp (maxSteps := 400000) only [wE, stepW, footA, makesA, ptrId, pairsOk, footApart, opS, opA, ev, putA, setC, ofConst, ofFlat, List.replicate, List.set, binA, intA, strA, unA, extractA, nilCheckA, bodyA, resultsA, oneOrTup, builtinA, lenA, indexA, minA, loadA, partA, storeA, setCells, fieldA, ptrAdd, AV.cellsOf, AV.one, reduceCtorEq, Nat.reduceAdd, Nat.reduceSub, Nat.reduceEqDiff, Nat.reduceLeDiff, Array.toList, Int.reduceToNat, Int.reduceLE, Int.reduceLT, Int.reduceAdd, Int.reduceNeg, Nat.reduceMul, T43]
    exact ⟨by simp [isNameS, ht], h1.post⟩
  | true =>
    simp (maxSteps := 400000) only [wE, stepW, footA, makesA, ptrId, pairsOk, footApart, opS, opA, ev, putA, setC, ofConst, ofFlat, List.replicate, List.set, binA, intA, strA, unA, extractA, nilCheckA, bodyA, resultsA, oneOrTup, builtinA, lenA, indexA, minA, loadA, partA, storeA, setCells, fieldA, ptrAdd, AV.cellsOf, AV.one, reduceCtorEq, Nat.reduceAdd, Nat.reduceSub, Nat.reduceEqDiff, Nat.reduceLeDiff, Array.toList, Int.reduceToNat, Int.reduceLE, Int.reduceLT, Int.reduceAdd, Int.reduceNeg, Nat.reduceMul, T43]
    refine AInv.pureK B71 (count_ok G hs) fun H2 h2 => ?_
    simp (maxSteps := 400000) only [wE, stepW, footA, makesA, ptrId, pairsOk, footApart, opS, opA, ev, putA, setC, ofConst, ofFlat, List.replicate, List.set, binA, intA, strA, unA, extractA, nilCheckA, bodyA, resultsA, oneOrTup, builtinA, lenA, indexA, minA, loadA, partA, storeA, setCells, fieldA, ptrAdd, AV.cellsOf, AV.one, reduceCtorEq, Nat.reduceAdd, Nat.reduceSub, Nat.reduceEqDiff, Nat.reduceLeDiff, Array.toList, Int.reduceToNat, Int.reduceLE, Int.reduceLT, Int.reduceAdd, Int.reduceNeg, Nat.reduceMul, T43]
    refine condS.split (fun h => ?_) (fun h => ?_)
    · have h : ¬ countS s ≤ 100 := by simp at h; omega
      simp (maxSteps := 400000) only [wE, stepW, footA, makesA, ptrId, pairsOk, footApart, opS, opA, ev, putA, setC, ofConst, ofFlat, List.replicate, List.set, binA, intA, strA, unA, extractA, nilCheckA, bodyA, resultsA, oneOrTup, builtinA, lenA, indexA, minA, loadA, partA, storeA, setCells, fieldA, ptrAdd, AV.cellsOf, AV.one, reduceCtorEq, Nat.reduceAdd, Nat.reduceSub, Nat.reduceEqDiff, Nat.reduceLeDiff, Array.toList, Int.reduceToNat, Int.reduceLE, Int.reduceLT, Int.reduceAdd, Int.reduceNeg, Nat.reduceMul, T43]
      exact ⟨by simp [isNameS, h], (h1.trans h2).post⟩
    · have h : countS s ≤ 100 := by simp at h; omega
      have hc1 := cut_le s [58]
      have hc2 := cut_snd_le s [58]
      simp (maxSteps := 400000) only [wE, stepW, footA, makesA, ptrId, pairsOk, footApart, opS, opA, ev, putA, setC, ofConst, ofFlat, List.replicate, List.set, binA, intA, strA, unA, extractA, nilCheckA, bodyA, resultsA, oneOrTup, builtinA, lenA, indexA, minA, loadA, partA, storeA, setCells, fieldA, ptrAdd, AV.cellsOf, AV.one, reduceCtorEq, Nat.reduceAdd, Nat.reduceSub, Nat.reduceEqDiff, Nat.reduceLeDiff, Array.toList, Int.reduceToNat, Int.reduceLE, Int.reduceLT, Int.reduceAdd, Int.reduceNeg, Nat.reduceMul, T43]
      refine AInv.pureK E.cutB (E.cut _ _ hs) fun H3 h3 => ?_
      simp (maxSteps := 400000) only [wE, stepW, footA, makesA, ptrId, pairsOk, footApart, opS, opA, ev, putA, setC, ofConst, ofFlat, List.replicate, List.set, binA, intA, strA, unA, extractA, nilCheckA, bodyA, resultsA, oneOrTup, builtinA, lenA, indexA, minA, loadA, partA, storeA, setCells, fieldA, ptrAdd, AV.cellsOf, AV.one, reduceCtorEq, Nat.reduceAdd, Nat.reduceSub, Nat.reduceEqDiff, Nat.reduceLeDiff, Array.toList, Int.reduceToNat, Int.reduceLE, Int.reduceLT, Int.reduceAdd, Int.reduceNeg, Nat.reduceMul, T43]
      refine AInv.pureK B73 (isPart_ok G (by omega)) fun H4 h4 => ?_
      have h14 := ((h1.trans h2).trans h3).trans h4
      cases hp : isPartS (Lib.cut s [58]).1 with
      | false =>
        simp (maxSteps := 400000) only [wE, stepW, footA, makesA, ptrId, pairsOk, footApart, opS, opA, ev, putA, setC, ofConst, ofFlat, List.replicate, List.set, binA, intA, strA, unA, extractA, nilCheckA, bodyA, resultsA, oneOrTup, builtinA, lenA, indexA, minA, loadA, partA, storeA, setCells, fieldA, ptrAdd, AV.cellsOf, AV.one, reduceCtorEq, Nat.reduceAdd, Nat.reduceSub, Nat.reduceEqDiff, Nat.reduceLeDiff, Array.toList, Int.reduceToNat, Int.reduceLE, Int.reduceLT, Int.reduceAdd, Int.reduceNeg, Nat.reduceMul, T43]
        exact ⟨by simp [isNameS, hp], h14.post⟩
      | true =>
        cases htwo : (Lib.cut s [58]).2.2 with
        | false =>
          simp (maxSteps := 400000) only [wE, stepW, footA, makesA, ptrId, pairsOk, footApart, opS, opA, ev, putA, setC, ofConst, ofFlat, List.replicate, List.set, binA, intA, strA, unA, extractA, nilCheckA, bodyA, resultsA, oneOrTup, builtinA, lenA, indexA, minA, loadA, partA, storeA, setCells, fieldA, ptrAdd, AV.cellsOf, AV.one, reduceCtorEq, Nat.reduceAdd, Nat.reduceSub, Nat.reduceEqDiff, Nat.reduceLeDiff, Array.toList, Int.reduceToNat, Int.reduceLE, Int.reduceLT, Int.reduceAdd, Int.reduceNeg, Nat.reduceMul, T43, htwo]
          exact ⟨by simp [isNameS, hp, htwo, ht, h], h14.post⟩
        | true =>
          simp (maxSteps := 400000) only [wE, stepW, footA, makesA, ptrId, pairsOk, footApart, opS, opA, ev, putA, setC, ofConst, ofFlat, List.replicate, List.set, binA, intA, strA, unA, extractA, nilCheckA, bodyA, resultsA, oneOrTup, builtinA, lenA, indexA, minA, loadA, partA, storeA, setCells, fieldA, ptrAdd, AV.cellsOf, AV.one, reduceCtorEq, Nat.reduceAdd, Nat.reduceSub, Nat.reduceEqDiff, Nat.reduceLeDiff, Array.toList, Int.reduceToNat, Int.reduceLE, Int.reduceLT, Int.reduceAdd, Int.reduceNeg, Nat.reduceMul, T43, htwo]
          refine AInv.pureK B73 (isPart_ok G (by omega)) fun H5 h5 => ?_
          simp (maxSteps := 400000) only [wE, stepW, footA, makesA, ptrId, pairsOk, footApart, opS, opA, ev, putA, setC, ofConst, ofFlat, List.replicate, List.set, binA, intA, strA, unA, extractA, nilCheckA, bodyA, resultsA, oneOrTup, builtinA, lenA, indexA, minA, loadA, partA, storeA, setCells, fieldA, ptrAdd, AV.cellsOf, AV.one, reduceCtorEq, Nat.reduceAdd, Nat.reduceSub, Nat.reduceEqDiff, Nat.reduceLeDiff, Array.toList, Int.reduceToNat, Int.reduceLE, Int.reduceLT, Int.reduceAdd, Int.reduceNeg, Nat.reduceMul, T43]
          exact ⟨by simp [isNameS, hp, htwo, ht, h], (h14.trans h5).post⟩

end Go.Ab
