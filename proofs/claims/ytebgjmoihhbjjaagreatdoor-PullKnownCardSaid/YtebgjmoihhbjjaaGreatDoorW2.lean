/- The tests of characters, walked. -/
import Derived.Test.YtebgjmoihhbjjaaGreatDoorW1
set_option linter.all false
namespace Go.Ab
open Go Go.Lib Go.Proofs

theorem dT {p : Prop} [Decidable p] (h : p) : decide p = true := decide_eq_true h
theorem dF {p : Prop} [Decidable p] (h : ¬ p) : decide p = false := decide_eq_false h
theorem eT {a b : Int} (h : a = b) : (a == b) = true := by simp [h]
theorem eF {a b : Int} (h : ¬ a = b) : (a == b) = false := by simp [h]
theorem nT {a b : Int} (h : ¬ a = b) : (a != b) = true := by simp [h]
theorem nF {a b : Int} (h : a = b) : (a != b) = false := by simp [h]

theorem isChar_ok (G : Nat → Option (List AV)) (c : Int) : PureCall Tryz.prog G 48 [.int .i32 c] (.bool (isCharS c)) := by
  intro H
  refine ACalls.keep (ACalls.of Tryz.func48 S48_eq R48 N48 rfl rfl ?_)
  have h : c < 9 ∨ c = 9 ∨ c = 10 ∨ c = 13 ∨ (c = 11 ∨ c = 12 ∨ (13 < c ∧ c < 32)) ∨ (32 ≤ c ∧ c ≤ 55295) ∨ (55295 < c ∧ c < 57344) ∨ (57344 ≤ c ∧ c ≤ 65533) ∨ (65533 < c ∧ c < 65536) ∨ (65536 ≤ c ∧ c ≤ 1114111) ∨ 1114111 < c := by omega
  rcases h with h | h | h | h | h | h | h | h | h | h | h <;>
    simp (maxSteps := 400000) (disch := omega) only [dT, dF, eT, eF, nT, nF, wE, stepW, footA, makesA, ptrId, pairsOk, footApart, opS, opA, ev, putA, setC, ofConst, ofFlat, List.replicate, List.set, binA, intA, strA, unA, extractA, nilCheckA, bodyA, resultsA, oneOrTup, builtinA, lenA, indexA, minA, loadA, partA, storeA, setCells, fieldA, ptrAdd, AV.cellsOf, AV.one, reduceCtorEq, Nat.reduceAdd, Nat.reduceSub, Nat.reduceEqDiff, Nat.reduceLeDiff, Array.toList, Int.reduceToNat, Int.reduceLE, Int.reduceLT, Int.reduceAdd, Int.reduceNeg, Nat.reduceMul, S48, N48, R48, T48, isCharS, Bool.or_true, Bool.or_false, Bool.true_or, Bool.false_or, Bool.and_false, Bool.false_and] <;>
    simp

theorem isLetter_ok (G : Nat → Option (List AV)) (c : Int) : PureCall Tryz.prog G 97 [.int .i32 c] (.bool (isLetterS c)) := by
  intro H
  refine ACalls.keep (ACalls.of Tryz.func97 S97_eq R97 N97 rfl rfl ?_)
  have h : c < 65 ∨ (65 ≤ c ∧ c ≤ 90) ∨ (90 < c ∧ c < 95) ∨ c = 95 ∨ c = 96 ∨ (97 ≤ c ∧ c ≤ 122) ∨ (122 < c ∧ c < 192) ∨ c = 215 ∨ c = 247 ∨ (192 ≤ c ∧ ¬ c = 215 ∧ ¬ c = 247) := by omega
  rcases h with h | h | h | h | h | h | h | h | h | h <;>
    simp (maxSteps := 400000) (disch := omega) only [dT, dF, eT, eF, nT, nF, wE, stepW, footA, makesA, ptrId, pairsOk, footApart, opS, opA, ev, putA, setC, ofConst, ofFlat, List.replicate, List.set, binA, intA, strA, unA, extractA, nilCheckA, bodyA, resultsA, oneOrTup, builtinA, lenA, indexA, minA, loadA, partA, storeA, setCells, fieldA, ptrAdd, AV.cellsOf, AV.one, reduceCtorEq, Nat.reduceAdd, Nat.reduceSub, Nat.reduceEqDiff, Nat.reduceLeDiff, Array.toList, Int.reduceToNat, Int.reduceLE, Int.reduceLT, Int.reduceAdd, Int.reduceNeg, Nat.reduceMul, S97, N97, R97, T97, isLetterS, Bool.or_true, Bool.or_false, Bool.true_or, Bool.false_or, Bool.and_false, Bool.false_and] <;>
    simp

theorem entity_ok (G : Nat → Option (List AV)) (l : List UInt8) : PureCall Tryz.prog G 125 [.str l] (.tup [.str (entityS l).1, .bool (entityS l).2]) := by
  intro H
  refine ACalls.keep (ACalls.of Tryz.func125 S125_eq R125 N125 rfl rfl ?_)
  simp (maxSteps := 400000) only [wE, stepW, footA, makesA, ptrId, pairsOk, footApart, opS, opA, ev, putA, setC, ofConst, ofFlat, List.replicate, List.set, binA, intA, strA, unA, extractA, nilCheckA, bodyA, resultsA, oneOrTup, builtinA, lenA, indexA, minA, loadA, partA, storeA, setCells, fieldA, ptrAdd, AV.cellsOf, AV.one, reduceCtorEq, Nat.reduceAdd, Nat.reduceSub, Nat.reduceEqDiff, Nat.reduceLeDiff, Array.toList, Int.reduceToNat, Int.reduceLE, Int.reduceLT, Int.reduceAdd, Int.reduceNeg, Nat.reduceMul, S125, N125, R125, T125]
  repeat' (first | (refine condS.split ?_ ?_ <;> intro _) | (simp (maxSteps := 400000) only [wE, stepW, footA, makesA, ptrId, pairsOk, footApart, opS, opA, ev, putA, setC, ofConst, ofFlat, List.replicate, List.set, binA, intA, strA, unA, extractA, nilCheckA, bodyA, resultsA, oneOrTup, builtinA, lenA, indexA, minA, loadA, partA, storeA, setCells, fieldA, ptrAdd, AV.cellsOf, AV.one, reduceCtorEq, Nat.reduceAdd, Nat.reduceSub, Nat.reduceEqDiff, Nat.reduceLeDiff, Array.toList, Int.reduceToNat, Int.reduceLE, Int.reduceLT, Int.reduceAdd, Int.reduceNeg, Nat.reduceMul, T125]))
  all_goals (simp_all [entityS])
end Go.Ab
