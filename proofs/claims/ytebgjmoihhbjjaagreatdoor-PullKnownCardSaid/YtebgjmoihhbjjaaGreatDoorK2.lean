/- Next and Where of a Parser that New did not return. -/
import Derived.Test.YtebgjmoihhbjjaaGreatDoorW20
set_option linter.all false
namespace Go.Ab
open Go Go.Lib Go.Proofs

def zeroPar : List AV := [.str [], .int .i64 0, .int .i64 0, .int .i64 0, .int .i64 0, .int .i64 0, .int .i64 0, .int .i64 0, .nils, .bool false, .nilp, .int .i64 0]
def zeroEv : AV := .agg [.int .i64 0, .str [], .str [], .nils, .int .i64 0, .int .i64 0]

set_option maxRecDepth 100000 in
theorem where_nil {G : Nat → Option (List AV)} (H : AHeap) : ACalls Tryz.prog G 19 [.nilp] H fun r H' => r = .ret (.tup [.int .i64 0, .int .i64 0]) ∧ Kept H H' := by
  refine ACalls.of Tryz.func19 S19_eq R19 N19 rfl rfl ?_
  simp (maxSteps := 400000) only [wE, stepW, footA, makesA, ptrId, pairsOk, footApart, opS, opA, ev, putA, setC, ofConst, ofFlat, List.replicate, List.set, binA, intA, strA, unA, extractA, nilCheckA, bodyA, resultsA, oneOrTup, builtinA, lenA, indexA, minA, loadA, partA, storeA, setCells, fieldA, ptrAdd, AV.cellsOf, AV.one, reduceCtorEq, Nat.reduceAdd, Nat.reduceSub, Nat.reduceEqDiff, Nat.reduceLeDiff, Array.toList, Int.reduceToNat, Int.reduceLE, Int.reduceLT, Int.reduceAdd, Int.reduceNeg, Nat.reduceMul, S19, N19, R19, T19, eqNeq]
  exact Kept.refl H
set_option maxRecDepth 100000 in
theorem where_zero {G : Nat → Option (List AV)} {H : AHeap} {pid : Nat} (hp : H.get pid = some (.cells 54 zeroPar)) : ACalls Tryz.prog G 19 [.ptr pid 0] H fun r H' => r = .ret (.tup [.int .i64 0, .int .i64 0]) ∧ Kept H H' := by
  unfold zeroPar at hp
  refine ACalls.of Tryz.func19 S19_eq R19 N19 rfl rfl ?_
  simp (maxSteps := 400000) only [wE, stepW, footA, makesA, ptrId, pairsOk, footApart, opS, opA, ev, putA, setC, ofConst, ofFlat, List.replicate, List.set, binA, intA, strA, unA, extractA, nilCheckA, bodyA, resultsA, oneOrTup, builtinA, lenA, indexA, minA, loadA, partA, storeA, setCells, fieldA, ptrAdd, AV.cellsOf, AV.one, reduceCtorEq, Nat.reduceAdd, Nat.reduceSub, Nat.reduceEqDiff, Nat.reduceLeDiff, Array.toList, Int.reduceToNat, Int.reduceLE, Int.reduceLT, Int.reduceAdd, Int.reduceNeg, Nat.reduceMul, S19, N19, R19, T19, eqNeq]
  refine drawW_fixed mixedOrders L19_3_eq P19_3_eq ?_
  simp (maxSteps := 400000) only [wE, stepW, footA, makesA, ptrId, pairsOk, footApart, opS, opA, ev, putA, setC, ofConst, ofFlat, List.replicate, List.set, binA, intA, strA, unA, extractA, nilCheckA, bodyA, resultsA, oneOrTup, builtinA, lenA, indexA, minA, loadA, partA, storeA, setCells, fieldA, ptrAdd, AV.cellsOf, AV.one, reduceCtorEq, Nat.reduceAdd, Nat.reduceSub, Nat.reduceEqDiff, Nat.reduceLeDiff, Array.toList, Int.reduceToNat, Int.reduceLE, Int.reduceLT, Int.reduceAdd, Int.reduceNeg, Nat.reduceMul, L19_3, T19, hp]
  exact Kept.refl H

set_option maxRecDepth 100000 in
set_option maxHeartbeats 4000000 in
theorem next_nil {G : Nat → Option (List AV)} (H : AHeap) : ACalls Tryz.prog G 21 [.nilp] H fun r H' => r = .ret (.tup [zeroEv, .bool false, .int .i64 9]) ∧ Kept H H' := by
  refine ACalls.of_defer Tryz.func21 S21_eq B33 R21 N21 rfl rfl ?_
  have b1 : (H.next = H.next + 1) = False := by simp
  have b2 : (H.next = H.next + 1 + 1) = False := by simp; omega
  have b3 : (H.next = H.next + 1 + 1 + 1) = False := by simp; omega
  have b4 : (H.next + 1 = H.next + 1 + 1) = False := by simp
  have b5 : (H.next + 1 = H.next + 1 + 1 + 1) = False := by simp
  have b6 : (H.next + 1 + 1 = H.next + 1 + 1 + 1) = False := by simp
  have r1 : (H.next + 1 = H.next) = False := by simp
  have r2 : (H.next + 1 + 1 = H.next) = False := by simp; omega
  have r3 : (H.next + 1 + 1 + 1 = H.next) = False := by simp; omega
  have r4 : (H.next + 1 + 1 = H.next + 1) = False := by simp
  have r5 : (H.next + 1 + 1 + 1 = H.next + 1) = False := by simp; omega
  have r6 : (H.next + 1 + 1 + 1 = H.next + 1 + 1) = False := by simp
  simp (maxSteps := 400000) only [wE, stepW, footA, makesA, ptrId, pairsOk, footApart, opS, opA, ev, putA, setC, ofConst, ofFlat, List.replicate, List.set, binA, intA, strA, unA, extractA, nilCheckA, bodyA, resultsA, oneOrTup, builtinA, lenA, indexA, minA, loadA, partA, storeA, setCells, fieldA, ptrAdd, AV.cellsOf, AV.one, reduceCtorEq, Nat.reduceAdd, Nat.reduceSub, Nat.reduceEqDiff, Nat.reduceLeDiff, Array.toList, Int.reduceToNat, Int.reduceLE, Int.reduceLT, Int.reduceAdd, Int.reduceNeg, Nat.reduceMul, S21, N21, R21, T21, AV.boxable, eqNeq, b1, b2, b3, b4, b5, b6, r1, r2, r3, r4, r5, r6, buildA, fillA]
  refine ⟨rfl, by simp only [AHeap.next_set, AHeap.next_allocAt]; omega, fun j hj => ?_⟩
  rw [AHeap.get_set_ne _ _ (by omega), AHeap.get_set_ne _ _ (by omega), AHeap.get_set_ne _ _ (by omega), AHeap.get_allocAt_ne _ _ (by omega), AHeap.get_allocAt_ne _ _ (by omega), AHeap.get_allocAt_ne _ _ (by omega), AHeap.get_allocAt_ne _ _ (by omega)]

set_option maxRecDepth 100000 in
set_option maxHeartbeats 4000000 in
theorem next_zero {G : Nat → Option (List AV)} {H : AHeap} {pid : Nat} (hp : H.get pid = some (.cells 54 zeroPar)) : ACalls Tryz.prog G 21 [.ptr pid 0] H fun r H' => r = .ret (.tup [zeroEv, .bool false, .int .i64 9]) ∧ Kept H H' := by
  refine ACalls.wf fun wf => ?_
  have hpn := wf _ _ hp
  unfold zeroPar at hp
  refine ACalls.of_defer Tryz.func21 S21_eq B33 R21 N21 rfl rfl ?_
  have a1 : (pid = H.next) = False := by simp; omega
  have a2 : (pid = H.next + 1) = False := by simp; omega
  have a3 : (pid = H.next + 1 + 1) = False := by simp; omega
  have a4 : (pid = H.next + 1 + 1 + 1) = False := by simp; omega
  have b1 : (H.next = H.next + 1) = False := by simp
  have b2 : (H.next = H.next + 1 + 1) = False := by simp; omega
  have b3 : (H.next = H.next + 1 + 1 + 1) = False := by simp; omega
  have b4 : (H.next + 1 = H.next + 1 + 1) = False := by simp
  have b5 : (H.next + 1 = H.next + 1 + 1 + 1) = False := by simp
  have b6 : (H.next + 1 + 1 = H.next + 1 + 1 + 1) = False := by simp
  have r1 : (H.next + 1 = H.next) = False := by simp
  have r2 : (H.next + 1 + 1 = H.next) = False := by simp; omega
  have r3 : (H.next + 1 + 1 + 1 = H.next) = False := by simp; omega
  have r4 : (H.next + 1 + 1 = H.next + 1) = False := by simp
  have r5 : (H.next + 1 + 1 + 1 = H.next + 1) = False := by simp; omega
  have r6 : (H.next + 1 + 1 + 1 = H.next + 1 + 1) = False := by simp
  simp (maxSteps := 400000) only [wE, stepW, footA, makesA, ptrId, pairsOk, footApart, opS, opA, ev, putA, setC, ofConst, ofFlat, List.replicate, List.set, binA, intA, strA, unA, extractA, nilCheckA, bodyA, resultsA, oneOrTup, builtinA, lenA, indexA, minA, loadA, partA, storeA, setCells, fieldA, ptrAdd, AV.cellsOf, AV.one, reduceCtorEq, Nat.reduceAdd, Nat.reduceSub, Nat.reduceEqDiff, Nat.reduceLeDiff, Array.toList, Int.reduceToNat, Int.reduceLE, Int.reduceLT, Int.reduceAdd, Int.reduceNeg, Nat.reduceMul, S21, N21, R21, T21, AV.boxable, eqNeq, a1, a2, a3, a4, b1, b2, b3, b4, b5, b6, r1, r2, r3, r4, r5, r6, buildA, fillA, hp, beq_self_eq_true]
  refine ⟨rfl, by simp only [AHeap.next_set, AHeap.next_allocAt]; omega, fun j hj => ?_⟩
  rw [AHeap.get_set_ne _ _ (by omega), AHeap.get_set_ne _ _ (by omega), AHeap.get_set_ne _ _ (by omega), AHeap.get_allocAt_ne _ _ (by omega), AHeap.get_allocAt_ne _ _ (by omega), AHeap.get_allocAt_ne _ _ (by omega), AHeap.get_allocAt_ne _ _ (by omega)]
end Go.Ab
