/- New and Where, walked. -/
import Derived.Test.YtebgjmoihhbjjaaGreatDoorW19
import Derived.Lib.Replace
set_option linter.all false
namespace Go.Ab
open Go Go.Lib Go.Proofs

theorem replaceK_len {old new : List UInt8} (h : new.length ≤ old.length) : ∀ (k : Nat) (s : List UInt8), (Lib.replaceK old new k s).length ≤ s.length
  | 0, s => Nat.le_refl _
  | k + 1, s => by
    simp only [Lib.replaceK]
    split
    · exact Nat.le_refl _
    · rename_i hi
      have hge := Lib.index_ge s old
      simp only [beq_iff_eq] at hi
      have hr := Lib.index_room s old (by omega)
      have := replaceK_len h k (s.drop ((Lib.index s old).toNat + old.length))
      simp only [List.length_append, List.length_take, List.length_drop] at this ⊢
      omega
theorem replaceAll_len {old new : List UInt8} (h : new.length ≤ old.length) (s : List UInt8) : (Lib.replaceAll s old new).length ≤ s.length := by
  unfold Lib.replaceAll Lib.replace
  split
  · exact Nat.le_refl _
  · exact replaceK_len h _ _

/-- The text with line ends of one byte, as New makes it. -/
def linesS (text : List UInt8) : List UInt8 := Lib.replaceAll (Lib.replaceAll text [13, 10] [10]) [13] [10]
theorem linesS_len (text : List UInt8) : (linesS text).length ≤ text.length :=
  Nat.le_trans (replaceAll_len (by simp) _) (replaceAll_len (by simp) _)

/-- What is asked of ReplaceAll. -/
structure EnvR (G : Nat → Option (List AV)) : Prop where
  repl : ∀ s a b, s.length ≤ 1000000000 → 1 ≤ a.length → b.length ≤ 2 → PureCall Tryz.prog G 22 [.str s, .str a, .str b] (.str (Lib.replaceAll s a b))
  replB : bodyT Tryz.prog 22 = true

/-- The error of a text that no parser is made of. -/
def newErr (text : List UInt8) : Nat := if 1048576 < text.length then 2 else if isTextS text = true then 0 else 10

def NewPost (text : List UInt8) (H : AHeap) (r : ARes) (H' : AHeap) : Prop :=
  Kept H H' ∧ if newErr text = 0 then ∃ pid ko, r = .ret (.tup [.ptr pid 0, .int .i64 0]) ∧ H.next ≤ pid ∧ H.next ≤ ko ∧ ParAt H' pid ko (linesS text) par0 else r = .ret (.tup [.nilp, .int .i64 (newErr text : Nat)])

set_option maxRecDepth 100000 in
theorem new_ok {G : Nat → Option (List AV)} (E : Env G) (R : EnvR G) (text : List UInt8) (H : AHeap) : ACalls Tryz.prog G 15 [.str text] H (NewPost text H) := by
  refine ACalls.wf fun wf => ?_
  refine ACalls.ret (ACalls.of Tryz.func15 S15_eq R15 N15 rfl rfl ?_)
  by_cases hlong : 1048576 < text.length
  · have d1 : decide ((text.length : Int) > 1048576) = true := by simp; omega
    have hE : newErr text = 2 := by simp [newErr, hlong]
    simp (maxSteps := 400000) only [wE, stepW, footA, makesA, ptrId, pairsOk, footApart, opS, opA, ev, putA, setC, ofConst, ofFlat, List.replicate, List.set, binA, intA, strA, unA, extractA, nilCheckA, bodyA, resultsA, oneOrTup, builtinA, lenA, indexA, minA, loadA, partA, storeA, setCells, fieldA, ptrAdd, AV.cellsOf, AV.one, reduceCtorEq, Nat.reduceAdd, Nat.reduceSub, Nat.reduceEqDiff, Nat.reduceLeDiff, Array.toList, Int.reduceToNat, Int.reduceLE, Int.reduceLT, Int.reduceAdd, Int.reduceNeg, Nat.reduceMul, S15, N15, R15, T15, d1]
    refine ⟨_, _, Weak.refl G _ _, Kept.refl H, ?_⟩
    rw [hE]
    rfl
  · have d1 : decide ((text.length : Int) > 1048576) = false := by simp; omega
    simp (maxSteps := 400000) only [wE, stepW, footA, makesA, ptrId, pairsOk, footApart, opS, opA, ev, putA, setC, ofConst, ofFlat, List.replicate, List.set, binA, intA, strA, unA, extractA, nilCheckA, bodyA, resultsA, oneOrTup, builtinA, lenA, indexA, minA, loadA, partA, storeA, setCells, fieldA, ptrAdd, AV.cellsOf, AV.one, reduceCtorEq, Nat.reduceAdd, Nat.reduceSub, Nat.reduceEqDiff, Nat.reduceLeDiff, Array.toList, Int.reduceToNat, Int.reduceLE, Int.reduceLT, Int.reduceAdd, Int.reduceNeg, Nat.reduceMul, S15, N15, R15, T15, d1]
    refine AInv.pureK B25 (isText_ok E (by omega)) fun H1 h1 => ?_
    cases ht : isTextS text with
    | false =>
      have hE : newErr text = 10 := by simp [newErr, hlong, ht]
      simp (maxSteps := 400000) only [wE, stepW, footA, makesA, ptrId, pairsOk, footApart, opS, opA, ev, putA, setC, ofConst, ofFlat, List.replicate, List.set, binA, intA, strA, unA, extractA, nilCheckA, bodyA, resultsA, oneOrTup, builtinA, lenA, indexA, minA, loadA, partA, storeA, setCells, fieldA, ptrAdd, AV.cellsOf, AV.one, reduceCtorEq, Nat.reduceAdd, Nat.reduceSub, Nat.reduceEqDiff, Nat.reduceLeDiff, Array.toList, Int.reduceToNat, Int.reduceLE, Int.reduceLT, Int.reduceAdd, Int.reduceNeg, Nat.reduceMul, T15, ht]
      refine ⟨_, _, Weak.refl G _ _, h1.kept, ?_⟩
      rw [hE]
      rfl
    | true =>
      have hE : newErr text = 0 := by simp [newErr, hlong, ht]
      simp (maxSteps := 400000) only [wE, stepW, footA, makesA, ptrId, pairsOk, footApart, opS, opA, ev, putA, setC, ofConst, ofFlat, List.replicate, List.set, binA, intA, strA, unA, extractA, nilCheckA, bodyA, resultsA, oneOrTup, builtinA, lenA, indexA, minA, loadA, partA, storeA, setCells, fieldA, ptrAdd, AV.cellsOf, AV.one, reduceCtorEq, Nat.reduceAdd, Nat.reduceSub, Nat.reduceEqDiff, Nat.reduceLeDiff, Array.toList, Int.reduceToNat, Int.reduceLE, Int.reduceLT, Int.reduceAdd, Int.reduceNeg, Nat.reduceMul, T15, ht]
      refine AInv.pureK R.replB (R.repl _ _ _ (by omega) (by simp) (by simp)) fun H2 h2 => ?_
      have hl1 := replaceAll_len (old := [13, 10]) (new := [10]) (by simp) text
      simp (maxSteps := 400000) only [wE, stepW, footA, makesA, ptrId, pairsOk, footApart, opS, opA, ev, putA, setC, ofConst, ofFlat, List.replicate, List.set, binA, intA, strA, unA, extractA, nilCheckA, bodyA, resultsA, oneOrTup, builtinA, lenA, indexA, minA, loadA, partA, storeA, setCells, fieldA, ptrAdd, AV.cellsOf, AV.one, reduceCtorEq, Nat.reduceAdd, Nat.reduceSub, Nat.reduceEqDiff, Nat.reduceLeDiff, Array.toList, Int.reduceToNat, Int.reduceLE, Int.reduceLT, Int.reduceAdd, Int.reduceNeg, Nat.reduceMul, T15]
      refine AInv.pureK R.replB (R.repl _ _ _ (by omega) (by simp) (by simp)) fun H3 h3 => ?_
      simp (maxSteps := 400000) only [wE, stepW, footA, makesA, ptrId, pairsOk, footApart, opS, opA, ev, putA, setC, ofConst, ofFlat, List.replicate, List.set, binA, intA, strA, unA, extractA, nilCheckA, bodyA, resultsA, oneOrTup, builtinA, lenA, indexA, minA, loadA, partA, storeA, setCells, fieldA, ptrAdd, AV.cellsOf, AV.one, reduceCtorEq, Nat.reduceAdd, Nat.reduceSub, Nat.reduceEqDiff, Nat.reduceLeDiff, Array.toList, Int.reduceToNat, Int.reduceLE, Int.reduceLT, Int.reduceAdd, Int.reduceNeg, Nat.reduceMul, T15, buildA, fillA, AV.boxable]
      have hK := ((h1.trans h2).trans h3)
      have hKn := hK.1
      generalize hX : AHeap.allocAt _ (H3.next + 1) _ = X
      have x0 : X.get (H3.next + 1) = some (.cells 54 [.str (linesS text), .int .i64 0, .int .i64 0, .int .i64 1, .int .i64 1, .int .i64 0, .int .i64 1, .int .i64 1, .nils, .bool false, .nilp, .int .i64 0]) := by rw [← hX, AHeap.get_allocAt_same]; rfl
      have xn : X.next = H3.next + 2 := by rw [← hX]; simp only [AHeap.next_allocAt, AHeap.next_set]; omega
      have xo : ∀ j, j < H.next → X.get j = H.get j := fun j hj => by rw [← hX, AHeap.get_allocAt_ne _ _ (by omega), AHeap.get_set_ne _ _ (by omega), AHeap.get_allocAt_ne _ _ (by omega), hK.2]
      obtain ⟨Y, hw, y0, y1, yn, yo⟩ := Weak.nilField G [.str (linesS text), .int .i64 0, .int .i64 0, .int .i64 1, .int .i64 1, .int .i64 0, .int .i64 1, .int .i64 1, .slc X.next 0, .bool false, .nilp, .int .i64 0] x0 (by omega) 9 1 ⟨.same _, .same _, .same _, .same _, .same _, .same _, .same _, .same _, .nil _ rfl, .same _, .same _, .same _, trivial⟩
      refine ⟨_, Y, hw _, ⟨by omega, fun j hj => by rw [yo j (by omega) (by omega)]; exact xo j hj⟩, ?_⟩
      rw [hE, if_pos rfl]
      exact ⟨H3.next + 1, X.next, rfl, by omega, by omega, 0, fun _ => rfl, by omega, ⟨.nilp, y0, rfl⟩, y1⟩

theorem where_ok {G : Nat → Option (List AV)} {H : AHeap} {pid ko : Nat} {s : List UInt8} {q : Par} (hp : ParAt H pid ko s q) :
    ACalls Tryz.prog G 19 [.ptr pid 0] H fun r H' => r = .ret (.tup [.int .i64 q.last.2.1, .int .i64 q.last.2.2]) ∧ Keeps H H' := by
  obtain ⟨i, hi, hpk, ⟨em, hpo, hem⟩, hro⟩ := hp
  refine ACalls.keep (ACalls.of Tryz.func19 S19_eq R19 N19 rfl rfl ?_)
  simp (maxSteps := 400000) only [wE, stepW, footA, makesA, ptrId, pairsOk, footApart, opS, opA, ev, putA, setC, ofConst, ofFlat, List.replicate, List.set, binA, intA, strA, unA, extractA, nilCheckA, bodyA, resultsA, oneOrTup, builtinA, lenA, indexA, minA, loadA, partA, storeA, setCells, fieldA, ptrAdd, AV.cellsOf, AV.one, reduceCtorEq, Nat.reduceAdd, Nat.reduceSub, Nat.reduceEqDiff, Nat.reduceLeDiff, Array.toList, Int.reduceToNat, Int.reduceLE, Int.reduceLT, Int.reduceAdd, Int.reduceNeg, Nat.reduceMul, S19, N19, R19, T19, eqNeq]
  refine drawW_fixed mixedOrders L19_3_eq P19_3_eq ?_
  simp (maxSteps := 400000) only [wE, stepW, footA, makesA, ptrId, pairsOk, footApart, opS, opA, ev, putA, setC, ofConst, ofFlat, List.replicate, List.set, binA, intA, strA, unA, extractA, nilCheckA, bodyA, resultsA, oneOrTup, builtinA, lenA, indexA, minA, loadA, partA, storeA, setCells, fieldA, ptrAdd, AV.cellsOf, AV.one, reduceCtorEq, Nat.reduceAdd, Nat.reduceSub, Nat.reduceEqDiff, Nat.reduceLeDiff, Array.toList, Int.reduceToNat, Int.reduceLE, Int.reduceLT, Int.reduceAdd, Int.reduceNeg, Nat.reduceMul, L19_3, T19, hpo]
  exact ⟨Nat.le_refl _, fun _ _ => trivial⟩
end Go.Ab
