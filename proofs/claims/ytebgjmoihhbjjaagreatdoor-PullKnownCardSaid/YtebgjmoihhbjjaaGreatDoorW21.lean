/- All, walked. -/
import Derived.Test.YtebgjmoihhbjjaaGreatDoorW20
set_option linter.all false
namespace Go.Ab
open Go Go.Lib Go.Proofs

theorem allF_fuel {s : List UInt8} : ∀ (f g : Nat) (q : Par) (l : List Ev), q.p.i ≤ s.length → potS s q < f → potS s q < g → allF f s q l = allF g s q l
  | 0, _, _, _, _, h, _ => absurd h (by omega)
  | _, 0, _, _, _, _, h => absurd h (by omega)
  | f + 1, g + 1, q, l, hi, hf, hg => by
    have hb := nextS_bound hi
    simp only [allF]
    split
    · rfl
    split
    · rfl
    · rename_i h1 h2
      have := hb.2 (by simpa using h2)
      exact allF_fuel f g _ _ hb.1 (by omega) (by omega)
def allL (s : List UInt8) (q : Par) (l : List Ev) : List Ev × Nat × Nat × Nat := allF (potS s q + 1) s q l
theorem allL_step {s : List UInt8} {q : Par} (l : List Ev) (hi : q.p.i ≤ s.length) : allL s q l =
    if (nextS s q).1.2.2 ≠ 0 then ([], (nextS s q).2.last.2.1, (nextS s q).2.last.2.2, (nextS s q).1.2.2)
    else if (nextS s q).1.2.1 = false then (l, 0, 0, 0) else allL s (nextS s q).2 (l ++ [(nextS s q).1.1]) := by
  have hb := nextS_bound hi
  conv => lhs; unfold allL; simp only [allF]
  split
  · rfl
  split
  · rfl
  · rename_i h1 h2
    have := hb.2 (by simpa using h2)
    exact allF_fuel _ _ _ _ hb.1 (by omega) (by omega)

/-- All, as it is. -/
def all2S (text : List UInt8) : List Ev × Nat × Nat × Nat := if newErr text = 0 then allL (linesS text) par0 [] else ([], 0, 0, newErr text)

def evC (x : Ev) : List AV := [.int .i64 x.kind, .str x.name, .str x.text, .lst x.attrs.length (attrsA x.attrs), .int .i64 x.line, .int .i64 x.col]
def evsA (l : List Ev) : List AV := l.flatMap evC
theorem evsA_len : ∀ (l : List Ev), (evsA l).length = l.length * 6
  | [] => rfl
  | a :: l => by
    have := evsA_len l
    simp only [evsA, List.flatMap_cons, List.length_append, evC, List.length_cons, List.length_nil] at this ⊢
    omega

theorem ParAt.same {H X : AHeap} {pid ko : Nat} {s : List UInt8} {q : Par} (h : ParAt H pid ko s q) (wf : ∀ k o, H.get k = some o → k < H.next) (hX : ∀ j, j < H.next → X.get j = H.get j) : ParAt X pid ko s q := by
  obtain ⟨i, h1, h2, ⟨em, h3, h4⟩, h5⟩ := h
  refine ⟨i, h1, h2, ⟨em, (hX _ (wf _ _ h3)).trans h3, ?_⟩, (hX _ (wf _ _ h5)).trans h5⟩
  revert h4
  unfold EmAt
  simp only
  cases q.p.empty with
  | none => exact id
  | some z =>
    rintro ⟨k1, ke, k2, k3, k4⟩
    exact ⟨k1, ke, k2, k3, (hX _ (wf _ _ k4)).trans k4⟩

theorem ParAt.same2 {H X : AHeap} {pid ko m : Nat} {s : List UInt8} {q : Par} {re : TypeId} {sz : Nat} {cs : List AV} (h : ParAt H pid ko s q) (wf : ∀ k o, H.get k = some o → k < H.next) (hm : H.get m = some (.row re sz cs)) (hk : ko ≠ m) (hX : ∀ j, j < H.next → j ≠ m → X.get j = H.get j) : ParAt X pid ko s q := by
  obtain ⟨i, h1, h2, ⟨em, h3, h4⟩, h5⟩ := h
  refine ⟨i, h1, h2, ⟨em, (hX _ (wf _ _ h3) fun e => by subst e; rw [h3] at hm; cases hm).trans h3, ?_⟩, (hX _ (wf _ _ h5) hk).trans h5⟩
  revert h4
  unfold EmAt
  simp only
  cases q.p.empty with
  | none => exact id
  | some z =>
    rintro ⟨k1, ke, k2, k3, k4⟩
    exact ⟨k1, ke, k2, k3, (hX _ (wf _ _ k4) fun e => by subst e; rw [k4] at hm; cases hm).trans k4⟩

def AllAt (s : List UInt8) (R : List Ev × Nat × Nat × Nat) (pid : Nat) (H : AHeap) (x : Nat × Nat × Par × List Ev × AHeap) : Prop :=
  ParOk s x.2.2.1 ∧ ParAt x.2.2.2.2 pid x.1 s x.2.2.1 ∧ allL s x.2.2.1 x.2.2.2.1 = R ∧ x.2.2.2.1.length + potS s x.2.2.1 ≤ s.length + 1 ∧
  x.2.2.2.2.get x.2.1 = some (.row 39 6 (evsA x.2.2.2.1)) ∧ H.next ≤ pid ∧ H.next ≤ x.1 ∧ H.next ≤ x.2.1 ∧ x.2.1 < x.2.2.2.2.next ∧ x.2.1 ≠ pid ∧ x.2.1 ≠ x.1 ∧ H.next ≤ x.2.2.2.2.next ∧ ∀ j, j < H.next → x.2.2.2.2.get j = H.get j

def allA (x : List Ev × Nat × Nat × Nat) : AV := .tup [.lst x.1.length (evsA x.1), .int .i64 x.2.1, .int .i64 x.2.2.1, .int .i64 x.2.2.2]

theorem Weak.allNil (G : Nat → Option (List AV)) (a b c : Int) (J : AHeap) : Weak G [.tup [.nils, .int .i64 a, .int .i64 b, .int .i64 c]] J [.tup [.lst 0 [], .int .i64 a, .int .i64 b, .int .i64 c]] J :=
  Weak.nilLst ⟨.tup' ⟨.nil _ rfl, .same _, .same _, .same _, trivial⟩, trivial⟩

set_option maxRecDepth 100000 in
theorem all_ok {G : Nat → Option (List AV)} (E : Env G) (B : EnvB G) (P : EnvP G) (R : EnvR G) (text : List UInt8) (H : AHeap) :
    ACalls Tryz.prog G 12 [.str text] H fun r H' => r = .ret (allA (all2S text)) ∧ Kept H H' := by
  refine ACalls.wf fun wf => ?_
  refine ACalls.ret (ACalls.of Tryz.func12 S12_eq R12 N12 rfl rfl ?_)
  simp (maxSteps := 400000) only [wE, stepW, footA, makesA, ptrId, pairsOk, footApart, opS, opA, ev, putA, setC, ofConst, ofFlat, List.replicate, List.set, binA, intA, strA, unA, extractA, nilCheckA, bodyA, resultsA, oneOrTup, builtinA, lenA, indexA, minA, loadA, partA, storeA, setCells, fieldA, ptrAdd, AV.cellsOf, AV.one, reduceCtorEq, Nat.reduceAdd, Nat.reduceSub, Nat.reduceEqDiff, Nat.reduceLeDiff, Array.toList, Int.reduceToNat, Int.reduceLE, Int.reduceLT, Int.reduceAdd, Int.reduceNeg, Nat.reduceMul, S12, N12, R12, T12]
  refine AInv.retK B15 (new_ok E R text H).wfp (fun v J0 hq => ?_) (fun v J0 hq => ?_)
  · obtain ⟨⟨hK0, hq⟩, wf0⟩ := hq
    have k0 := hK0.1
    by_cases hE : newErr text = 0
    · rw [if_pos hE] at hq
      obtain ⟨pid, ko, hv, hpid, hko, hpar⟩ := hq
      cases hv
      have d1 : ((0 : Int) != 0) = false := rfl
      simp (maxSteps := 400000) only [wE, stepW, footA, makesA, ptrId, pairsOk, footApart, opS, opA, ev, putA, setC, ofConst, ofFlat, List.replicate, List.set, binA, intA, strA, unA, extractA, nilCheckA, bodyA, resultsA, oneOrTup, builtinA, lenA, indexA, minA, loadA, partA, storeA, setCells, fieldA, ptrAdd, AV.cellsOf, AV.one, reduceCtorEq, Nat.reduceAdd, Nat.reduceSub, Nat.reduceEqDiff, Nat.reduceLeDiff, Array.toList, Int.reduceToNat, Int.reduceLE, Int.reduceLT, Int.reduceAdd, Int.reduceNeg, Nat.reduceMul, T12, d1]
      have hA : all2S text = allL (linesS text) par0 [] := by simp [all2S, hE]
      have hlen : (linesS text).length ≤ 1048576 := by
        have := linesS_len text
        unfold newErr at hE
        split at hE
        · cases hE
        · omega
      generalize linesS text = s at hpar hA hlen
      have hw : Weak G ([.str text, .und, .nils, .int .i64 0, .int .i64 0, .int .i64 0, .ptr pid 0] ++ List.replicate 34 .und) J0 ([.str text, .und, .slc J0.next 0, .int .i64 0, .int .i64 0, .int .i64 0, .ptr pid 0] ++ List.replicate 34 .und) ⟨J0.next + 1, fun j => if j = J0.next then some (.row 39 6 []) else J0.get j⟩ := by
        refine Weak.nilRow J0.next 39 6 (Nat.le_refl _) (Nat.lt_succ_self _) (by simp) (fun j => ?_) (show Tzs _ _ _ _ _ from ⟨.same _, .und _, .nil _ rfl, .same _, .same _, .same _, .same _, Tzs.refl _⟩)
        by_cases h1 : j = J0.next
        · exact .inl h1
        · cases hg : J0.get j with
          | none => exact .inr (.inl (by simp [h1, hg]))
          | some o => exact .inr (.inr ⟨o, o, rfl, by simp [h1, hg], .same o⟩)
      obtain ⟨pp, hpp⟩ : ∃ o, J0.get pid = some o := by obtain ⟨_, _, _, ⟨_, h, _⟩, _⟩ := hpar; exact ⟨_, h⟩
      obtain ⟨kk, hkk⟩ : ∃ o, J0.get ko = some o := by obtain ⟨_, _, _, _, h⟩ := hpar; exact ⟨_, h⟩
      have hpn := wf0 _ _ hpp
      have hkn := wf0 _ _ hkk
      have hpar2 : ParAt ⟨J0.next + 1, fun j => if j = J0.next then some (.row 39 6 []) else J0.get j⟩ pid ko s par0 := by
        obtain ⟨i, h1, h2, ⟨em, h3, h4⟩, h5⟩ := hpar
        have h4 : em = .nilp := h4
        subst h4
        refine ⟨i, h1, h2, ⟨.nilp, ?_, rfl⟩, ?_⟩
        · simp only [show ¬ pid = J0.next by omega, if_false]; exact h3
        · simp only [show ¬ ko = J0.next by omega, if_false]; exact h5
      refine ATrS.weak ((Weak.of (by simp [Fg]) (HW.refl _)).trans hw) (ATrS.loopK (κ := Nat × Nat × Par × List Ev × AHeap) (fun x => [.str text, .und, .slc x.2.1 x.2.2.2.1.length, .int .i64 0, .int .i64 0, .int .i64 0, .ptr pid 0] ++ List.replicate 34 .und) (fun x => x.2.2.2.2)
        (AllAt s (all2S text) pid H) (fun x => potS s x.2.2.1) ⟨(ko, J0.next, par0, [], _), ⟨par0_ok s, hpar2, hA.symm, by simp [potS, par0], by simp [evsA], hpid, hko, by simp only; omega, by simp only; omega, by simp only; omega, by simp only; omega, by simp only; omega, fun j hj => by simp only [show ¬ j = J0.next by omega, if_false]; exact hK0.2 j hj⟩, by simp [Fg], HW.refl _⟩ ?_)
      clear hpar hpar2 hpp hkk hw
      rintro ⟨kx, m, q, l, J⟩ ⟨hq, hpar, hR, hll, hrow, g1, g2, g3, g4, g5, g6, g7, g8⟩
      simp only at hq hpar hR hll hrow g1 g2 g3 g4 g5 g6 g7 g8
      have hst := allL_step l hq.i
      rw [hR] at hst
      have hnb := nextS_bound hq.i
      have hqn := hq.next
      simp (maxSteps := 400000) only [wE, stepW, footA, makesA, ptrId, pairsOk, footApart, opS, opA, ev, putA, setC, ofConst, ofFlat, List.replicate, List.set, binA, intA, strA, unA, extractA, nilCheckA, bodyA, resultsA, oneOrTup, builtinA, lenA, indexA, minA, loadA, partA, storeA, setCells, fieldA, ptrAdd, AV.cellsOf, AV.one, reduceCtorEq, Nat.reduceAdd, Nat.reduceSub, Nat.reduceEqDiff, Nat.reduceLeDiff, Array.toList, Int.reduceToNat, Int.reduceLE, Int.reduceLT, Int.reduceAdd, Int.reduceNeg, Nat.reduceMul, T12]
      refine AInv.retK B21 (next_ok E B P hpar hq (by omega)).wfp (fun v J1 hv => ?_) (fun v J1 hv => by cases hv.1.1)
      obtain ⟨⟨hv, ko', hpar1, hko1, hn1, hf1⟩, wf1⟩ := hv
      cases hv
      have row1 := (hf1 m g4 g5 g6).trans hrow
      have m1 := wf1 _ _ row1
      have f1 : ∀ j, j < H.next → J1.get j = H.get j := fun j hj => (hf1 j (by omega) (by omega) (by omega)).trans (g8 j hj)
      obtain ⟨kk, hkk⟩ : ∃ o, J1.get ko' = some o := by obtain ⟨_, _, _, _, h⟩ := hpar1; exact ⟨_, h⟩
      have hkn1 := wf1 _ _ hkk
      obtain ⟨pp, hpp⟩ : ∃ o, J1.get pid = some o := by obtain ⟨_, _, _, ⟨_, h, _⟩, _⟩ := hpar1; exact ⟨_, h⟩
      have hpn1 := wf1 _ _ hpp
      generalize nextS s q = r at hst hnb hqn hpar1 ⊢
      obtain ⟨⟨x, ok, e⟩, q'⟩ := r
      simp only at hst hnb hqn hpar1 ⊢
      simp only [evA]
      by_cases he : e = 0
      · subst he
        have de : (((0 : Nat) : Int) != 0) = false := rfl
        rw [if_neg (by simp)] at hst
        cases ok with
        | false =>
          rw [if_pos rfl] at hst
          simp (maxSteps := 400000) only [wE, stepW, footA, makesA, ptrId, pairsOk, footApart, opS, opA, ev, putA, setC, ofConst, ofFlat, List.replicate, List.set, binA, intA, strA, unA, extractA, nilCheckA, bodyA, resultsA, oneOrTup, builtinA, lenA, indexA, minA, loadA, partA, storeA, setCells, fieldA, ptrAdd, AV.cellsOf, AV.one, reduceCtorEq, Nat.reduceAdd, Nat.reduceSub, Nat.reduceEqDiff, Nat.reduceLeDiff, Array.toList, Int.reduceToNat, Int.reduceLE, Int.reduceLT, Int.reduceAdd, Int.reduceNeg, Nat.reduceMul, T12, de]
          refine ⟨_, _, Weak.freezeVal G (j := m) (e := 39) (size := 6) (cs := evsA l) ?_ (by omega) (v' := .tup [.lst l.length (evsA l), .int .i64 0, .int .i64 0, .int .i64 0]) (.tup' ⟨.slc _ _ rfl, .same _, .same _, .same _, trivial⟩), ?_, ?_, fun j hj => ?_⟩
          · rw [AHeap.get_set_ne _ _ (by omega), AHeap.get_allocAt_ne _ _ (by omega)]
            exact row1
          · rw [hst]
            rfl
          · simp only [AHeap.next_del, AHeap.next_set, AHeap.next_allocAt]
            omega
          · rw [AHeap.get_del_ne _ (by omega), AHeap.get_set_ne _ _ (by omega), AHeap.get_allocAt_ne _ _ (by omega)]
            exact f1 j hj
        | true =>
          rw [if_neg (by simp)] at hst
          have hpot := (hnb.2 rfl).2
          have u1 : (J1.next + 1 == m) = false := by simp; omega
          have u2 : (l.length + 1 ≤ maxApp) = True := by simp [maxApp]; omega
          have u3 : (m = J1.next) = False := by simp; omega
          have u4 : (m = J1.next + 1) = False := by simp; omega
          simp (maxSteps := 400000) only [wE, stepW, footA, makesA, ptrId, pairsOk, footApart, opS, opA, ev, putA, setC, ofConst, ofFlat, List.replicate, List.set, binA, intA, strA, unA, extractA, nilCheckA, bodyA, resultsA, oneOrTup, builtinA, lenA, indexA, minA, loadA, partA, storeA, setCells, fieldA, ptrAdd, AV.cellsOf, AV.one, reduceCtorEq, Nat.reduceAdd, Nat.reduceSub, Nat.reduceEqDiff, Nat.reduceLeDiff, Array.toList, Int.reduceToNat, Int.reduceLE, Int.reduceLT, Int.reduceAdd, Int.reduceNeg, Nat.reduceMul, T12, de, row1, u1, u2, u3, u4, appendA, appSrc, AV.isSlc, sliceLit, fillA, zerosA, srcCells, AV.boxable, Nat.le_refl, Nat.reduceLT, evsA_len]
          refine ⟨(ko', J1.next + 1 + 1, q', l ++ [x], _), ⟨hqn, ?_, hst.symm, by simp only [List.length_append, List.length_cons, List.length_nil]; omega, ?_, g1, ?_, by simp only; omega, ?_, by simp only; omega, by simp only; omega, ?_, fun j hj => ?_⟩, by simp only; omega, by simp [Fg], HW.refl _⟩
          · refine hpar1.same2 wf1 row1 (by rcases hko1 with h | h <;> omega) fun j hj hjm => ?_
            have v1 : (j = J1.next) = False := by simp; omega
            have v2 : (j = J1.next + 1) = False := by simp; omega
            have v3 : (j = J1.next + 1 + 1) = False := by simp; omega
            simp only [AHeap.get_allocAt, AHeap.get_set, AHeap.get_del, v1, v2, v3, hjm, if_false]
          · simp [evsA, evC]
          · simp only
            rcases hko1 with h | h <;> omega
          · simp only [AHeap.next_set, AHeap.next_allocAt, AHeap.next_del]
            omega
          · simp only [AHeap.next_set, AHeap.next_allocAt, AHeap.next_del]
            omega
          · have v1 : (j = J1.next) = False := by simp; omega
            have v2 : (j = J1.next + 1) = False := by simp; omega
            have v3 : (j = J1.next + 1 + 1) = False := by simp; omega
            have v4 : (j = m) = False := by simp; omega
            simp only [AHeap.get_allocAt, AHeap.get_set, AHeap.get_del, v1, v2, v3, v4, if_false]
            exact f1 j hj
      · have de : ((e : Int) != 0) = true := by simp; omega
        rw [if_pos he] at hst
        simp (maxSteps := 400000) only [wE, stepW, footA, makesA, ptrId, pairsOk, footApart, opS, opA, ev, putA, setC, ofConst, ofFlat, List.replicate, List.set, binA, intA, strA, unA, extractA, nilCheckA, bodyA, resultsA, oneOrTup, builtinA, lenA, indexA, minA, loadA, partA, storeA, setCells, fieldA, ptrAdd, AV.cellsOf, AV.one, reduceCtorEq, Nat.reduceAdd, Nat.reduceSub, Nat.reduceEqDiff, Nat.reduceLeDiff, Array.toList, Int.reduceToNat, Int.reduceLE, Int.reduceLT, Int.reduceAdd, Int.reduceNeg, Nat.reduceMul, T12, de]
        refine AInv.retK B19 (where_ok (hpar1.same wf1 fun j hj => by rw [AHeap.get_set_ne _ _ (by omega), AHeap.get_allocAt_ne _ _ (by omega)])) (fun v J2 hv => ?_) (fun v J2 hv => by cases hv.1)
        obtain ⟨hv, hK2⟩ := hv
        cases hv
        have k2 := hK2.1
        simp only [AHeap.next_set, AHeap.next_allocAt] at k2
        simp (maxSteps := 400000) only [wE, stepW, footA, makesA, ptrId, pairsOk, footApart, opS, opA, ev, putA, setC, ofConst, ofFlat, List.replicate, List.set, binA, intA, strA, unA, extractA, nilCheckA, bodyA, resultsA, oneOrTup, builtinA, lenA, indexA, minA, loadA, partA, storeA, setCells, fieldA, ptrAdd, AV.cellsOf, AV.one, reduceCtorEq, Nat.reduceAdd, Nat.reduceSub, Nat.reduceEqDiff, Nat.reduceLeDiff, Array.toList, Int.reduceToNat, Int.reduceLE, Int.reduceLT, Int.reduceAdd, Int.reduceNeg, Nat.reduceMul, T12]
        refine ⟨_, _, Weak.allNil G _ _ _ _, ?_, by omega, fun j hj => ?_⟩
        · rw [hst]
          rfl
        · rw [hK2.2, AHeap.get_set_ne _ _ (by omega), AHeap.get_allocAt_ne _ _ (by omega)]
          exact f1 j hj
    · rw [if_neg hE] at hq
      have hv := hq
      cases hv
      have hA : all2S text = ([], 0, 0, newErr text) := by simp [all2S, hE]
      have d1 : (((newErr text : Nat) : Int) != 0) = true := by simp; omega
      simp (maxSteps := 400000) only [wE, stepW, footA, makesA, ptrId, pairsOk, footApart, opS, opA, ev, putA, setC, ofConst, ofFlat, List.replicate, List.set, binA, intA, strA, unA, extractA, nilCheckA, bodyA, resultsA, oneOrTup, builtinA, lenA, indexA, minA, loadA, partA, storeA, setCells, fieldA, ptrAdd, AV.cellsOf, AV.one, reduceCtorEq, Nat.reduceAdd, Nat.reduceSub, Nat.reduceEqDiff, Nat.reduceLeDiff, Array.toList, Int.reduceToNat, Int.reduceLE, Int.reduceLT, Int.reduceAdd, Int.reduceNeg, Nat.reduceMul, T12, d1]
      refine ⟨_, _, Weak.allNil G _ _ _ _, ?_, hK0⟩
      rw [hA]
      rfl
  · obtain ⟨⟨_, hq⟩, _⟩ := hq
    split at hq
    · obtain ⟨_, _, h, _⟩ := hq
      cases h
    · cases hq
end Go.Ab
