/- PullDeep: at most 200 elements are open in one another, and a document has at most MaxText bytes: All returns the error of length where there are more, at its place, and no error where there are not. Conditions: those that the given row and card bear, and no others. -/
import Derived.Test.YtebgjmoihhbjjaaGreatDoorD2
import Derived.Test.YtebgjmoihhbjjaaGreatDoorW31
import Derived.Test.YtebgjmoihhbjjaaGreatDoorCards
set_option linter.all false
namespace Go.Proofs.YtebgjmoihhbjjaaGreatDoor
open Go Go.Ab Go.ChangeShapes Go.WideShapes Go.ChangeAt Go.RowKit
open Go.ChangeMaps (open_string shut_string)

set_option maxRecDepth 100000 in
theorem deep_lifted (os : Os) (started : os.Started) (H : Type) (enc : TypeId × Value → H) :
    ReturnsInHanded {} Tryz.checked os 9 .any (fun w args => (Rows.pullDeepSpec.pre enc Tryz.prog Tryz.f9 Rows.pullDeepRow.domain false w args ∧ laidMetH Tryz.prog Rows.pullDeepRow.laid w) ∧ sizedMet enc Tryz.prog Tryz.f9 (OpenSpec.ofChange Rows.pullDeepSpec) false w args)
      (Rows.pullDeepSpec.post enc Tryz.prog Tryz.f9 false true false false) := by
  refine returns_and_shaped (C := Tryz.checked) (X := fun w _ => laidMetH Tryz.prog laidAll w) (fun _ _ _ hh h => laid_heap hh h) own started (by kernel_rfl) Tryz.func9
    (ChangeSpec.witness_shaped (enc := enc) (C := Tryz.checked) (os := os) (X := fun w _ => laidMetH Tryz.prog laidAll w) false (W0 os) #[.int .u8 0, .bool false, .int .u8 0] 8 (World.laidAll_os _ _ _)
      (W0_shaped os _) (by kernel_rfl) (by kernel_rfl) (by kernel_rfl) (W0_met os _)) ?_
  intro W base args ds gs before hval0 hW hL hsh
  have hval : ∀ (j : Nat) t v, Tryz.f9.params[j]? = some t → args[j]? = some v → Value.okWide Tryz.prog W .any base t v := hval0
  have hW' := hW
  obtain ⟨p, q, hA0, hV, rfl, _, _⟩ := hW
  have hA : DataW.TrodAll enc Tryz.prog W 0 (fun _ => true) true Tryz.f9.params.toList args.toList ds p := hA0
  rw [Tryz.params9] at hA hval
  obtain ⟨v0, v1, v2, d0, d1, d2, p0, p1, p2, rfl, rfl, rfl, h0, h1, h2⟩ := trodAll_three hA
  obtain ⟨rfl, rfl⟩ := trodVars_none hV
  obtain ⟨n0, rfl, rfl, rfl, wn0⟩ := open_int Tryz.underlying5 (hval 0 5 v0 rfl rfl) h0
  obtain ⟨b1, rfl, rfl, rfl⟩ := open_bool Tryz.underlying4 (hval 1 4 v1 rfl rfl) h1
  obtain ⟨n2, rfl, rfl, rfl, wn2⟩ := open_int Tryz.underlying5 (hval 2 5 v2 rfl rfl) h2
  rw [laidPlain] at hL
  have g := start_glob hL hsh
  have F := start_fold hL
  refine (law_calls (vs := [.int .u8 n0, .bool b1, .int .u8 n2]) ⟨rfl, fun i x y hx hy => ?_⟩ fun H => by obtain ⟨k0, rfl, e0⟩ := u8_nat wn0; obtain ⟨k2, rfl, e2⟩ := u8_nat wn2; exact deep_ok (theEnv g F) (envB _) (theEnvP g) (theEnvR g) k0 k2 e0 e2 b1 H).mono ?_
  · match i, hx, hy with
    | 0, hx, hy =>
      simp at hx hy
      subst hx; subst hy
      exact .int _ _
    | 1, hx, hy =>
      simp at hx hy
      subst hx; subst hy
      exact .bool _
    | 2, hx, hy =>
      simp at hx hy
      subst hx; subst hy
      exact .int _ _
  rintro e W' ⟨rfl, bel⟩
  refine ⟨_, rfl, _, _, _, [], [], [], hW', ?_, ?_, ?_, bel.frame _, fun h => by cases h⟩
  · exact trodAll_mk1 (shut_bool Tryz.underlying4 true)
  · exact trodAll_mk3 (shut_int Tryz.underlying5 wn0) (shut_bool Tryz.underlying4 b1) (shut_int Tryz.underlying5 wn2)
  · rfl

theorem deep_holds : Rows.PullDeepSaid :=
  OpenClaim.holds_of_wide 9 Tryz.f9 rfl rfl rfl rfl rfl rfl rfl ⟨rfl, rfl, rfl, rfl, rfl⟩ rfl rfl rfl rfl rfl (by kernel_rfl) Tryz.func9 (by kernel_rfl)
    (of_decide_eq_true (by kernel_rfl)) (by unfold Func.isWrapper; rw [if_neg (of_decide_eq_false (by kernel_rfl))]; exact ⟨rfl, rfl⟩)
    (fun os started H enc _ => deep_lifted os started H enc)

theorem pullDeep_holds : Rows.PullDeepCardSaid :=
  Claim7.holds_tied_plain_at .later [] [.data, .data, .data, .data, .sentinel, .sentinel, .data, .data, .pinned, .pinned] true (true, "d6b047ce8161fcf6eb98a7706d57076a614f33bb17366e68afb42a44efcdee5e") true deep_holds (fun _ h => by cases h) (by kernel_rfl) (fun _ h => by cases h) pullDeep_row_tie rfl ⟨rfl, rfl⟩ (by kernel_rfl) rfl
    (fun f fn hf hfn => by
      obtain rfl : f = 9 := Option.some.inj ((show Tryz.prog.funcNamed "chisel/chisellaw11.PullDeep" = some 9 by kernel_rfl).symm.trans hf) |>.symm
      obtain rfl : fn = Tryz.f9 := (Option.some.inj (Tryz.func9.symm.trans hfn)).symm
      exact ⟨by kernel_rfl, fun j t ht => by
        rw [Tryz.params9] at ht
        have hm : t ∈ [5, 4, 5] := by simpa using Array.mem_of_getElem? ht
        have hall : ([5, 4, 5].all fun u => !Tryz.prog.wantsStandIn u) = true := by kernel_rfl
        exact (show Tryz.prog.wantsStandIn t = false by simpa using List.all_eq_true.1 hall t hm)⟩)
    (by kernel_rfl)
#print axioms pullDeep_holds
end Go.Proofs.YtebgjmoihhbjjaaGreatDoor
