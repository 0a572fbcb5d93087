/- The functions' codes, printed by program: what each operation is, what it asks of types. -/
import Derived.Test.YtebgjmoihhbjjaaGreatDoorProg
import Derived.Test.YtebgjmoihhbjjaaGreatDoorAbC
import Derived.KernelRfl
set_option linter.all false
set_option maxRecDepth 100000
namespace Go.Ab
open Go Go.Proofs
noncomputable def S51 : {x : SC // Tryz.f51.body.map (prepD fun _ => #[]) = some x} := ⟨_, by simp only [Tryz.f51, Option.map, prepD, prepOp, List.map, Option.bind, List.getElem?_toArray, List.getElem?_cons_succ, List.getElem?_cons_zero] <;> rfl⟩
theorem S51_eq : Tryz.f51.body.map prep = some S51.1 := by kernel_rfl
def N51 : Nat := 38
def R51 : List ResultVar := [(.tmp 8), (.tmp 9)]
theorem B51 : bodyT Tryz.prog 51 = true := by kernel_rfl
noncomputable def D57 := drawIn Tryz.f57
noncomputable def L57_6 : {l : List MOp // (D57 6).toList.map (prepOp (D57 6)) = l} := ⟨_, by simp only [D57, drawIn, Tryz.f57, drawOf, cond_true, cond_false, Nat.reduceBEq, Option.getD, Option.map, prepD, prepOp, List.map, Option.bind, List.getElem?_toArray, List.getElem?_cons_succ, List.getElem?_cons_zero] <;> rfl⟩
theorem L57_6_eq : (D57 6).toList.map (prepOp (D57 6)) = L57_6.1 := L57_6.2
theorem P57_6_eq : drawPlan (D57 6) = (some [(0, 10)]) := by kernel_rfl
noncomputable def S57 : {x : SC // Tryz.f57.body.map (prepD D57) = some x} := ⟨_, by simp only [Tryz.f57, Option.map, prepD, prepOp, List.map, Option.bind, List.getElem?_toArray, List.getElem?_cons_succ, List.getElem?_cons_zero] <;> rfl⟩
theorem S57_eq : Tryz.f57.body.map prep = some S57.1 := by kernel_rfl
def N57 : Nat := 41
def R57 : List ResultVar := [(.cell 4 69), (.tmp 5)]
theorem B57 : bodyT Tryz.prog 57 = true := by kernel_rfl
noncomputable def D58 := drawIn Tryz.f58
noncomputable def L58_18 : {l : List MOp // (D58 18).toList.map (prepOp (D58 18)) = l} := ⟨_, by simp only [D58, drawIn, Tryz.f58, drawOf, cond_true, cond_false, Nat.reduceBEq, Option.getD, Option.map, prepD, prepOp, List.map, Option.bind, List.getElem?_toArray, List.getElem?_cons_succ, List.getElem?_cons_zero] <;> rfl⟩
theorem L58_18_eq : (D58 18).toList.map (prepOp (D58 18)) = L58_18.1 := L58_18.2
theorem P58_18_eq : drawPlan (D58 18) = (some [(0, 3)]) := by kernel_rfl
noncomputable def S58 : {x : SC // Tryz.f58.body.map (prepD D58) = some x} := ⟨_, by simp only [Tryz.f58, Option.map, prepD, prepOp, List.map, Option.bind, List.getElem?_toArray, List.getElem?_cons_succ, List.getElem?_cons_zero] <;> rfl⟩
theorem S58_eq : Tryz.f58.body.map prep = some S58.1 := by kernel_rfl
def N58 : Nat := 66
def R58 : List ResultVar := [(.cell 4 69), (.tmp 5)]
theorem B58 : bodyT Tryz.prog 58 = true := by kernel_rfl
noncomputable def D27 := drawIn Tryz.f27
noncomputable def L27_14 : {l : List MOp // (D27 14).toList.map (prepOp (D27 14)) = l} := ⟨_, by simp only [D27, drawIn, Tryz.f27, drawOf, cond_true, cond_false, Nat.reduceBEq, Option.getD, Option.map, prepD, prepOp, List.map, Option.bind, List.getElem?_toArray, List.getElem?_cons_succ, List.getElem?_cons_zero] <;> rfl⟩
theorem L27_14_eq : (D27 14).toList.map (prepOp (D27 14)) = L27_14.1 := L27_14.2
theorem P27_14_eq : drawPlan (D27 14) = (some [(2, 6)]) := by kernel_rfl
noncomputable def S27 : {x : SC // Tryz.f27.body.map (prepD D27) = some x} := ⟨_, by simp only [Tryz.f27, Option.map, prepD, prepOp, List.map, Option.bind, List.getElem?_toArray, List.getElem?_cons_succ, List.getElem?_cons_zero] <;> rfl⟩
theorem S27_eq : Tryz.f27.body.map prep = some S27.1 := by kernel_rfl
def N27 : Nat := 102
def R27 : List ResultVar := [(.cell 4 69), (.tmp 5)]
theorem B27 : bodyT Tryz.prog 27 = true := by kernel_rfl
noncomputable def S31 : {x : SC // Tryz.f31.body.map (prepD fun _ => #[]) = some x} := ⟨_, by simp only [Tryz.f31, Option.map, prepD, prepOp, List.map, Option.bind, List.getElem?_toArray, List.getElem?_cons_succ, List.getElem?_cons_zero] <;> rfl⟩
theorem S31_eq : Tryz.f31.body.map prep = some S31.1 := by kernel_rfl
def N31 : Nat := 29
def R31 : List ResultVar := [(.cell 4 69), (.tmp 5)]
theorem B31 : bodyT Tryz.prog 31 = true := by kernel_rfl
noncomputable def S28 : {x : SC // Tryz.f28.body.map (prepD fun _ => #[]) = some x} := ⟨_, by simp only [Tryz.f28, Option.map, prepD, prepOp, List.map, Option.bind, List.getElem?_toArray, List.getElem?_cons_succ, List.getElem?_cons_zero] <;> rfl⟩
theorem S28_eq : Tryz.f28.body.map prep = some S28.1 := by kernel_rfl
def N28 : Nat := 53
def R28 : List ResultVar := [(.cell 4 69), (.tmp 5)]
theorem B28 : bodyT Tryz.prog 28 = true := by kernel_rfl
noncomputable def D29 := drawIn Tryz.f29
noncomputable def L29_2 : {l : List MOp // (D29 2).toList.map (prepOp (D29 2)) = l} := ⟨_, by simp only [D29, drawIn, Tryz.f29, drawOf, cond_true, cond_false, Nat.reduceBEq, Option.getD, Option.map, prepD, prepOp, List.map, Option.bind, List.getElem?_toArray, List.getElem?_cons_succ, List.getElem?_cons_zero] <;> rfl⟩
theorem L29_2_eq : (D29 2).toList.map (prepOp (D29 2)) = L29_2.1 := L29_2.2
theorem P29_2_eq : drawPlan (D29 2) = (some [(5, 7)]) := by kernel_rfl
noncomputable def S29 : {x : SC // Tryz.f29.body.map (prepD D29) = some x} := ⟨_, by simp only [Tryz.f29, Option.map, prepD, prepOp, List.map, Option.bind, List.getElem?_toArray, List.getElem?_cons_succ, List.getElem?_cons_zero] <;> rfl⟩
theorem S29_eq : Tryz.f29.body.map prep = some S29.1 := by kernel_rfl
def N29 : Nat := 42
def R29 : List ResultVar := []
theorem B29 : bodyT Tryz.prog 29 = true := by kernel_rfl
noncomputable def D59 := drawIn Tryz.f59
noncomputable def L59_10 : {l : List MOp // (D59 10).toList.map (prepOp (D59 10)) = l} := ⟨_, by simp only [D59, drawIn, Tryz.f59, drawOf, cond_true, cond_false, Nat.reduceBEq, Option.getD, Option.map, prepD, prepOp, List.map, Option.bind, List.getElem?_toArray, List.getElem?_cons_succ, List.getElem?_cons_zero] <;> rfl⟩
theorem L59_10_eq : (D59 10).toList.map (prepOp (D59 10)) = L59_10.1 := L59_10.2
theorem P59_10_eq : drawPlan (D59 10) = (some []) := by kernel_rfl
noncomputable def L59_18 : {l : List MOp // (D59 18).toList.map (prepOp (D59 18)) = l} := ⟨_, by simp only [D59, drawIn, Tryz.f59, drawOf, cond_true, cond_false, Nat.reduceBEq, Option.getD, Option.map, prepD, prepOp, List.map, Option.bind, List.getElem?_toArray, List.getElem?_cons_succ, List.getElem?_cons_zero] <;> rfl⟩
theorem L59_18_eq : (D59 18).toList.map (prepOp (D59 18)) = L59_18.1 := L59_18.2
theorem P59_18_eq : drawPlan (D59 18) = (some [(4, 8)]) := by kernel_rfl
noncomputable def S59 : {x : SC // Tryz.f59.body.map (prepD D59) = some x} := ⟨_, by simp only [Tryz.f59, Option.map, prepD, prepOp, List.map, Option.bind, List.getElem?_toArray, List.getElem?_cons_succ, List.getElem?_cons_zero] <;> rfl⟩
theorem S59_eq : Tryz.f59.body.map prep = some S59.1 := by kernel_rfl
def N59 : Nat := 90
def R59 : List ResultVar := [(.tmp 8)]
theorem B59 : bodyT Tryz.prog 59 = true := by kernel_rfl
noncomputable def D32 := drawIn Tryz.f32
noncomputable def L32_7 : {l : List MOp // (D32 7).toList.map (prepOp (D32 7)) = l} := ⟨_, by simp only [D32, drawIn, Tryz.f32, drawOf, cond_true, cond_false, Nat.reduceBEq, Option.getD, Option.map, prepD, prepOp, List.map, Option.bind, List.getElem?_toArray, List.getElem?_cons_succ, List.getElem?_cons_zero] <;> rfl⟩
theorem L32_7_eq : (D32 7).toList.map (prepOp (D32 7)) = L32_7.1 := L32_7.2
theorem P32_7_eq : drawPlan (D32 7) = (some []) := by kernel_rfl
noncomputable def S32 : {x : SC // Tryz.f32.body.map (prepD D32) = some x} := ⟨_, by simp only [Tryz.f32, Option.map, prepD, prepOp, List.map, Option.bind, List.getElem?_toArray, List.getElem?_cons_succ, List.getElem?_cons_zero] <;> rfl⟩
theorem S32_eq : Tryz.f32.body.map prep = some S32.1 := by kernel_rfl
def N32 : Nat := 64
def R32 : List ResultVar := [(.tmp 8)]
theorem B32 : bodyT Tryz.prog 32 = true := by kernel_rfl
noncomputable def S18 : {x : SC // Tryz.f18.body.map (prepD fun _ => #[]) = some x} := ⟨_, by simp only [Tryz.f18, Option.map, prepD, prepOp, List.map, Option.bind, List.getElem?_toArray, List.getElem?_cons_succ, List.getElem?_cons_zero] <;> rfl⟩
theorem S18_eq : Tryz.f18.body.map prep = some S18.1 := by kernel_rfl
def N18 : Nat := 160
def R18 : List ResultVar := [(.cell 2 35)]
theorem B18 : bodyT Tryz.prog 18 = true := by kernel_rfl
noncomputable def D13 := drawIn Tryz.f13
noncomputable def L13_9 : {l : List MOp // (D13 9).toList.map (prepOp (D13 9)) = l} := ⟨_, by simp only [D13, drawIn, Tryz.f13, drawOf, cond_true, cond_false, Nat.reduceBEq, Option.getD, Option.map, prepD, prepOp, List.map, Option.bind, List.getElem?_toArray, List.getElem?_cons_succ, List.getElem?_cons_zero] <;> rfl⟩
theorem L13_9_eq : (D13 9).toList.map (prepOp (D13 9)) = L13_9.1 := L13_9.2
theorem P13_9_eq : drawPlan (D13 9) = (some []) := by kernel_rfl
noncomputable def S13 : {x : SC // Tryz.f13.body.map (prepD D13) = some x} := ⟨_, by simp only [Tryz.f13, Option.map, prepD, prepOp, List.map, Option.bind, List.getElem?_toArray, List.getElem?_cons_succ, List.getElem?_cons_zero] <;> rfl⟩
theorem S13_eq : Tryz.f13.body.map prep = some S13.1 := by kernel_rfl
def N13 : Nat := 36
def R13 : List ResultVar := [(.tmp 2), (.tmp 3), (.tmp 4), (.tmp 5)]
theorem B13 : bodyT Tryz.prog 13 = true := by kernel_rfl
theorem T51 : (strT Tryz.prog 9 = true) ∧ (elemT Tryz.prog 9 = none) ∧ (mapT Tryz.prog 9 = none) := by and_intros <;> kernel_rfl
theorem T57 : (zeroA Tryz.prog 69 = (some (.agg [(.int .i64 0), (.str []), (.str []), .nils, (.int .i64 0), (.int .i64 0), (.int .i64 0), (.bool false), (.bool false), (.bool false), (.bool false)]))) ∧ (layT Tryz.prog 69 = (some ([(.int .i64 0), (.str []), (.str []), .nils, (.int .i64 0), (.int .i64 0), (.int .i64 0), (.bool false), (.bool false), (.bool false), (.bool false)], [(0, 6), (6, 1), (7, 1), (8, 1), (9, 1), (10, 1)]))) ∧ (szT Tryz.prog 69 = (some 11)) ∧ (strT Tryz.prog 9 = true) ∧ (elemT Tryz.prog 9 = none) ∧ (layT Tryz.prog 39 = (some ([(.int .i64 0), (.str []), (.str []), .nils, (.int .i64 0), (.int .i64 0)], [(0, 1), (1, 1), (2, 1), (3, 1), (4, 1), (5, 1)]))) ∧ (fieldT Tryz.prog 69 1 = (some (6, 3))) ∧ (aggT Tryz.prog 3 = (some false)) ∧ (szT Tryz.prog 3 = (some 1)) ∧ (aggT Tryz.prog 69 = (some true)) := by and_intros <;> kernel_rfl
theorem T58 : (zeroA Tryz.prog 69 = (some (.agg [(.int .i64 0), (.str []), (.str []), .nils, (.int .i64 0), (.int .i64 0), (.int .i64 0), (.bool false), (.bool false), (.bool false), (.bool false)]))) ∧ (strT Tryz.prog 9 = true) ∧ (elemT Tryz.prog 9 = none) ∧ (layT Tryz.prog 39 = (some ([(.int .i64 0), (.str []), (.str []), .nils, (.int .i64 0), (.int .i64 0)], [(0, 1), (1, 1), (2, 1), (3, 1), (4, 1), (5, 1)]))) ∧ (layT Tryz.prog 69 = (some ([(.int .i64 0), (.str []), (.str []), .nils, (.int .i64 0), (.int .i64 0), (.int .i64 0), (.bool false), (.bool false), (.bool false), (.bool false)], [(0, 6), (6, 1), (7, 1), (8, 1), (9, 1), (10, 1)]))) ∧ (szT Tryz.prog 69 = (some 11)) ∧ (aggT Tryz.prog 69 = (some true)) ∧ (zeroA Tryz.prog 59 = (some (.agg [(.str []), (.str [])]))) ∧ (szT Tryz.prog 59 = (some 2)) ∧ (fieldT Tryz.prog 69 0 = (some (0, 39))) ∧ (aggT Tryz.prog 39 = (some true)) ∧ (szT Tryz.prog 39 = (some 6)) ∧ (fieldT Tryz.prog 39 3 = (some (3, 37))) ∧ (aggT Tryz.prog 37 = (some false)) ∧ (szT Tryz.prog 37 = (some 1)) ∧ (aggT Tryz.prog 59 = (some true)) ∧ (elemT Tryz.prog 37 = (some 59)) ∧ (rowT Tryz.prog 37 = (some (59, (2, false)))) ∧ (strT Tryz.prog 37 = false) ∧ (fieldT Tryz.prog 69 1 = (some (6, 3))) ∧ (aggT Tryz.prog 3 = (some false)) ∧ (szT Tryz.prog 3 = (some 1)) ∧ (fieldT Tryz.prog 69 2 = (some (7, 4))) ∧ (aggT Tryz.prog 4 = (some false)) ∧ (szT Tryz.prog 4 = (some 1)) := by and_intros <;> kernel_rfl
theorem T27 : (zeroA Tryz.prog 69 = (some (.agg [(.int .i64 0), (.str []), (.str []), .nils, (.int .i64 0), (.int .i64 0), (.int .i64 0), (.bool false), (.bool false), (.bool false), (.bool false)]))) ∧ (layT Tryz.prog 39 = (some ([(.int .i64 0), (.str []), (.str []), .nils, (.int .i64 0), (.int .i64 0)], [(0, 1), (1, 1), (2, 1), (3, 1), (4, 1), (5, 1)]))) ∧ (layT Tryz.prog 69 = (some ([(.int .i64 0), (.str []), (.str []), .nils, (.int .i64 0), (.int .i64 0), (.int .i64 0), (.bool false), (.bool false), (.bool false), (.bool false)], [(0, 6), (6, 1), (7, 1), (8, 1), (9, 1), (10, 1)]))) ∧ (szT Tryz.prog 69 = (some 11)) ∧ (strT Tryz.prog 9 = true) ∧ (elemT Tryz.prog 9 = none) ∧ (mapT Tryz.prog 9 = none) ∧ (aggT Tryz.prog 69 = (some true)) := by and_intros <;> kernel_rfl
theorem T31 : (zeroA Tryz.prog 69 = (some (.agg [(.int .i64 0), (.str []), (.str []), .nils, (.int .i64 0), (.int .i64 0), (.int .i64 0), (.bool false), (.bool false), (.bool false), (.bool false)]))) ∧ (szT Tryz.prog 69 = (some 11)) ∧ (aggT Tryz.prog 69 = (some true)) := by and_intros <;> kernel_rfl
theorem T28 : (zeroA Tryz.prog 69 = (some (.agg [(.int .i64 0), (.str []), (.str []), .nils, (.int .i64 0), (.int .i64 0), (.int .i64 0), (.bool false), (.bool false), (.bool false), (.bool false)]))) ∧ (strT Tryz.prog 9 = true) ∧ (elemT Tryz.prog 9 = none) ∧ (mapT Tryz.prog 9 = none) ∧ (layT Tryz.prog 69 = (some ([(.int .i64 0), (.str []), (.str []), .nils, (.int .i64 0), (.int .i64 0), (.int .i64 0), (.bool false), (.bool false), (.bool false), (.bool false)], [(0, 6), (6, 1), (7, 1), (8, 1), (9, 1), (10, 1)]))) ∧ (szT Tryz.prog 69 = (some 11)) ∧ (layT Tryz.prog 39 = (some ([(.int .i64 0), (.str []), (.str []), .nils, (.int .i64 0), (.int .i64 0)], [(0, 1), (1, 1), (2, 1), (3, 1), (4, 1), (5, 1)]))) ∧ (aggT Tryz.prog 69 = (some true)) := by and_intros <;> kernel_rfl
theorem T29 : (fieldT Tryz.prog 39 4 = (some (4, 3))) ∧ (aggT Tryz.prog 3 = (some false)) ∧ (szT Tryz.prog 3 = (some 1)) ∧ (fieldT Tryz.prog 39 5 = (some (5, 3))) ∧ (fieldT Tryz.prog 67 0 = (some (0, 35))) ∧ (aggT Tryz.prog 35 = (some true)) ∧ (szT Tryz.prog 35 = (some 4)) ∧ (fieldT Tryz.prog 35 0 = (some (0, 23))) ∧ (aggT Tryz.prog 23 = (some false)) ∧ (szT Tryz.prog 23 = (some 1)) ∧ (aggT Tryz.prog 39 = (some true)) ∧ (szT Tryz.prog 39 = (some 6)) ∧ (elemT Tryz.prog 23 = (some 39)) ∧ (zeroA Tryz.prog 39 = (some (.agg [(.int .i64 0), (.str []), (.str []), .nils, (.int .i64 0), (.int .i64 0)]))) ∧ (rowT Tryz.prog 23 = (some (39, (6, false)))) ∧ (strT Tryz.prog 23 = false) ∧ (fieldT Tryz.prog 35 1 = (some (1, 33))) ∧ (aggT Tryz.prog 33 = (some false)) ∧ (szT Tryz.prog 33 = (some 1)) ∧ (elemT Tryz.prog 33 = (some 3)) ∧ (zeroA Tryz.prog 3 = (some (.int .i64 0))) ∧ (rowT Tryz.prog 33 = (some (3, (1, false)))) ∧ (strT Tryz.prog 33 = false) := by and_intros <;> kernel_rfl
theorem T59 : (fieldT Tryz.prog 67 1 = (some (4, 45))) ∧ (aggT Tryz.prog 45 = (some false)) ∧ (szT Tryz.prog 45 = (some 1)) ∧ (strT Tryz.prog 45 = false) ∧ (elemT Tryz.prog 45 = (some 9)) ∧ (mapT Tryz.prog 45 = none) ∧ (fieldT Tryz.prog 67 2 = (some (5, 4))) ∧ (aggT Tryz.prog 4 = (some false)) ∧ (szT Tryz.prog 4 = (some 1)) ∧ (fieldT Tryz.prog 69 0 = (some (0, 39))) ∧ (aggT Tryz.prog 39 = (some true)) ∧ (szT Tryz.prog 39 = (some 6)) ∧ (fieldT Tryz.prog 39 3 = (some (3, 37))) ∧ (aggT Tryz.prog 37 = (some false)) ∧ (szT Tryz.prog 37 = (some 1)) ∧ (strT Tryz.prog 37 = false) ∧ (elemT Tryz.prog 37 = (some 59)) ∧ (mapT Tryz.prog 37 = none) ∧ (szT Tryz.prog 59 = (some 2)) ∧ (fieldT Tryz.prog 59 0 = (some (0, 9))) ∧ (aggT Tryz.prog 9 = (some false)) ∧ (szT Tryz.prog 9 = (some 1)) ∧ (fieldT Tryz.prog 69 1 = (some (6, 3))) ∧ (aggT Tryz.prog 3 = (some false)) ∧ (szT Tryz.prog 3 = (some 1)) ∧ (fieldT Tryz.prog 69 2 = (some (7, 4))) ∧ (fieldT Tryz.prog 39 1 = (some (1, 9))) ∧ (layT Tryz.prog 39 = (some ([(.int .i64 0), (.str []), (.str []), .nils, (.int .i64 0), (.int .i64 0)], [(0, 1), (1, 1), (2, 1), (3, 1), (4, 1), (5, 1)]))) ∧ (zeroA Tryz.prog 9 = (some (.str []))) ∧ (rowT Tryz.prog 45 = (some (9, (1, false)))) := by and_intros <;> kernel_rfl
theorem T32 : (fieldT Tryz.prog 69 5 = (some (10, 4))) ∧ (aggT Tryz.prog 4 = (some false)) ∧ (szT Tryz.prog 4 = (some 1)) ∧ (fieldT Tryz.prog 69 0 = (some (0, 39))) ∧ (aggT Tryz.prog 39 = (some true)) ∧ (szT Tryz.prog 39 = (some 6)) ∧ (fieldT Tryz.prog 39 0 = (some (0, 3))) ∧ (aggT Tryz.prog 3 = (some false)) ∧ (szT Tryz.prog 3 = (some 1)) ∧ (aggT Tryz.prog 69 = (some true)) ∧ (szT Tryz.prog 69 = (some 11)) ∧ (fieldT Tryz.prog 67 1 = (some (4, 45))) ∧ (aggT Tryz.prog 45 = (some false)) ∧ (szT Tryz.prog 45 = (some 1)) ∧ (strT Tryz.prog 45 = false) ∧ (elemT Tryz.prog 45 = (some 9)) ∧ (mapT Tryz.prog 45 = none) ∧ (szT Tryz.prog 9 = (some 1)) ∧ (aggT Tryz.prog 9 = (some false)) ∧ (fieldT Tryz.prog 39 1 = (some (1, 9))) ∧ (fieldT Tryz.prog 69 1 = (some (6, 3))) := by and_intros <;> kernel_rfl
theorem T18 : (zeroA Tryz.prog 35 = (some (.agg [.nils, .nils, (.int .i64 0), (.int .i64 0)]))) ∧ (zeroA Tryz.prog 67 = (some (.agg [.nils, .nils, (.int .i64 0), (.int .i64 0), .nils, (.bool false)]))) ∧ (strT Tryz.prog 9 = true) ∧ (elemT Tryz.prog 9 = none) ∧ (mapT Tryz.prog 9 = none) ∧ (fieldT Tryz.prog 67 1 = (some (4, 45))) ∧ (aggT Tryz.prog 45 = (some false)) ∧ (szT Tryz.prog 45 = (some 1)) ∧ (strT Tryz.prog 45 = false) ∧ (elemT Tryz.prog 45 = (some 9)) ∧ (mapT Tryz.prog 45 = none) ∧ (zeroA Tryz.prog 69 = (some (.agg [(.int .i64 0), (.str []), (.str []), .nils, (.int .i64 0), (.int .i64 0), (.int .i64 0), (.bool false), (.bool false), (.bool false), (.bool false)]))) ∧ (szT Tryz.prog 69 = (some 11)) ∧ (fieldT Tryz.prog 67 0 = (some (0, 35))) ∧ (aggT Tryz.prog 35 = (some true)) ∧ (szT Tryz.prog 35 = (some 4)) ∧ (fieldT Tryz.prog 35 2 = (some (2, 3))) ∧ (aggT Tryz.prog 3 = (some false)) ∧ (szT Tryz.prog 3 = (some 1)) ∧ (fieldT Tryz.prog 35 3 = (some (3, 24))) ∧ (aggT Tryz.prog 24 = (some false)) ∧ (szT Tryz.prog 24 = (some 1)) ∧ (fieldT Tryz.prog 69 4 = (some (9, 4))) ∧ (aggT Tryz.prog 4 = (some false)) ∧ (szT Tryz.prog 4 = (some 1)) ∧ (fieldT Tryz.prog 69 0 = (some (0, 39))) ∧ (aggT Tryz.prog 39 = (some true)) ∧ (szT Tryz.prog 39 = (some 6)) ∧ (fieldT Tryz.prog 39 2 = (some (2, 9))) ∧ (aggT Tryz.prog 9 = (some false)) ∧ (szT Tryz.prog 9 = (some 1)) ∧ (fieldT Tryz.prog 69 1 = (some (6, 3))) ∧ (layT Tryz.prog 39 = (some ([(.int .i64 0), (.str []), (.str []), .nils, (.int .i64 0), (.int .i64 0)], [(0, 1), (1, 1), (2, 1), (3, 1), (4, 1), (5, 1)]))) ∧ (aggT Tryz.prog 69 = (some true)) ∧ (fieldT Tryz.prog 67 2 = (some (5, 4))) := by and_intros <;> kernel_rfl
theorem T13 : (strT Tryz.prog 9 = true) ∧ (elemT Tryz.prog 9 = none) ∧ (mapT Tryz.prog 9 = none) ∧ (zeroA Tryz.prog 35 = (some (.agg [.nils, .nils, (.int .i64 0), (.int .i64 0)]))) ∧ (szT Tryz.prog 35 = (some 4)) ∧ (fieldT Tryz.prog 35 3 = (some (3, 24))) ∧ (aggT Tryz.prog 24 = (some false)) ∧ (szT Tryz.prog 24 = (some 1)) ∧ (fieldT Tryz.prog 35 2 = (some (2, 3))) ∧ (aggT Tryz.prog 3 = (some false)) ∧ (szT Tryz.prog 3 = (some 1)) ∧ (fieldT Tryz.prog 35 0 = (some (0, 23))) ∧ (aggT Tryz.prog 23 = (some false)) ∧ (szT Tryz.prog 23 = (some 1)) := by and_intros <;> kernel_rfl
end Go.Ab
