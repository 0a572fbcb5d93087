/- The functions' codes, printed by program: what each operation is, what it asks of types. -/
import Derived.Test.YtojncnpmlhhccaaGreatDoorProg
import Derived.Test.YtojncnpmlhhccaaGreatDoorAbC
import Derived.KernelRfl
set_option linter.all false
set_option maxRecDepth 100000
namespace Go.Ab
open Go Go.Proofs
noncomputable def S17 : {x : SC // Tryz.f17.body.map (prepD fun _ => #[]) = some x} := ⟨_, by simp only [Tryz.f17, Option.map, prepD, prepOp, List.map, Option.bind, List.getElem?_toArray, List.getElem?_cons_succ, List.getElem?_cons_zero] <;> rfl⟩
theorem S17_eq : Tryz.f17.body.map prep = some S17.1 := by kernel_rfl
def N17 : Nat := 65
def R17 : List ResultVar := [(.cell 2 25), (.tmp 3)]
theorem B17 : bodyT Tryz.prog 17 = true := by kernel_rfl
noncomputable def D79 := drawIn Tryz.f79
noncomputable def L79_4 : {l : List MOp // (D79 4).toList.map (prepOp (D79 4)) = l} := ⟨_, by simp only [D79, drawIn, Tryz.f79, drawOf, cond_true, cond_false, Nat.reduceBEq, Option.getD, Option.map, prepD, prepOp, List.map, Option.bind, List.getElem?_toArray, List.getElem?_cons_succ, List.getElem?_cons_zero] <;> rfl⟩
theorem L79_4_eq : (D79 4).toList.map (prepOp (D79 4)) = L79_4.1 := L79_4.2
theorem P79_4_eq : drawPlan (D79 4) = (some [(4, 13)]) := by kernel_rfl
noncomputable def S79 : {x : SC // Tryz.f79.body.map (prepD D79) = some x} := ⟨_, by simp only [Tryz.f79, Option.map, prepD, prepOp, List.map, Option.bind, List.getElem?_toArray, List.getElem?_cons_succ, List.getElem?_cons_zero] <;> rfl⟩
theorem S79_eq : Tryz.f79.body.map prep = some S79.1 := by kernel_rfl
def N79 : Nat := 62
def R79 : List ResultVar := [(.tmp 8)]
theorem B79 : bodyT Tryz.prog 79 = true := by kernel_rfl
noncomputable def S43 : {x : SC // Tryz.f43.body.map (prepD fun _ => #[]) = some x} := ⟨_, by simp only [Tryz.f43, Option.map, prepD, prepOp, List.map, Option.bind, List.getElem?_toArray, List.getElem?_cons_succ, List.getElem?_cons_zero] <;> rfl⟩
theorem S43_eq : Tryz.f43.body.map prep = some S43.1 := by kernel_rfl
def N43 : Nat := 86
def R43 : List ResultVar := [(.tmp 4)]
theorem B43 : bodyT Tryz.prog 43 = true := by kernel_rfl
noncomputable def D44 := drawIn Tryz.f44
noncomputable def L44_1 : {l : List MOp // (D44 1).toList.map (prepOp (D44 1)) = l} := ⟨_, by simp only [D44, drawIn, Tryz.f44, drawOf, cond_true, cond_false, Nat.reduceBEq, Option.getD, Option.map, prepD, prepOp, List.map, Option.bind, List.getElem?_toArray, List.getElem?_cons_succ, List.getElem?_cons_zero] <;> rfl⟩
theorem L44_1_eq : (D44 1).toList.map (prepOp (D44 1)) = L44_1.1 := L44_1.2
theorem P44_1_eq : drawPlan (D44 1) = (some [(3, 10), (7, 10), (8, 10), (9, 10)]) := by kernel_rfl
noncomputable def S44 : {x : SC // Tryz.f44.body.map (prepD D44) = some x} := ⟨_, by simp only [Tryz.f44, Option.map, prepD, prepOp, List.map, Option.bind, List.getElem?_toArray, List.getElem?_cons_succ, List.getElem?_cons_zero] <;> rfl⟩
theorem S44_eq : Tryz.f44.body.map prep = some S44.1 := by kernel_rfl
def N44 : Nat := 44
def R44 : List ResultVar := [(.tmp 4)]
theorem B44 : bodyT Tryz.prog 44 = true := by kernel_rfl
noncomputable def D45 := drawIn Tryz.f45
noncomputable def L45_6 : {l : List MOp // (D45 6).toList.map (prepOp (D45 6)) = l} := ⟨_, by simp only [D45, drawIn, Tryz.f45, drawOf, cond_true, cond_false, Nat.reduceBEq, Option.getD, Option.map, prepD, prepOp, List.map, Option.bind, List.getElem?_toArray, List.getElem?_cons_succ, List.getElem?_cons_zero] <;> rfl⟩
theorem L45_6_eq : (D45 6).toList.map (prepOp (D45 6)) = L45_6.1 := L45_6.2
theorem P45_6_eq : drawPlan (D45 6) = (some []) := by kernel_rfl
noncomputable def L45_7 : {l : List MOp // (D45 7).toList.map (prepOp (D45 7)) = l} := ⟨_, by simp only [D45, drawIn, Tryz.f45, drawOf, cond_true, cond_false, Nat.reduceBEq, Option.getD, Option.map, prepD, prepOp, List.map, Option.bind, List.getElem?_toArray, List.getElem?_cons_succ, List.getElem?_cons_zero] <;> rfl⟩
theorem L45_7_eq : (D45 7).toList.map (prepOp (D45 7)) = L45_7.1 := L45_7.2
theorem P45_7_eq : drawPlan (D45 7) = (some []) := by kernel_rfl
noncomputable def L45_9 : {l : List MOp // (D45 9).toList.map (prepOp (D45 9)) = l} := ⟨_, by simp only [D45, drawIn, Tryz.f45, drawOf, cond_true, cond_false, Nat.reduceBEq, Option.getD, Option.map, prepD, prepOp, List.map, Option.bind, List.getElem?_toArray, List.getElem?_cons_succ, List.getElem?_cons_zero] <;> rfl⟩
theorem L45_9_eq : (D45 9).toList.map (prepOp (D45 9)) = L45_9.1 := L45_9.2
theorem P45_9_eq : drawPlan (D45 9) = (some []) := by kernel_rfl
noncomputable def L45_10 : {l : List MOp // (D45 10).toList.map (prepOp (D45 10)) = l} := ⟨_, by simp only [D45, drawIn, Tryz.f45, drawOf, cond_true, cond_false, Nat.reduceBEq, Option.getD, Option.map, prepD, prepOp, List.map, Option.bind, List.getElem?_toArray, List.getElem?_cons_succ, List.getElem?_cons_zero] <;> rfl⟩
theorem L45_10_eq : (D45 10).toList.map (prepOp (D45 10)) = L45_10.1 := L45_10.2
theorem P45_10_eq : drawPlan (D45 10) = (some []) := by kernel_rfl
noncomputable def S45 : {x : SC // Tryz.f45.body.map (prepD D45) = some x} := ⟨_, by simp only [Tryz.f45, Option.map, prepD, prepOp, List.map, Option.bind, List.getElem?_toArray, List.getElem?_cons_succ, List.getElem?_cons_zero] <;> rfl⟩
theorem S45_eq : Tryz.f45.body.map prep = some S45.1 := by kernel_rfl
def N45 : Nat := 82
def R45 : List ResultVar := [(.tmp 4)]
theorem B45 : bodyT Tryz.prog 45 = true := by kernel_rfl
noncomputable def S46 : {x : SC // Tryz.f46.body.map (prepD fun _ => #[]) = some x} := ⟨_, by simp only [Tryz.f46, Option.map, prepD, prepOp, List.map, Option.bind, List.getElem?_toArray, List.getElem?_cons_succ, List.getElem?_cons_zero] <;> rfl⟩
theorem S46_eq : Tryz.f46.body.map prep = some S46.1 := by kernel_rfl
def N46 : Nat := 19
def R46 : List ResultVar := [(.tmp 8)]
theorem B46 : bodyT Tryz.prog 46 = true := by kernel_rfl
noncomputable def S56 : {x : SC // Tryz.f56.body.map (prepD fun _ => #[]) = some x} := ⟨_, by simp only [Tryz.f56, Option.map, prepD, prepOp, List.map, Option.bind, List.getElem?_toArray, List.getElem?_cons_succ, List.getElem?_cons_zero] <;> rfl⟩
theorem S56_eq : Tryz.f56.body.map prep = some S56.1 := by kernel_rfl
def N56 : Nat := 76
def R56 : List ResultVar := [(.tmp 6)]
theorem B56 : bodyT Tryz.prog 56 = true := by kernel_rfl
noncomputable def S15 : {x : SC // Tryz.f15.body.map (prepD fun _ => #[]) = some x} := ⟨_, by simp only [Tryz.f15, Option.map, prepD, prepOp, List.map, Option.bind, List.getElem?_toArray, List.getElem?_cons_succ, List.getElem?_cons_zero] <;> rfl⟩
theorem S15_eq : Tryz.f15.body.map prep = some S15.1 := by kernel_rfl
def N15 : Nat := 40
def R15 : List ResultVar := [(.tmp 4)]
theorem B15 : bodyT Tryz.prog 15 = true := by kernel_rfl
noncomputable def S31 : {x : SC // Tryz.f31.body.map (prepD fun _ => #[]) = some x} := ⟨_, by simp only [Tryz.f31, Option.map, prepD, prepOp, List.map, Option.bind, List.getElem?_toArray, List.getElem?_cons_succ, List.getElem?_cons_zero] <;> rfl⟩
theorem S31_eq : Tryz.f31.body.map prep = some S31.1 := by kernel_rfl
def N31 : Nat := 19
def R31 : List ResultVar := [(.tmp 4)]
theorem B31 : bodyT Tryz.prog 31 = true := by kernel_rfl
noncomputable def D21 := drawIn Tryz.f21
noncomputable def L21_15 : {l : List MOp // (D21 15).toList.map (prepOp (D21 15)) = l} := ⟨_, by simp only [D21, drawIn, Tryz.f21, drawOf, cond_true, cond_false, Nat.reduceBEq, Option.getD, Option.map, prepD, prepOp, List.map, Option.bind, List.getElem?_toArray, List.getElem?_cons_succ, List.getElem?_cons_zero] <;> rfl⟩
theorem L21_15_eq : (D21 15).toList.map (prepOp (D21 15)) = L21_15.1 := L21_15.2
theorem P21_15_eq : drawPlan (D21 15) = (some []) := by kernel_rfl
noncomputable def S21 : {x : SC // Tryz.f21.body.map (prepD D21) = some x} := ⟨_, by simp only [Tryz.f21, Option.map, prepD, prepOp, List.map, Option.bind, List.getElem?_toArray, List.getElem?_cons_succ, List.getElem?_cons_zero] <;> rfl⟩
theorem S21_eq : Tryz.f21.body.map prep = some S21.1 := by kernel_rfl
def N21 : Nat := 112
def R21 : List ResultVar := [(.tmp 2)]
theorem B21 : bodyT Tryz.prog 21 = true := by kernel_rfl
noncomputable def S36 : {x : SC // Tryz.f36.body.map (prepD fun _ => #[]) = some x} := ⟨_, by simp only [Tryz.f36, Option.map, prepD, prepOp, List.map, Option.bind, List.getElem?_toArray, List.getElem?_cons_succ, List.getElem?_cons_zero] <;> rfl⟩
theorem S36_eq : Tryz.f36.body.map prep = some S36.1 := by kernel_rfl
def N36 : Nat := 19
def R36 : List ResultVar := [(.tmp 6)]
theorem B36 : bodyT Tryz.prog 36 = true := by kernel_rfl
noncomputable def D57 := drawIn Tryz.f57
noncomputable def L57_1 : {l : List MOp // (D57 1).toList.map (prepOp (D57 1)) = l} := ⟨_, by simp only [D57, drawIn, Tryz.f57, drawOf, cond_true, cond_false, Nat.reduceBEq, Option.getD, Option.map, prepD, prepOp, List.map, Option.bind, List.getElem?_toArray, List.getElem?_cons_succ, List.getElem?_cons_zero] <;> rfl⟩
theorem L57_1_eq : (D57 1).toList.map (prepOp (D57 1)) = L57_1.1 := L57_1.2
theorem P57_1_eq : drawPlan (D57 1) = (some [(1, 16), (3, 16), (4, 16), (6, 16), (8, 16), (10, 16), (12, 16), (13, 16), (15, 16), (6, 17), (8, 17), (10, 17), (12, 17), (13, 17), (15, 17)]) := by kernel_rfl
noncomputable def S57 : {x : SC // Tryz.f57.body.map (prepD D57) = some x} := ⟨_, by simp only [Tryz.f57, Option.map, prepD, prepOp, List.map, Option.bind, List.getElem?_toArray, List.getElem?_cons_succ, List.getElem?_cons_zero] <;> rfl⟩
theorem S57_eq : Tryz.f57.body.map prep = some S57.1 := by kernel_rfl
def N57 : Nat := 75
def R57 : List ResultVar := [(.tmp 6)]
theorem B57 : bodyT Tryz.prog 57 = true := by kernel_rfl
noncomputable def S37 : {x : SC // Tryz.f37.body.map (prepD fun _ => #[]) = some x} := ⟨_, by simp only [Tryz.f37, Option.map, prepD, prepOp, List.map, Option.bind, List.getElem?_toArray, List.getElem?_cons_succ, List.getElem?_cons_zero] <;> rfl⟩
theorem S37_eq : Tryz.f37.body.map prep = some S37.1 := by kernel_rfl
def N37 : Nat := 6
def R37 : List ResultVar := [(.tmp 4)]
theorem B37 : bodyT Tryz.prog 37 = true := by kernel_rfl
noncomputable def S74 : {x : SC // Tryz.f74.body.map (prepD fun _ => #[]) = some x} := ⟨_, by simp only [Tryz.f74, Option.map, prepD, prepOp, List.map, Option.bind, List.getElem?_toArray, List.getElem?_cons_succ, List.getElem?_cons_zero] <;> rfl⟩
theorem S74_eq : Tryz.f74.body.map prep = some S74.1 := by kernel_rfl
def N74 : Nat := 29
def R74 : List ResultVar := []
theorem B74 : bodyT Tryz.prog 74 = true := by kernel_rfl
noncomputable def D11 := drawIn Tryz.f11
noncomputable def L11_6 : {l : List MOp // (D11 6).toList.map (prepOp (D11 6)) = l} := ⟨_, by simp only [D11, drawIn, Tryz.f11, drawOf, cond_true, cond_false, Nat.reduceBEq, Option.getD, Option.map, prepD, prepOp, List.map, Option.bind, List.getElem?_toArray, List.getElem?_cons_succ, List.getElem?_cons_zero] <;> rfl⟩
theorem L11_6_eq : (D11 6).toList.map (prepOp (D11 6)) = L11_6.1 := L11_6.2
theorem P11_6_eq : drawPlan (D11 6) = (some []) := by kernel_rfl
noncomputable def S11 : {x : SC // Tryz.f11.body.map (prepD D11) = some x} := ⟨_, by simp only [Tryz.f11, Option.map, prepD, prepOp, List.map, Option.bind, List.getElem?_toArray, List.getElem?_cons_succ, List.getElem?_cons_zero] <;> rfl⟩
theorem S11_eq : Tryz.f11.body.map prep = some S11.1 := by kernel_rfl
def N11 : Nat := 31
def R11 : List ResultVar := [(.tmp 4)]
theorem B11 : bodyT Tryz.prog 11 = true := by kernel_rfl
theorem T17 : (zeroA Tryz.prog 25 = (some (.agg [.nils]))) ∧ (layT Tryz.prog 36 = (some ([(.int .i64 0), (.str []), (.str []), (.int .i64 0)], [(0, 1), (1, 1), (2, 1), (3, 1)]))) ∧ (elemT Tryz.prog 23 = (some 36)) ∧ (zeroA Tryz.prog 36 = (some (.agg [(.int .i64 0), (.str []), (.str []), (.int .i64 0)]))) ∧ (szT Tryz.prog 36 = (some 4)) ∧ (layT Tryz.prog 85 = (some ([.nils, (.int .i64 0), (.int .i64 0), (.int .i64 0)], [(0, 1), (1, 1), (2, 1), (3, 1)]))) ∧ (strT Tryz.prog 40 = false) ∧ (elemT Tryz.prog 40 = (some 88)) ∧ (mapT Tryz.prog 40 = none) ∧ (szT Tryz.prog 88 = (some 6)) ∧ (aggT Tryz.prog 88 = (some true)) ∧ (zeroA Tryz.prog 88 = (some (.agg [(.int .i64 0), (.str []), (.str []), .nils, (.int .i64 0), (.int .i64 0)]))) ∧ (fieldT Tryz.prog 88 0 = (some (0, 3))) ∧ (aggT Tryz.prog 3 = (some false)) ∧ (szT Tryz.prog 3 = (some 1)) ∧ (fieldT Tryz.prog 88 2 = (some (2, 9))) ∧ (aggT Tryz.prog 9 = (some false)) ∧ (szT Tryz.prog 9 = (some 1)) ∧ (fieldT Tryz.prog 88 1 = (some (1, 9))) ∧ (layT Tryz.prog 25 = (some ([.nils], [(0, 1)]))) ∧ (szT Tryz.prog 25 = (some 1)) ∧ (fieldT Tryz.prog 85 1 = (some (1, 3))) ∧ (fieldT Tryz.prog 85 0 = (some (0, 23))) ∧ (aggT Tryz.prog 23 = (some false)) ∧ (szT Tryz.prog 23 = (some 1)) ∧ (aggT Tryz.prog 25 = (some true)) := by and_intros <;> kernel_rfl
theorem T79 : (fieldT Tryz.prog 85 0 = (some (0, 23))) ∧ (aggT Tryz.prog 23 = (some false)) ∧ (szT Tryz.prog 23 = (some 1)) ∧ (strT Tryz.prog 23 = false) ∧ (elemT Tryz.prog 23 = (some 36)) ∧ (mapT Tryz.prog 23 = none) ∧ (fieldT Tryz.prog 85 2 = (some (2, 3))) ∧ (aggT Tryz.prog 3 = (some false)) ∧ (szT Tryz.prog 3 = (some 1)) ∧ (strT Tryz.prog 9 = true) ∧ (elemT Tryz.prog 9 = none) ∧ (mapT Tryz.prog 9 = none) ∧ (fieldT Tryz.prog 85 3 = (some (3, 3))) ∧ (fieldT Tryz.prog 85 1 = (some (1, 3))) ∧ (layT Tryz.prog 36 = (some ([(.int .i64 0), (.str []), (.str []), (.int .i64 0)], [(0, 1), (1, 1), (2, 1), (3, 1)]))) ∧ (zeroA Tryz.prog 36 = (some (.agg [(.int .i64 0), (.str []), (.str []), (.int .i64 0)]))) ∧ (szT Tryz.prog 36 = (some 4)) ∧ (rowT Tryz.prog 23 = (some (36, (4, false)))) := by and_intros <;> kernel_rfl
theorem T43 : (fieldT Tryz.prog 88 1 = (some (1, 9))) ∧ (aggT Tryz.prog 9 = (some false)) ∧ (szT Tryz.prog 9 = (some 1)) ∧ (fieldT Tryz.prog 88 3 = (some (3, 86))) ∧ (aggT Tryz.prog 86 = (some false)) ∧ (szT Tryz.prog 86 = (some 1)) ∧ (strT Tryz.prog 86 = false) ∧ (elemT Tryz.prog 86 = (some 132)) ∧ (mapT Tryz.prog 86 = none) ∧ (szT Tryz.prog 132 = (some 2)) ∧ (aggT Tryz.prog 132 = (some true)) ∧ (zeroA Tryz.prog 132 = (some (.agg [(.str []), (.str [])]))) ∧ (fieldT Tryz.prog 132 0 = (some (0, 9))) ∧ (fieldT Tryz.prog 132 1 = (some (1, 9))) ∧ (mapT Tryz.prog 95 = (some (9, 3))) ∧ (intT Tryz.prog 9 = none) ∧ (strT Tryz.prog 9 = true) ∧ (boolT Tryz.prog 9 = false) ∧ (zeroA Tryz.prog 3 = (some (.int .i64 0))) ∧ (fieldT Tryz.prog 85 0 = (some (0, 23))) ∧ (aggT Tryz.prog 23 = (some false)) ∧ (szT Tryz.prog 23 = (some 1)) ∧ (strT Tryz.prog 23 = false) ∧ (elemT Tryz.prog 23 = (some 36)) ∧ (mapT Tryz.prog 23 = none) ∧ (fieldT Tryz.prog 85 1 = (some (1, 3))) ∧ (aggT Tryz.prog 3 = (some false)) ∧ (szT Tryz.prog 3 = (some 1)) ∧ (fieldT Tryz.prog 85 2 = (some (2, 3))) := by and_intros <;> kernel_rfl
theorem T44 : (fieldT Tryz.prog 85 0 = (some (0, 23))) ∧ (aggT Tryz.prog 23 = (some false)) ∧ (szT Tryz.prog 23 = (some 1)) ∧ (fieldT Tryz.prog 85 1 = (some (1, 3))) ∧ (aggT Tryz.prog 3 = (some false)) ∧ (szT Tryz.prog 3 = (some 1)) ∧ (strT Tryz.prog 23 = false) ∧ (elemT Tryz.prog 23 = (some 36)) ∧ (szT Tryz.prog 36 = (some 4)) ∧ (aggT Tryz.prog 36 = (some true)) ∧ (zeroA Tryz.prog 36 = (some (.agg [(.int .i64 0), (.str []), (.str []), (.int .i64 0)]))) ∧ (fieldT Tryz.prog 88 1 = (some (1, 9))) ∧ (aggT Tryz.prog 9 = (some false)) ∧ (szT Tryz.prog 9 = (some 1)) ∧ (fieldT Tryz.prog 36 0 = (some (0, 3))) ∧ (fieldT Tryz.prog 36 1 = (some (1, 9))) ∧ (fieldT Tryz.prog 36 3 = (some (3, 3))) ∧ (fieldT Tryz.prog 85 2 = (some (2, 3))) := by and_intros <;> kernel_rfl
theorem T45 : (fieldT Tryz.prog 85 0 = (some (0, 23))) ∧ (aggT Tryz.prog 23 = (some false)) ∧ (szT Tryz.prog 23 = (some 1)) ∧ (strT Tryz.prog 23 = false) ∧ (elemT Tryz.prog 23 = (some 36)) ∧ (mapT Tryz.prog 23 = none) ∧ (fieldT Tryz.prog 88 2 = (some (2, 9))) ∧ (aggT Tryz.prog 9 = (some false)) ∧ (szT Tryz.prog 9 = (some 1)) ∧ (szT Tryz.prog 36 = (some 4)) ∧ (fieldT Tryz.prog 36 0 = (some (0, 3))) ∧ (aggT Tryz.prog 3 = (some false)) ∧ (szT Tryz.prog 3 = (some 1)) ∧ (fieldT Tryz.prog 36 3 = (some (3, 3))) ∧ (fieldT Tryz.prog 85 1 = (some (1, 3))) ∧ (strT Tryz.prog 9 = true) ∧ (elemT Tryz.prog 9 = none) ∧ (mapT Tryz.prog 9 = none) ∧ (fieldT Tryz.prog 85 3 = (some (3, 3))) ∧ (fieldT Tryz.prog 36 2 = (some (2, 9))) := by and_intros <;> kernel_rfl
theorem T56 : (strT Tryz.prog 9 = true) ∧ (elemT Tryz.prog 9 = none) ∧ (mapT Tryz.prog 9 = none) := by and_intros <;> kernel_rfl
theorem T15 : (aggT Tryz.prog 25 = (some true)) ∧ (szT Tryz.prog 25 = (some 1)) ∧ (fieldT Tryz.prog 25 0 = (some (0, 23))) ∧ (aggT Tryz.prog 23 = (some false)) ∧ (szT Tryz.prog 23 = (some 1)) ∧ (strT Tryz.prog 23 = false) ∧ (elemT Tryz.prog 23 = (some 36)) ∧ (szT Tryz.prog 36 = (some 4)) ∧ (aggT Tryz.prog 36 = (some true)) ∧ (zeroA Tryz.prog 36 = (some (.agg [(.int .i64 0), (.str []), (.str []), (.int .i64 0)]))) ∧ (fieldT Tryz.prog 36 0 = (some (0, 3))) ∧ (aggT Tryz.prog 3 = (some false)) ∧ (szT Tryz.prog 3 = (some 1)) ∧ (fieldT Tryz.prog 36 2 = (some (2, 9))) ∧ (aggT Tryz.prog 9 = (some false)) ∧ (szT Tryz.prog 9 = (some 1)) ∧ (zeroA Tryz.prog 69 = (some (.agg [.nilp, .nils]))) := by and_intros <;> kernel_rfl
theorem T31 : (fieldT Tryz.prog 25 0 = (some (0, 23))) ∧ (aggT Tryz.prog 23 = (some false)) ∧ (szT Tryz.prog 23 = (some 1)) ∧ (strT Tryz.prog 23 = false) ∧ (elemT Tryz.prog 23 = (some 36)) ∧ (mapT Tryz.prog 23 = none) ∧ (aggT Tryz.prog 25 = (some true)) ∧ (szT Tryz.prog 25 = (some 1)) := by and_intros <;> kernel_rfl
theorem T21 : (fieldT Tryz.prog 25 0 = (some (0, 23))) ∧ (aggT Tryz.prog 23 = (some false)) ∧ (szT Tryz.prog 23 = (some 1)) ∧ (strT Tryz.prog 23 = false) ∧ (elemT Tryz.prog 23 = (some 36)) ∧ (mapT Tryz.prog 23 = none) ∧ (szT Tryz.prog 36 = (some 4)) ∧ (fieldT Tryz.prog 36 3 = (some (3, 3))) ∧ (aggT Tryz.prog 3 = (some false)) ∧ (szT Tryz.prog 3 = (some 1)) ∧ (rowT Tryz.prog 33 = (some (3, (1, false)))) ∧ (zeroA Tryz.prog 3 = (some (.int .i64 0))) ∧ (strT Tryz.prog 33 = false) ∧ (elemT Tryz.prog 33 = (some 3)) ∧ (aggT Tryz.prog 36 = (some true)) ∧ (zeroA Tryz.prog 36 = (some (.agg [(.int .i64 0), (.str []), (.str []), (.int .i64 0)]))) ∧ (fieldT Tryz.prog 36 0 = (some (0, 3))) ∧ (fieldT Tryz.prog 36 1 = (some (1, 9))) ∧ (aggT Tryz.prog 9 = (some false)) ∧ (szT Tryz.prog 9 = (some 1)) ∧ (fieldT Tryz.prog 36 2 = (some (2, 9))) ∧ (aggT Tryz.prog 25 = (some true)) ∧ (szT Tryz.prog 25 = (some 1)) := by and_intros <;> kernel_rfl
theorem T36 : (fieldT Tryz.prog 25 0 = (some (0, 23))) ∧ (aggT Tryz.prog 23 = (some false)) ∧ (szT Tryz.prog 23 = (some 1)) ∧ (strT Tryz.prog 23 = false) ∧ (elemT Tryz.prog 23 = (some 36)) ∧ (szT Tryz.prog 36 = (some 4)) ∧ (fieldT Tryz.prog 36 3 = (some (3, 3))) ∧ (aggT Tryz.prog 3 = (some false)) ∧ (szT Tryz.prog 3 = (some 1)) := by and_intros <;> kernel_rfl
theorem T57 : (fieldT Tryz.prog 25 0 = (some (0, 23))) ∧ (aggT Tryz.prog 23 = (some false)) ∧ (szT Tryz.prog 23 = (some 1)) ∧ (strT Tryz.prog 23 = false) ∧ (elemT Tryz.prog 23 = (some 36)) ∧ (szT Tryz.prog 36 = (some 4)) ∧ (aggT Tryz.prog 36 = (some true)) ∧ (fieldT Tryz.prog 36 3 = (some (3, 3))) ∧ (aggT Tryz.prog 3 = (some false)) ∧ (szT Tryz.prog 3 = (some 1)) ∧ (fieldT Tryz.prog 36 0 = (some (0, 3))) ∧ (zeroA Tryz.prog 36 = (some (.agg [(.int .i64 0), (.str []), (.str []), (.int .i64 0)]))) := by and_intros <;> kernel_rfl
theorem T37 : (True) := trivial
theorem T74 : (aggT Tryz.prog 3 = (some false)) ∧ (szT Tryz.prog 3 = (some 1)) ∧ (fieldT Tryz.prog 25 0 = (some (0, 23))) ∧ (aggT Tryz.prog 23 = (some false)) ∧ (szT Tryz.prog 23 = (some 1)) ∧ (strT Tryz.prog 23 = false) ∧ (elemT Tryz.prog 23 = (some 36)) ∧ (mapT Tryz.prog 23 = none) ∧ (aggT Tryz.prog 25 = (some true)) ∧ (szT Tryz.prog 25 = (some 1)) ∧ (szT Tryz.prog 36 = (some 4)) ∧ (aggT Tryz.prog 36 = (some true)) := by and_intros <;> kernel_rfl
end Go.Ab
