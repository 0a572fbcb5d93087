/- The functions' codes, printed by program: what each operation is, what it asks of types. -/
import Derived.Test.YtojncnpmlhhccaaGreatDoorProg
import Derived.Test.YtojncnpmlhhccaaGreatDoorAbC
import Derived.KernelRfl
set_option linter.all false
set_option maxRecDepth 100000
namespace Go.Ab
open Go Go.Proofs
noncomputable def D20 := drawIn Tryz.f20
noncomputable def L20_3 : {l : List MOp // (D20 3).toList.map (prepOp (D20 3)) = l} := ⟨_, by simp only [D20, drawIn, Tryz.f20, drawOf, cond_true, cond_false, Nat.reduceBEq, Option.getD, Option.map, prepD, prepOp, List.map, Option.bind, List.getElem?_toArray, List.getElem?_cons_succ, List.getElem?_cons_zero] <;> rfl⟩
theorem L20_3_eq : (D20 3).toList.map (prepOp (D20 3)) = L20_3.1 := L20_3.2
theorem P20_3_eq : drawPlan (D20 3) = (some [(0, 4), (4, 6), (0, 8), (2, 8), (4, 8), (0, 9), (2, 9), (4, 9), (6, 9), (8, 9), (4, 11), (8, 11), (9, 11)]) := by kernel_rfl
noncomputable def L20_14 : {l : List MOp // (D20 14).toList.map (prepOp (D20 14)) = l} := ⟨_, by simp only [D20, drawIn, Tryz.f20, drawOf, cond_true, cond_false, Nat.reduceBEq, Option.getD, Option.map, prepD, prepOp, List.map, Option.bind, List.getElem?_toArray, List.getElem?_cons_succ, List.getElem?_cons_zero] <;> rfl⟩
theorem L20_14_eq : (D20 14).toList.map (prepOp (D20 14)) = L20_14.1 := L20_14.2
theorem P20_14_eq : drawPlan (D20 14) = (some [(3, 16), (5, 16), (9, 16), (11, 16), (12, 16), (13, 16), (3, 17), (5, 17)]) := by kernel_rfl
noncomputable def L20_15 : {l : List MOp // (D20 15).toList.map (prepOp (D20 15)) = l} := ⟨_, by simp only [D20, drawIn, Tryz.f20, drawOf, cond_true, cond_false, Nat.reduceBEq, Option.getD, Option.map, prepD, prepOp, List.map, Option.bind, List.getElem?_toArray, List.getElem?_cons_succ, List.getElem?_cons_zero] <;> rfl⟩
theorem L20_15_eq : (D20 15).toList.map (prepOp (D20 15)) = L20_15.1 := L20_15.2
theorem P20_15_eq : drawPlan (D20 15) = (some [(3, 16), (5, 16), (9, 16), (11, 16), (12, 16), (13, 16), (3, 17), (5, 17)]) := by kernel_rfl
noncomputable def S20 : {x : SC // Tryz.f20.body.map (prepD D20) = some x} := ⟨_, by simp only [Tryz.f20, Option.map, prepD, prepOp, List.map, Option.bind, List.getElem?_toArray, List.getElem?_cons_succ, List.getElem?_cons_zero] <;> rfl⟩
theorem S20_eq : Tryz.f20.body.map prep = some S20.1 := by kernel_rfl
def N20 : Nat := 180
def R20 : List ResultVar := [(.cell 6 9), (.cell 7 26)]
theorem B20 : bodyT Tryz.prog 20 = true := by kernel_rfl
noncomputable def S51 : {x : SC // Tryz.f51.body.map (prepD fun _ => #[]) = some x} := ⟨_, by simp only [Tryz.f51, Option.map, prepD, prepOp, List.map, Option.bind, List.getElem?_toArray, List.getElem?_cons_succ, List.getElem?_cons_zero] <;> rfl⟩
theorem S51_eq : Tryz.f51.body.map prep = some S51.1 := by kernel_rfl
def N51 : Nat := 16
def R51 : List ResultVar := []
theorem B51 : bodyT Tryz.prog 51 = true := by kernel_rfl
noncomputable def S47 : {x : SC // Tryz.f47.body.map (prepD fun _ => #[]) = some x} := ⟨_, by simp only [Tryz.f47, Option.map, prepD, prepOp, List.map, Option.bind, List.getElem?_toArray, List.getElem?_cons_succ, List.getElem?_cons_zero] <;> rfl⟩
theorem S47_eq : Tryz.f47.body.map prep = some S47.1 := by kernel_rfl
def N47 : Nat := 18
def R47 : List ResultVar := [(.tmp 2)]
theorem B47 : bodyT Tryz.prog 47 = true := by kernel_rfl
noncomputable def D48 := drawIn Tryz.f48
noncomputable def S48 : {x : SC // Tryz.f48.body.map (prepD D48) = some x} := ⟨_, by simp only [Tryz.f48, Option.map, prepD, prepOp, List.map, Option.bind, List.getElem?_toArray, List.getElem?_cons_succ, List.getElem?_cons_zero] <;> rfl⟩
theorem S48_eq : Tryz.f48.body.map prep = some S48.1 := by kernel_rfl
def N48 : Nat := 112
def R48 : List ResultVar := [(.tmp 6)]
theorem B48 : bodyT Tryz.prog 48 = true := by kernel_rfl
noncomputable def D49 := drawIn Tryz.f49
noncomputable def L49_4 : {l : List MOp // (D49 4).toList.map (prepOp (D49 4)) = l} := ⟨_, by simp only [D49, drawIn, Tryz.f49, drawOf, cond_true, cond_false, Nat.reduceBEq, Option.getD, Option.map, prepD, prepOp, List.map, Option.bind, List.getElem?_toArray, List.getElem?_cons_succ, List.getElem?_cons_zero] <;> rfl⟩
theorem L49_4_eq : (D49 4).toList.map (prepOp (D49 4)) = L49_4.1 := L49_4.2
theorem P49_4_eq : drawPlan (D49 4) = (some [(3, 6)]) := by kernel_rfl
noncomputable def S49 : {x : SC // Tryz.f49.body.map (prepD D49) = some x} := ⟨_, by simp only [Tryz.f49, Option.map, prepD, prepOp, List.map, Option.bind, List.getElem?_toArray, List.getElem?_cons_succ, List.getElem?_cons_zero] <;> rfl⟩
theorem S49_eq : Tryz.f49.body.map prep = some S49.1 := by kernel_rfl
def N49 : Nat := 83
def R49 : List ResultVar := [(.tmp 4)]
theorem B49 : bodyT Tryz.prog 49 = true := by kernel_rfl
noncomputable def D50 := drawIn Tryz.f50
noncomputable def L50_1 : {l : List MOp // (D50 1).toList.map (prepOp (D50 1)) = l} := ⟨_, by simp only [D50, drawIn, Tryz.f50, drawOf, cond_true, cond_false, Nat.reduceBEq, Option.getD, Option.map, prepD, prepOp, List.map, Option.bind, List.getElem?_toArray, List.getElem?_cons_succ, List.getElem?_cons_zero] <;> rfl⟩
theorem L50_1_eq : (D50 1).toList.map (prepOp (D50 1)) = L50_1.1 := L50_1.2
theorem P50_1_eq : drawPlan (D50 1) = (some [(3, 21)]) := by kernel_rfl
noncomputable def S50 : {x : SC // Tryz.f50.body.map (prepD D50) = some x} := ⟨_, by simp only [Tryz.f50, Option.map, prepD, prepOp, List.map, Option.bind, List.getElem?_toArray, List.getElem?_cons_succ, List.getElem?_cons_zero] <;> rfl⟩
theorem S50_eq : Tryz.f50.body.map prep = some S50.1 := by kernel_rfl
def N50 : Nat := 29
def R50 : List ResultVar := [(.tmp 4)]
theorem B50 : bodyT Tryz.prog 50 = true := by kernel_rfl
noncomputable def S52 : {x : SC // Tryz.f52.body.map (prepD fun _ => #[]) = some x} := ⟨_, by simp only [Tryz.f52, Option.map, prepD, prepOp, List.map, Option.bind, List.getElem?_toArray, List.getElem?_cons_succ, List.getElem?_cons_zero] <;> rfl⟩
theorem S52_eq : Tryz.f52.body.map prep = some S52.1 := by kernel_rfl
def N52 : Nat := 25
def R52 : List ResultVar := []
theorem B52 : bodyT Tryz.prog 52 = true := by kernel_rfl
noncomputable def D53 := drawIn Tryz.f53
noncomputable def L53_8 : {l : List MOp // (D53 8).toList.map (prepOp (D53 8)) = l} := ⟨_, by simp only [D53, drawIn, Tryz.f53, drawOf, cond_true, cond_false, Nat.reduceBEq, Option.getD, Option.map, prepD, prepOp, List.map, Option.bind, List.getElem?_toArray, List.getElem?_cons_succ, List.getElem?_cons_zero] <;> rfl⟩
theorem L53_8_eq : (D53 8).toList.map (prepOp (D53 8)) = L53_8.1 := L53_8.2
theorem P53_8_eq : drawPlan (D53 8) = (some []) := by kernel_rfl
noncomputable def S53 : {x : SC // Tryz.f53.body.map (prepD D53) = some x} := ⟨_, by simp only [Tryz.f53, Option.map, prepD, prepOp, List.map, Option.bind, List.getElem?_toArray, List.getElem?_cons_succ, List.getElem?_cons_zero] <;> rfl⟩
theorem S53_eq : Tryz.f53.body.map prep = some S53.1 := by kernel_rfl
def N53 : Nat := 72
def R53 : List ResultVar := [(.tmp 4)]
theorem B53 : bodyT Tryz.prog 53 = true := by kernel_rfl
noncomputable def S55 : {x : SC // Tryz.f55.body.map (prepD fun _ => #[]) = some x} := ⟨_, by simp only [Tryz.f55, Option.map, prepD, prepOp, List.map, Option.bind, List.getElem?_toArray, List.getElem?_cons_succ, List.getElem?_cons_zero] <;> rfl⟩
theorem S55_eq : Tryz.f55.body.map prep = some S55.1 := by kernel_rfl
def N55 : Nat := 65
def R55 : List ResultVar := []
theorem B55 : bodyT Tryz.prog 55 = true := by kernel_rfl
noncomputable def D86 := drawIn Tryz.f86
noncomputable def L86_7 : {l : List MOp // (D86 7).toList.map (prepOp (D86 7)) = l} := ⟨_, by simp only [D86, drawIn, Tryz.f86, drawOf, cond_true, cond_false, Nat.reduceBEq, Option.getD, Option.map, prepD, prepOp, List.map, Option.bind, List.getElem?_toArray, List.getElem?_cons_succ, List.getElem?_cons_zero] <;> rfl⟩
theorem L86_7_eq : (D86 7).toList.map (prepOp (D86 7)) = L86_7.1 := L86_7.2
theorem P86_7_eq : drawPlan (D86 7) = (some [(9, 12)]) := by kernel_rfl
noncomputable def L86_13 : {l : List MOp // (D86 13).toList.map (prepOp (D86 13)) = l} := ⟨_, by simp only [D86, drawIn, Tryz.f86, drawOf, cond_true, cond_false, Nat.reduceBEq, Option.getD, Option.map, prepD, prepOp, List.map, Option.bind, List.getElem?_toArray, List.getElem?_cons_succ, List.getElem?_cons_zero] <;> rfl⟩
theorem L86_13_eq : (D86 13).toList.map (prepOp (D86 13)) = L86_13.1 := L86_13.2
theorem P86_13_eq : drawPlan (D86 13) = (some [(3, 6)]) := by kernel_rfl
noncomputable def S86 : {x : SC // Tryz.f86.body.map (prepD D86) = some x} := ⟨_, by simp only [Tryz.f86, Option.map, prepD, prepOp, List.map, Option.bind, List.getElem?_toArray, List.getElem?_cons_succ, List.getElem?_cons_zero] <;> rfl⟩
theorem S86_eq : Tryz.f86.body.map prep = some S86.1 := by kernel_rfl
def N86 : Nat := 130
def R86 : List ResultVar := []
theorem B86 : bodyT Tryz.prog 86 = true := by kernel_rfl
noncomputable def S87 : {x : SC // Tryz.f87.body.map (prepD fun _ => #[]) = some x} := ⟨_, by simp only [Tryz.f87, Option.map, prepD, prepOp, List.map, Option.bind, List.getElem?_toArray, List.getElem?_cons_succ, List.getElem?_cons_zero] <;> rfl⟩
theorem S87_eq : Tryz.f87.body.map prep = some S87.1 := by kernel_rfl
def N87 : Nat := 67
def R87 : List ResultVar := []
theorem B87 : bodyT Tryz.prog 87 = true := by kernel_rfl
noncomputable def S83 : {x : SC // Tryz.f83.body.map (prepD fun _ => #[]) = some x} := ⟨_, by simp only [Tryz.f83, Option.map, prepD, prepOp, List.map, Option.bind, List.getElem?_toArray, List.getElem?_cons_succ, List.getElem?_cons_zero] <;> rfl⟩
theorem S83_eq : Tryz.f83.body.map prep = some S83.1 := by kernel_rfl
def N83 : Nat := 5
def R83 : List ResultVar := [(.tmp 2)]
theorem B83 : bodyT Tryz.prog 83 = true := by kernel_rfl
noncomputable def S42 : {x : SC // Tryz.f42.body.map (prepD fun _ => #[]) = some x} := ⟨_, by simp only [Tryz.f42, Option.map, prepD, prepOp, List.map, Option.bind, List.getElem?_toArray, List.getElem?_cons_succ, List.getElem?_cons_zero] <;> rfl⟩
theorem S42_eq : Tryz.f42.body.map prep = some S42.1 := by kernel_rfl
def N42 : Nat := 8
def R42 : List ResultVar := [(.tmp 2)]
theorem B42 : bodyT Tryz.prog 42 = true := by kernel_rfl
noncomputable def S166 : {x : SC // Tryz.f166.body.map (prepD fun _ => #[]) = some x} := ⟨_, by simp only [Tryz.f166, Option.map, prepD, prepOp, List.map, Option.bind, List.getElem?_toArray, List.getElem?_cons_succ, List.getElem?_cons_zero] <;> rfl⟩
theorem S166_eq : Tryz.f166.body.map prep = some S166.1 := by kernel_rfl
def N166 : Nat := 17
def R166 : List ResultVar := [(.tmp 2)]
theorem B166 : bodyT Tryz.prog 166 = true := by kernel_rfl
theorem T20 : (zeroA Tryz.prog 9 = (some (.str []))) ∧ (zeroA Tryz.prog 26 = (some (.int .i64 0))) ∧ (aggT Tryz.prog 25 = (some true)) ∧ (szT Tryz.prog 25 = (some 1)) ∧ (fieldT Tryz.prog 25 0 = (some (0, 23))) ∧ (aggT Tryz.prog 23 = (some false)) ∧ (szT Tryz.prog 23 = (some 1)) ∧ (strT Tryz.prog 23 = false) ∧ (elemT Tryz.prog 23 = (some 36)) ∧ (szT Tryz.prog 36 = (some 4)) ∧ (fieldT Tryz.prog 36 0 = (some (0, 3))) ∧ (aggT Tryz.prog 3 = (some false)) ∧ (szT Tryz.prog 3 = (some 1)) ∧ (szT Tryz.prog 9 = (some 1)) ∧ (szT Tryz.prog 26 = (some 1)) ∧ (mapT Tryz.prog 23 = none) ∧ (rowT Tryz.prog 93 = (some (33, (1, false)))) ∧ (zeroA Tryz.prog 33 = (some .nils)) ∧ (fieldT Tryz.prog 48 2 = (some (2, 4))) ∧ (aggT Tryz.prog 4 = (some false)) ∧ (szT Tryz.prog 4 = (some 1)) ∧ (layT Tryz.prog 97 = (some ([.nils, .nils, .nils, .nilm, .nils, (.bool false), .nilm, .nilm, .nilm, .nilm, .nilp, .nils], [(0, 1), (1, 1), (2, 1), (3, 1), (4, 1), (5, 1), (6, 1), (7, 1), (8, 1), (9, 1), (10, 2)]))) ∧ (fieldT Tryz.prog 97 6 = (some (6, 95))) ∧ (aggT Tryz.prog 95 = (some false)) ∧ (szT Tryz.prog 95 = (some 1)) ∧ (fieldT Tryz.prog 97 7 = (some (7, 95))) ∧ (fieldT Tryz.prog 97 8 = (some (8, 95))) ∧ (fieldT Tryz.prog 97 9 = (some (9, 95))) ∧ (aggT Tryz.prog 48 = (some true)) ∧ (szT Tryz.prog 48 = (some 5)) ∧ (aggT Tryz.prog 36 = (some true)) ∧ (zeroA Tryz.prog 36 = (some (.agg [(.int .i64 0), (.str []), (.str []), (.int .i64 0)]))) ∧ (fieldT Tryz.prog 97 2 = (some (2, 93))) ∧ (aggT Tryz.prog 93 = (some false)) ∧ (szT Tryz.prog 93 = (some 1)) ∧ (fieldT Tryz.prog 36 3 = (some (3, 3))) ∧ (strT Tryz.prog 93 = false) ∧ (elemT Tryz.prog 93 = (some 33)) ∧ (szT Tryz.prog 33 = (some 1)) ∧ (aggT Tryz.prog 33 = (some false)) ∧ (elemT Tryz.prog 33 = (some 3)) ∧ (zeroA Tryz.prog 3 = (some (.int .i64 0))) ∧ (rowT Tryz.prog 33 = (some (3, (1, false)))) ∧ (strT Tryz.prog 33 = false) ∧ (fieldT Tryz.prog 97 1 = (some (1, 93))) ∧ (fieldT Tryz.prog 48 3 = (some (3, 4))) ∧ (elemT Tryz.prog 46 = (some 9)) ∧ (mapT Tryz.prog 33 = none) ∧ (fieldT Tryz.prog 97 10 = (some (10, 69))) ∧ (aggT Tryz.prog 69 = (some true)) ∧ (szT Tryz.prog 69 = (some 2)) ∧ (aggT Tryz.prog 9 = (some false)) ∧ (aggT Tryz.prog 26 = (some false)) := by and_intros <;> kernel_rfl
theorem T51 : (ifaceT Tryz.prog 20 = (some true)) ∧ (ifaceT Tryz.prog 102 = (some false)) ∧ (zeroA Tryz.prog 102 = (some (.agg []))) ∧ (szT Tryz.prog 102 = (some 0)) ∧ (szT Tryz.prog 9 = (some 1)) ∧ (szT Tryz.prog 26 = (some 1)) := by and_intros <;> kernel_rfl
theorem T47 : (strT Tryz.prog 46 = false) ∧ (elemT Tryz.prog 46 = (some 9)) ∧ (mapT Tryz.prog 46 = none) ∧ (szT Tryz.prog 9 = (some 1)) ∧ (aggT Tryz.prog 9 = (some false)) ∧ (mapT Tryz.prog 95 = (some (9, 3))) ∧ (intT Tryz.prog 9 = none) ∧ (strT Tryz.prog 9 = true) ∧ (boolT Tryz.prog 9 = false) ∧ (zeroA Tryz.prog 3 = (some (.int .i64 0))) := by and_intros <;> kernel_rfl
theorem T48 : (strT Tryz.prog 91 = false) ∧ (elemT Tryz.prog 91 = (some 137)) ∧ (mapT Tryz.prog 91 = none) ∧ (szT Tryz.prog 137 = (some 2)) ∧ (fieldT Tryz.prog 137 1 = (some (1, 135))) ∧ (aggT Tryz.prog 135 = (some false)) ∧ (szT Tryz.prog 135 = (some 1)) ∧ (strT Tryz.prog 135 = false) ∧ (elemT Tryz.prog 135 = (some 139)) ∧ (mapT Tryz.prog 135 = none) ∧ (szT Tryz.prog 139 = (some 2)) ∧ (aggT Tryz.prog 139 = (some true)) ∧ (zeroA Tryz.prog 139 = (some (.agg [(.int .i64 0), (.str [])]))) ∧ (fieldT Tryz.prog 139 0 = (some (0, 3))) ∧ (aggT Tryz.prog 3 = (some false)) ∧ (szT Tryz.prog 3 = (some 1)) ∧ (elemT Tryz.prog 33 = (some 3)) ∧ (zeroA Tryz.prog 3 = (some (.int .i64 0))) ∧ (fieldT Tryz.prog 139 1 = (some (1, 9))) ∧ (aggT Tryz.prog 9 = (some false)) ∧ (szT Tryz.prog 9 = (some 1)) ∧ (fieldT Tryz.prog 137 0 = (some (0, 9))) ∧ (rowT Tryz.prog 135 = (some (139, (2, false)))) ∧ (mapT Tryz.prog 134 = (some (9, 135))) ∧ (intT Tryz.prog 9 = none) ∧ (strT Tryz.prog 9 = true) ∧ (boolT Tryz.prog 9 = false) ∧ (zeroA Tryz.prog 135 = (some .nils)) ∧ (fieldT Tryz.prog 48 4 = (some (4, 46))) ∧ (aggT Tryz.prog 46 = (some false)) ∧ (szT Tryz.prog 46 = (some 1)) ∧ (strT Tryz.prog 46 = false) ∧ (elemT Tryz.prog 46 = (some 9)) ∧ (mapT Tryz.prog 46 = none) ∧ (fieldT Tryz.prog 97 4 = (some (4, 46))) ∧ (zeroA Tryz.prog 9 = (some (.str []))) ∧ (rowT Tryz.prog 46 = (some (9, (1, false)))) ∧ (fieldT Tryz.prog 97 3 = (some (3, 94))) ∧ (aggT Tryz.prog 94 = (some false)) ∧ (szT Tryz.prog 94 = (some 1)) ∧ (hasT Tryz.prog 3 = true) ∧ (intT Tryz.prog 21 = (some .i32)) ∧ (strT Tryz.prog 21 = false) ∧ (elemT Tryz.prog 21 = none) ∧ (elemT Tryz.prog 3 = none) ∧ (mapT Tryz.prog 94 = (some (21, 3))) ∧ (boolT Tryz.prog 21 = false) := by and_intros <;> kernel_rfl
theorem T49 : (fieldT Tryz.prog 97 0 = (some (0, 25))) ∧ (aggT Tryz.prog 25 = (some true)) ∧ (szT Tryz.prog 25 = (some 1)) ∧ (fieldT Tryz.prog 25 0 = (some (0, 23))) ∧ (aggT Tryz.prog 23 = (some false)) ∧ (szT Tryz.prog 23 = (some 1)) ∧ (strT Tryz.prog 23 = false) ∧ (elemT Tryz.prog 23 = (some 36)) ∧ (szT Tryz.prog 36 = (some 4)) ∧ (aggT Tryz.prog 36 = (some true)) ∧ (zeroA Tryz.prog 36 = (some (.agg [(.int .i64 0), (.str []), (.str []), (.int .i64 0)]))) ∧ (fieldT Tryz.prog 36 0 = (some (0, 3))) ∧ (aggT Tryz.prog 3 = (some false)) ∧ (szT Tryz.prog 3 = (some 1)) ∧ (fieldT Tryz.prog 97 6 = (some (6, 95))) ∧ (aggT Tryz.prog 95 = (some false)) ∧ (szT Tryz.prog 95 = (some 1)) ∧ (fieldT Tryz.prog 36 1 = (some (1, 9))) ∧ (aggT Tryz.prog 9 = (some false)) ∧ (szT Tryz.prog 9 = (some 1)) ∧ (mapT Tryz.prog 95 = (some (9, 3))) ∧ (intT Tryz.prog 9 = none) ∧ (strT Tryz.prog 9 = true) ∧ (boolT Tryz.prog 9 = false) ∧ (zeroA Tryz.prog 3 = (some (.int .i64 0))) ∧ (fieldT Tryz.prog 97 1 = (some (1, 93))) ∧ (aggT Tryz.prog 93 = (some false)) ∧ (szT Tryz.prog 93 = (some 1)) ∧ (strT Tryz.prog 93 = false) ∧ (elemT Tryz.prog 93 = (some 33)) ∧ (szT Tryz.prog 33 = (some 1)) ∧ (aggT Tryz.prog 33 = (some false)) ∧ (strT Tryz.prog 33 = false) ∧ (elemT Tryz.prog 33 = (some 3)) ∧ (mapT Tryz.prog 33 = none) ∧ (fieldT Tryz.prog 36 2 = (some (2, 9))) := by and_intros <;> kernel_rfl
theorem T50 : (fieldT Tryz.prog 97 7 = (some (7, 95))) ∧ (aggT Tryz.prog 95 = (some false)) ∧ (szT Tryz.prog 95 = (some 1)) ∧ (fieldT Tryz.prog 97 0 = (some (0, 25))) ∧ (aggT Tryz.prog 25 = (some true)) ∧ (szT Tryz.prog 25 = (some 1)) ∧ (fieldT Tryz.prog 25 0 = (some (0, 23))) ∧ (aggT Tryz.prog 23 = (some false)) ∧ (szT Tryz.prog 23 = (some 1)) ∧ (strT Tryz.prog 23 = false) ∧ (elemT Tryz.prog 23 = (some 36)) ∧ (szT Tryz.prog 36 = (some 4)) ∧ (fieldT Tryz.prog 36 3 = (some (3, 3))) ∧ (aggT Tryz.prog 3 = (some false)) ∧ (szT Tryz.prog 3 = (some 1)) ∧ (fieldT Tryz.prog 36 1 = (some (1, 9))) ∧ (aggT Tryz.prog 9 = (some false)) ∧ (szT Tryz.prog 9 = (some 1)) ∧ (mapT Tryz.prog 95 = (some (9, 3))) ∧ (intT Tryz.prog 9 = none) ∧ (strT Tryz.prog 9 = true) ∧ (boolT Tryz.prog 9 = false) ∧ (zeroA Tryz.prog 3 = (some (.int .i64 0))) := by and_intros <;> kernel_rfl
theorem T52 : (strT Tryz.prog 46 = false) ∧ (elemT Tryz.prog 46 = (some 9)) ∧ (mapT Tryz.prog 46 = none) ∧ (szT Tryz.prog 9 = (some 1)) ∧ (aggT Tryz.prog 9 = (some false)) ∧ (fieldT Tryz.prog 97 10 = (some (10, 69))) ∧ (aggT Tryz.prog 69 = (some true)) ∧ (szT Tryz.prog 69 = (some 2)) ∧ (layT Tryz.prog 102 = (some ([], []))) ∧ (ifaceT Tryz.prog 102 = (some false)) := by and_intros <;> kernel_rfl
theorem T53 : (fieldT Tryz.prog 97 0 = (some (0, 25))) ∧ (aggT Tryz.prog 25 = (some true)) ∧ (szT Tryz.prog 25 = (some 1)) ∧ (fieldT Tryz.prog 25 0 = (some (0, 23))) ∧ (aggT Tryz.prog 23 = (some false)) ∧ (szT Tryz.prog 23 = (some 1)) ∧ (strT Tryz.prog 23 = false) ∧ (elemT Tryz.prog 23 = (some 36)) ∧ (szT Tryz.prog 36 = (some 4)) ∧ (fieldT Tryz.prog 36 1 = (some (1, 9))) ∧ (aggT Tryz.prog 9 = (some false)) ∧ (szT Tryz.prog 9 = (some 1)) ∧ (fieldT Tryz.prog 97 1 = (some (1, 93))) ∧ (aggT Tryz.prog 93 = (some false)) ∧ (szT Tryz.prog 93 = (some 1)) ∧ (strT Tryz.prog 93 = false) ∧ (elemT Tryz.prog 93 = (some 33)) ∧ (szT Tryz.prog 33 = (some 1)) ∧ (aggT Tryz.prog 33 = (some false)) ∧ (strT Tryz.prog 33 = false) ∧ (elemT Tryz.prog 33 = (some 3)) ∧ (mapT Tryz.prog 33 = none) ∧ (szT Tryz.prog 3 = (some 1)) ∧ (aggT Tryz.prog 3 = (some false)) ∧ (fieldT Tryz.prog 36 0 = (some (0, 3))) ∧ (fieldT Tryz.prog 97 5 = (some (5, 4))) ∧ (aggT Tryz.prog 4 = (some false)) ∧ (szT Tryz.prog 4 = (some 1)) ∧ (fieldT Tryz.prog 97 7 = (some (7, 95))) ∧ (aggT Tryz.prog 95 = (some false)) ∧ (szT Tryz.prog 95 = (some 1)) ∧ (mapT Tryz.prog 95 = (some (9, 3))) ∧ (intT Tryz.prog 9 = none) ∧ (strT Tryz.prog 9 = true) ∧ (boolT Tryz.prog 9 = false) ∧ (zeroA Tryz.prog 3 = (some (.int .i64 0))) ∧ (fieldT Tryz.prog 97 8 = (some (8, 95))) := by and_intros <;> kernel_rfl
theorem T55 : (fieldT Tryz.prog 97 0 = (some (0, 25))) ∧ (aggT Tryz.prog 25 = (some true)) ∧ (szT Tryz.prog 25 = (some 1)) ∧ (fieldT Tryz.prog 25 0 = (some (0, 23))) ∧ (aggT Tryz.prog 23 = (some false)) ∧ (szT Tryz.prog 23 = (some 1)) ∧ (strT Tryz.prog 23 = false) ∧ (elemT Tryz.prog 23 = (some 36)) ∧ (szT Tryz.prog 36 = (some 4)) ∧ (aggT Tryz.prog 36 = (some true)) ∧ (zeroA Tryz.prog 36 = (some (.agg [(.int .i64 0), (.str []), (.str []), (.int .i64 0)]))) ∧ (fieldT Tryz.prog 36 0 = (some (0, 3))) ∧ (aggT Tryz.prog 3 = (some false)) ∧ (szT Tryz.prog 3 = (some 1)) ∧ (fieldT Tryz.prog 36 2 = (some (2, 9))) ∧ (aggT Tryz.prog 9 = (some false)) ∧ (szT Tryz.prog 9 = (some 1)) ∧ (elemT Tryz.prog 46 = (some 9)) ∧ (zeroA Tryz.prog 9 = (some (.str []))) ∧ (fieldT Tryz.prog 36 1 = (some (1, 9))) := by and_intros <;> kernel_rfl
theorem T86 : (fieldT Tryz.prog 97 0 = (some (0, 25))) ∧ (aggT Tryz.prog 25 = (some true)) ∧ (szT Tryz.prog 25 = (some 1)) ∧ (fieldT Tryz.prog 25 0 = (some (0, 23))) ∧ (aggT Tryz.prog 23 = (some false)) ∧ (szT Tryz.prog 23 = (some 1)) ∧ (strT Tryz.prog 23 = false) ∧ (elemT Tryz.prog 23 = (some 36)) ∧ (szT Tryz.prog 36 = (some 4)) ∧ (aggT Tryz.prog 36 = (some true)) ∧ (zeroA Tryz.prog 36 = (some (.agg [(.int .i64 0), (.str []), (.str []), (.int .i64 0)]))) ∧ (fieldT Tryz.prog 36 1 = (some (1, 9))) ∧ (aggT Tryz.prog 9 = (some false)) ∧ (szT Tryz.prog 9 = (some 1)) ∧ (elemT Tryz.prog 46 = (some 9)) ∧ (zeroA Tryz.prog 9 = (some (.str []))) ∧ (fieldT Tryz.prog 97 2 = (some (2, 93))) ∧ (aggT Tryz.prog 93 = (some false)) ∧ (szT Tryz.prog 93 = (some 1)) ∧ (strT Tryz.prog 93 = false) ∧ (elemT Tryz.prog 93 = (some 33)) ∧ (szT Tryz.prog 33 = (some 1)) ∧ (aggT Tryz.prog 33 = (some false)) ∧ (strT Tryz.prog 33 = false) ∧ (elemT Tryz.prog 33 = (some 3)) ∧ (mapT Tryz.prog 33 = none) ∧ (szT Tryz.prog 3 = (some 1)) ∧ (aggT Tryz.prog 3 = (some false)) ∧ (fieldT Tryz.prog 36 2 = (some (2, 9))) ∧ (fieldT Tryz.prog 97 9 = (some (9, 95))) ∧ (aggT Tryz.prog 95 = (some false)) ∧ (szT Tryz.prog 95 = (some 1)) ∧ (mapT Tryz.prog 95 = (some (9, 3))) ∧ (intT Tryz.prog 9 = none) ∧ (strT Tryz.prog 9 = true) ∧ (boolT Tryz.prog 9 = false) ∧ (zeroA Tryz.prog 3 = (some (.int .i64 0))) ∧ (fieldT Tryz.prog 97 6 = (some (6, 95))) ∧ (fieldT Tryz.prog 97 1 = (some (1, 93))) := by and_intros <;> kernel_rfl
theorem T87 : (strT Tryz.prog 9 = true) ∧ (fieldT Tryz.prog 97 3 = (some (3, 94))) ∧ (aggT Tryz.prog 94 = (some false)) ∧ (szT Tryz.prog 94 = (some 1)) ∧ (mapT Tryz.prog 94 = (some (21, 3))) ∧ (intT Tryz.prog 21 = (some .i32)) ∧ (strT Tryz.prog 21 = false) ∧ (boolT Tryz.prog 21 = false) ∧ (zeroA Tryz.prog 3 = (some (.int .i64 0))) ∧ (fieldT Tryz.prog 97 4 = (some (4, 46))) ∧ (aggT Tryz.prog 46 = (some false)) ∧ (szT Tryz.prog 46 = (some 1)) ∧ (strT Tryz.prog 46 = false) ∧ (elemT Tryz.prog 46 = (some 9)) ∧ (szT Tryz.prog 9 = (some 1)) ∧ (aggT Tryz.prog 9 = (some false)) ∧ (hasT Tryz.prog 21 = true) ∧ (intT Tryz.prog 9 = none) ∧ (elemT Tryz.prog 9 = none) ∧ (elemT Tryz.prog 21 = none) ∧ (zeroA Tryz.prog 9 = (some (.str []))) := by and_intros <;> kernel_rfl
theorem T83 : (True) := trivial
theorem T42 : (fieldT Tryz.prog 69 1 = (some (1, 67))) ∧ (aggT Tryz.prog 67 = (some false)) ∧ (szT Tryz.prog 67 = (some 1)) ∧ (strT Tryz.prog 67 = false) ∧ (elemT Tryz.prog 67 = (some 5)) ∧ (mapT Tryz.prog 67 = none) := by and_intros <;> kernel_rfl
theorem T166 : (True) := trivial
end Go.Ab
