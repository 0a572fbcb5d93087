/- The functions' codes, printed by program: what each operation is, what it asks of types. -/
import Derived.Test.YtebgjmoihhbjjaaGreatDoorProg
import Derived.Test.YtebgjmoihhbjjaaGreatDoorAbC
import Derived.KernelRfl
set_option linter.all false
set_option maxRecDepth 100000
namespace Go.Ab
open Go Go.Proofs
noncomputable def S11 : {x : SC // Tryz.f11.body.map (prepD fun _ => #[]) = some x} := ⟨_, by simp only [Tryz.f11, Option.map, prepD, prepOp, List.map, Option.bind, List.getElem?_toArray, List.getElem?_cons_succ, List.getElem?_cons_zero] <;> rfl⟩
theorem S11_eq : Tryz.f11.body.map prep = some S11.1 := by kernel_rfl
def N11 : Nat := 55
def R11 : List ResultVar := [(.tmp 0)]
theorem B11 : bodyT Tryz.prog 11 = true := by kernel_rfl
noncomputable def S12 : {x : SC // Tryz.f12.body.map (prepD fun _ => #[]) = some x} := ⟨_, by simp only [Tryz.f12, Option.map, prepD, prepOp, List.map, Option.bind, List.getElem?_toArray, List.getElem?_cons_succ, List.getElem?_cons_zero] <;> rfl⟩
theorem S12_eq : Tryz.f12.body.map prep = some S12.1 := by kernel_rfl
def N12 : Nat := 41
def R12 : List ResultVar := [(.tmp 2), (.tmp 3), (.tmp 4), (.tmp 5)]
theorem B12 : bodyT Tryz.prog 12 = true := by kernel_rfl
noncomputable def D14 := drawIn Tryz.f14
noncomputable def L14_12 : {l : List MOp // (D14 12).toList.map (prepOp (D14 12)) = l} := ⟨_, by simp only [D14, drawIn, Tryz.f14, drawOf, cond_true, cond_false, Nat.reduceBEq, Option.getD, Option.map, prepD, prepOp, List.map, Option.bind, List.getElem?_toArray, List.getElem?_cons_succ, List.getElem?_cons_zero] <;> rfl⟩
theorem L14_12_eq : (D14 12).toList.map (prepOp (D14 12)) = L14_12.1 := L14_12.2
theorem P14_12_eq : drawPlan (D14 12) = (some []) := by kernel_rfl
noncomputable def S14 : {x : SC // Tryz.f14.body.map (prepD D14) = some x} := ⟨_, by simp only [Tryz.f14, Option.map, prepD, prepOp, List.map, Option.bind, List.getElem?_toArray, List.getElem?_cons_succ, List.getElem?_cons_zero] <;> rfl⟩
theorem S14_eq : Tryz.f14.body.map prep = some S14.1 := by kernel_rfl
def N14 : Nat := 91
def R14 : List ResultVar := [(.tmp 6)]
theorem B14 : bodyT Tryz.prog 14 = true := by kernel_rfl
noncomputable def S15 : {x : SC // Tryz.f15.body.map (prepD fun _ => #[]) = some x} := ⟨_, by simp only [Tryz.f15, Option.map, prepD, prepOp, List.map, Option.bind, List.getElem?_toArray, List.getElem?_cons_succ, List.getElem?_cons_zero] <;> rfl⟩
theorem S15_eq : Tryz.f15.body.map prep = some S15.1 := by kernel_rfl
def N15 : Nat := 23
def R15 : List ResultVar := [(.tmp 2), (.tmp 3)]
theorem B15 : bodyT Tryz.prog 15 = true := by kernel_rfl
noncomputable def S7 : {x : SC // Tryz.f7.body.map (prepD fun _ => #[]) = some x} := ⟨_, by simp only [Tryz.f7, Option.map, prepD, prepOp, List.map, Option.bind, List.getElem?_toArray, List.getElem?_cons_succ, List.getElem?_cons_zero] <;> rfl⟩
theorem S7_eq : Tryz.f7.body.map prep = some S7.1 := by kernel_rfl
def N7 : Nat := 137
def R7 : List ResultVar := [(.tmp 2)]
theorem B7 : bodyT Tryz.prog 7 = true := by kernel_rfl
noncomputable def S71 : {x : SC // Tryz.f71.body.map (prepD fun _ => #[]) = some x} := ⟨_, by simp only [Tryz.f71, Option.map, prepD, prepOp, List.map, Option.bind, List.getElem?_toArray, List.getElem?_cons_succ, List.getElem?_cons_zero] <;> rfl⟩
theorem S71_eq : Tryz.f71.body.map prep = some S71.1 := by kernel_rfl
def N71 : Nat := 10
def R71 : List ResultVar := [(.tmp 2)]
theorem B71 : bodyT Tryz.prog 71 = true := by kernel_rfl
noncomputable def S126 : {x : SC // Tryz.f126.body.map (prepD fun _ => #[]) = some x} := ⟨_, by simp only [Tryz.f126, Option.map, prepD, prepOp, List.map, Option.bind, List.getElem?_toArray, List.getElem?_cons_succ, List.getElem?_cons_zero] <;> rfl⟩
theorem S126_eq : Tryz.f126.body.map prep = some S126.1 := by kernel_rfl
def N126 : Nat := 26
def R126 : List ResultVar := [(.tmp 6), (.tmp 7)]
theorem B126 : bodyT Tryz.prog 126 = true := by kernel_rfl
noncomputable def S136 : {x : SC // Tryz.f136.body.map (prepD fun _ => #[]) = some x} := ⟨_, by simp only [Tryz.f136, Option.map, prepD, prepOp, List.map, Option.bind, List.getElem?_toArray, List.getElem?_cons_succ, List.getElem?_cons_zero] <;> rfl⟩
theorem S136_eq : Tryz.f136.body.map prep = some S136.1 := by kernel_rfl
def N136 : Nat := 172
def R136 : List ResultVar := [(.tmp 6), (.tmp 7)]
theorem B136 : bodyT Tryz.prog 136 = true := by kernel_rfl
noncomputable def S137 : {x : SC // Tryz.f137.body.map (prepD fun _ => #[]) = some x} := ⟨_, by simp only [Tryz.f137, Option.map, prepD, prepOp, List.map, Option.bind, List.getElem?_toArray, List.getElem?_cons_succ, List.getElem?_cons_zero] <;> rfl⟩
theorem S137_eq : Tryz.f137.body.map prep = some S137.1 := by kernel_rfl
def N137 : Nat := 43
def R137 : List ResultVar := [(.tmp 10)]
theorem B137 : bodyT Tryz.prog 137 = true := by kernel_rfl
noncomputable def D148 := drawIn Tryz.f148
noncomputable def L148_1 : {l : List MOp // (D148 1).toList.map (prepOp (D148 1)) = l} := ⟨_, by simp only [D148, drawIn, Tryz.f148, drawOf, cond_true, cond_false, Nat.reduceBEq, Option.getD, Option.map, prepD, prepOp, List.map, Option.bind, List.getElem?_toArray, List.getElem?_cons_succ, List.getElem?_cons_zero] <;> rfl⟩
theorem L148_1_eq : (D148 1).toList.map (prepOp (D148 1)) = L148_1.1 := L148_1.2
theorem P148_1_eq : drawPlan (D148 1) = (some [(2, 3)]) := by kernel_rfl
noncomputable def S148 : {x : SC // Tryz.f148.body.map (prepD D148) = some x} := ⟨_, by simp only [Tryz.f148, Option.map, prepD, prepOp, List.map, Option.bind, List.getElem?_toArray, List.getElem?_cons_succ, List.getElem?_cons_zero] <;> rfl⟩
theorem S148_eq : Tryz.f148.body.map prep = some S148.1 := by kernel_rfl
def N148 : Nat := 11
def R148 : List ResultVar := [(.tmp 4)]
theorem B148 : bodyT Tryz.prog 148 = true := by kernel_rfl
noncomputable def D149 := drawIn Tryz.f149
noncomputable def L149_1 : {l : List MOp // (D149 1).toList.map (prepOp (D149 1)) = l} := ⟨_, by simp only [D149, drawIn, Tryz.f149, drawOf, cond_true, cond_false, Nat.reduceBEq, Option.getD, Option.map, prepD, prepOp, List.map, Option.bind, List.getElem?_toArray, List.getElem?_cons_succ, List.getElem?_cons_zero] <;> rfl⟩
theorem L149_1_eq : (D149 1).toList.map (prepOp (D149 1)) = L149_1.1 := L149_1.2
theorem P149_1_eq : drawPlan (D149 1) = (some [(2, 3)]) := by kernel_rfl
noncomputable def S149 : {x : SC // Tryz.f149.body.map (prepD D149) = some x} := ⟨_, by simp only [Tryz.f149, Option.map, prepD, prepOp, List.map, Option.bind, List.getElem?_toArray, List.getElem?_cons_succ, List.getElem?_cons_zero] <;> rfl⟩
theorem S149_eq : Tryz.f149.body.map prep = some S149.1 := by kernel_rfl
def N149 : Nat := 11
def R149 : List ResultVar := [(.tmp 4)]
theorem B149 : bodyT Tryz.prog 149 = true := by kernel_rfl
noncomputable def S146 : {x : SC // Tryz.f146.body.map (prepD fun _ => #[]) = some x} := ⟨_, by simp only [Tryz.f146, Option.map, prepD, prepOp, List.map, Option.bind, List.getElem?_toArray, List.getElem?_cons_succ, List.getElem?_cons_zero] <;> rfl⟩
theorem S146_eq : Tryz.f146.body.map prep = some S146.1 := by kernel_rfl
def N146 : Nat := 5
def R146 : List ResultVar := [(.tmp 2)]
theorem B146 : bodyT Tryz.prog 146 = true := by kernel_rfl
noncomputable def S162 : {x : SC // Tryz.f162.body.map (prepD fun _ => #[]) = some x} := ⟨_, by simp only [Tryz.f162, Option.map, prepD, prepOp, List.map, Option.bind, List.getElem?_toArray, List.getElem?_cons_succ, List.getElem?_cons_zero] <;> rfl⟩
theorem S162_eq : Tryz.f162.body.map prep = some S162.1 := by kernel_rfl
def N162 : Nat := 18
def R162 : List ResultVar := [(.tmp 2)]
theorem B162 : bodyT Tryz.prog 162 = true := by kernel_rfl
noncomputable def S138 : {x : SC // Tryz.f138.body.map (prepD fun _ => #[]) = some x} := ⟨_, by simp only [Tryz.f138, Option.map, prepD, prepOp, List.map, Option.bind, List.getElem?_toArray, List.getElem?_cons_succ, List.getElem?_cons_zero] <;> rfl⟩
theorem S138_eq : Tryz.f138.body.map prep = some S138.1 := by kernel_rfl
def N138 : Nat := 30
def R138 : List ResultVar := [(.tmp 4), (.tmp 5)]
theorem B138 : bodyT Tryz.prog 138 = true := by kernel_rfl
noncomputable def S139 : {x : SC // Tryz.f139.body.map (prepD fun _ => #[]) = some x} := ⟨_, by simp only [Tryz.f139, Option.map, prepD, prepOp, List.map, Option.bind, List.getElem?_toArray, List.getElem?_cons_succ, List.getElem?_cons_zero] <;> rfl⟩
theorem S139_eq : Tryz.f139.body.map prep = some S139.1 := by kernel_rfl
def N139 : Nat := 17
def R139 : List ResultVar := [(.tmp 4)]
theorem B139 : bodyT Tryz.prog 139 = true := by kernel_rfl
noncomputable def S152 : {x : SC // Tryz.f152.body.map (prepD fun _ => #[]) = some x} := ⟨_, by simp only [Tryz.f152, Option.map, prepD, prepOp, List.map, Option.bind, List.getElem?_toArray, List.getElem?_cons_succ, List.getElem?_cons_zero] <;> rfl⟩
theorem S152_eq : Tryz.f152.body.map prep = some S152.1 := by kernel_rfl
def N152 : Nat := 16
def R152 : List ResultVar := [(.tmp 4)]
theorem B152 : bodyT Tryz.prog 152 = true := by kernel_rfl
noncomputable def S165 : {x : SC // Tryz.f165.body.map (prepD fun _ => #[]) = some x} := ⟨_, by simp only [Tryz.f165, Option.map, prepD, prepOp, List.map, Option.bind, List.getElem?_toArray, List.getElem?_cons_succ, List.getElem?_cons_zero] <;> rfl⟩
theorem S165_eq : Tryz.f165.body.map prep = some S165.1 := by kernel_rfl
def N165 : Nat := 78
def R165 : List ResultVar := [(.tmp 4)]
theorem B165 : bodyT Tryz.prog 165 = true := by kernel_rfl
noncomputable def S40 : {x : SC // Tryz.f40.body.map (prepD fun _ => #[]) = some x} := ⟨_, by simp only [Tryz.f40, Option.map, prepD, prepOp, List.map, Option.bind, List.getElem?_toArray, List.getElem?_cons_succ, List.getElem?_cons_zero] <;> rfl⟩
theorem S40_eq : Tryz.f40.body.map prep = some S40.1 := by kernel_rfl
def N40 : Nat := 19
def R40 : List ResultVar := [(.tmp 4), (.tmp 5)]
theorem B40 : bodyT Tryz.prog 40 = true := by kernel_rfl
theorem T11 : (layT Tryz.prog 59 = (some ([(.str []), (.str [])], [(0, 1), (1, 1)]))) ∧ (elemT Tryz.prog 37 = (some 59)) ∧ (zeroA Tryz.prog 59 = (some (.agg [(.str []), (.str [])]))) ∧ (szT Tryz.prog 59 = (some 2)) ∧ (layT Tryz.prog 39 = (some ([(.int .i64 0), (.str []), (.str []), .nils, (.int .i64 0), (.int .i64 0)], [(0, 1), (1, 1), (2, 1), (3, 1), (4, 1), (5, 1)]))) ∧ (elemT Tryz.prog 23 = (some 39)) ∧ (zeroA Tryz.prog 39 = (some (.agg [(.int .i64 0), (.str []), (.str []), .nils, (.int .i64 0), (.int .i64 0)]))) ∧ (szT Tryz.prog 39 = (some 6)) := by and_intros <;> kernel_rfl
theorem T12 : (zeroA Tryz.prog 39 = (some (.agg [(.int .i64 0), (.str []), (.str []), .nils, (.int .i64 0), (.int .i64 0)]))) ∧ (szT Tryz.prog 39 = (some 6)) ∧ (aggT Tryz.prog 39 = (some true)) ∧ (elemT Tryz.prog 23 = (some 39)) ∧ (rowT Tryz.prog 23 = (some (39, (6, false)))) ∧ (strT Tryz.prog 23 = false) := by and_intros <;> kernel_rfl
theorem T15 : (strT Tryz.prog 9 = true) ∧ (elemT Tryz.prog 9 = none) ∧ (mapT Tryz.prog 9 = none) ∧ (layT Tryz.prog 51 = (some ([(.int .i64 0), (.int .i64 0), (.int .i64 0)], [(0, 1), (1, 1), (2, 1)]))) ∧ (zeroA Tryz.prog 51 = (some (.agg [(.int .i64 0), (.int .i64 0), (.int .i64 0)]))) ∧ (szT Tryz.prog 51 = (some 3)) ∧ (aggT Tryz.prog 51 = (some true)) ∧ (layT Tryz.prog 54 = (some ([(.str []), (.int .i64 0), (.int .i64 0), (.int .i64 0), (.int .i64 0), (.int .i64 0), (.int .i64 0), (.int .i64 0), .nils, (.bool false), .nilp, (.int .i64 0)], [(0, 1), (1, 1), (2, 3), (5, 3), (8, 1), (9, 1), (10, 1), (11, 1)]))) := by and_intros <;> kernel_rfl
theorem T7 : (strT Tryz.prog 9 = true) ∧ (elemT Tryz.prog 9 = none) ∧ (mapT Tryz.prog 9 = none) ∧ (ptrT Tryz.prog 29 = (some 54)) ∧ (szT Tryz.prog 54 = (some 12)) ∧ (strT Tryz.prog 23 = false) ∧ (elemT Tryz.prog 23 = (some 39)) ∧ (mapT Tryz.prog 23 = none) ∧ (szT Tryz.prog 39 = (some 6)) ∧ (aggT Tryz.prog 39 = (some true)) ∧ (zeroA Tryz.prog 39 = (some (.agg [(.int .i64 0), (.str []), (.str []), .nils, (.int .i64 0), (.int .i64 0)]))) := by and_intros <;> kernel_rfl
theorem T71 : (strT Tryz.prog 9 = true) := by kernel_rfl
theorem T126 : (ifaceT Tryz.prog 93 = (some true)) := by kernel_rfl
theorem T136 : (ifaceT Tryz.prog 227 = (some false)) ∧ (strT Tryz.prog 9 = true) ∧ (elemT Tryz.prog 9 = none) ∧ (mapT Tryz.prog 9 = none) ∧ (hasT Tryz.prog 3 = true) ∧ (intT Tryz.prog 116 = (some .u64)) ∧ (strT Tryz.prog 116 = false) ∧ (elemT Tryz.prog 116 = none) ∧ (elemT Tryz.prog 3 = none) ∧ (intT Tryz.prog 84 = (some .u64)) ∧ (strT Tryz.prog 84 = false) ∧ (elemT Tryz.prog 84 = none) ∧ (hasT Tryz.prog 9 = true) ∧ (intT Tryz.prog 65 = none) ∧ (strT Tryz.prog 65 = false) ∧ (elemT Tryz.prog 65 = (some 5)) ∧ (intT Tryz.prog 5 = (some .u8)) ∧ (mapT Tryz.prog 65 = none) ∧ (szT Tryz.prog 5 = (some 1)) ∧ (aggT Tryz.prog 5 = (some false)) ∧ (strT Tryz.prog 5 = false) ∧ (elemT Tryz.prog 5 = none) ∧ (hasT Tryz.prog 5 = true) := by and_intros <;> kernel_rfl
theorem T137 : (ifaceT Tryz.prog 227 = (some false)) ∧ (ifaceT Tryz.prog 93 = (some true)) ∧ (ifaceT Tryz.prog 229 = (some false)) := by and_intros <;> kernel_rfl
theorem T148 : (aggT Tryz.prog 93 = (some false)) ∧ (szT Tryz.prog 93 = (some 1)) ∧ (layT Tryz.prog 243 = (some ([(.str []), (.str []), .nili], [(0, 1), (1, 1), (2, 1)]))) := by and_intros <;> kernel_rfl
theorem T149 : (aggT Tryz.prog 93 = (some false)) ∧ (szT Tryz.prog 93 = (some 1)) ∧ (layT Tryz.prog 243 = (some ([(.str []), (.str []), .nili], [(0, 1), (1, 1), (2, 1)]))) := by and_intros <;> kernel_rfl
theorem T146 : (True) := trivial
theorem T162 : (strT Tryz.prog 9 = true) ∧ (elemT Tryz.prog 9 = none) ∧ (mapT Tryz.prog 9 = none) ∧ (rowT Tryz.prog 65 = (some (5, (1, true)))) ∧ (zeroA Tryz.prog 5 = (some (.int .u8 0))) ∧ (strT Tryz.prog 65 = false) ∧ (elemT Tryz.prog 65 = (some 5)) ∧ (szT Tryz.prog 5 = (some 1)) ∧ (mapT Tryz.prog 65 = none) := by and_intros <;> kernel_rfl
theorem T138 : (fieldT Tryz.prog 90 1 = (some (1, 65))) ∧ (aggT Tryz.prog 65 = (some false)) ∧ (szT Tryz.prog 65 = (some 1)) ∧ (strT Tryz.prog 65 = false) ∧ (elemT Tryz.prog 65 = (some 5)) ∧ (mapT Tryz.prog 65 = none) := by and_intros <;> kernel_rfl
theorem T139 : (fieldT Tryz.prog 90 1 = (some (1, 65))) ∧ (aggT Tryz.prog 65 = (some false)) ∧ (szT Tryz.prog 65 = (some 1)) ∧ (elemT Tryz.prog 65 = (some 5)) ∧ (zeroA Tryz.prog 5 = (some (.int .u8 0))) ∧ (szT Tryz.prog 5 = (some 1)) ∧ (rowT Tryz.prog 65 = (some (5, (1, true)))) ∧ (strT Tryz.prog 65 = false) := by and_intros <;> kernel_rfl
theorem T152 : (hasT Tryz.prog 21 = true) ∧ (intT Tryz.prog 113 = (some .u32)) ∧ (strT Tryz.prog 113 = false) ∧ (elemT Tryz.prog 113 = none) ∧ (elemT Tryz.prog 21 = none) ∧ (intT Tryz.prog 5 = (some .u8)) ∧ (strT Tryz.prog 5 = false) ∧ (elemT Tryz.prog 5 = none) ∧ (elemT Tryz.prog 65 = (some 5)) ∧ (zeroA Tryz.prog 5 = (some (.int .u8 0))) ∧ (szT Tryz.prog 5 = (some 1)) ∧ (rowT Tryz.prog 65 = (some (5, (1, true)))) ∧ (strT Tryz.prog 65 = false) := by and_intros <;> kernel_rfl
theorem T165 : (hasT Tryz.prog 21 = true) ∧ (intT Tryz.prog 113 = (some .u32)) ∧ (strT Tryz.prog 113 = false) ∧ (elemT Tryz.prog 113 = none) ∧ (elemT Tryz.prog 21 = none) ∧ (intT Tryz.prog 5 = (some .u8)) ∧ (strT Tryz.prog 5 = false) ∧ (elemT Tryz.prog 5 = none) ∧ (elemT Tryz.prog 65 = (some 5)) ∧ (zeroA Tryz.prog 5 = (some (.int .u8 0))) ∧ (szT Tryz.prog 5 = (some 1)) ∧ (rowT Tryz.prog 65 = (some (5, (1, true)))) ∧ (strT Tryz.prog 65 = false) := by and_intros <;> kernel_rfl
theorem T40 : (fieldT Tryz.prog 90 1 = (some (1, 65))) ∧ (aggT Tryz.prog 65 = (some false)) ∧ (szT Tryz.prog 65 = (some 1)) ∧ (rowT Tryz.prog 65 = (some (5, (1, true)))) ∧ (strT Tryz.prog 9 = true) ∧ (elemT Tryz.prog 9 = none) ∧ (mapT Tryz.prog 9 = none) := by and_intros <;> kernel_rfl
end Go.Ab
