/- The functions' codes, printed by program: what each operation is, what it asks of types. -/
import Derived.Test.YtojncnpmlhhccaaGreatDoorProg
import Derived.Test.YtojncnpmlhhccaaGreatDoorAbC
import Derived.KernelRfl
set_option linter.all false
set_option maxRecDepth 100000
namespace Go.Ab
open Go Go.Proofs
noncomputable def S91 : {x : SC // Tryz.f91.body.map (prepD fun _ => #[]) = some x} := ⟨_, by simp only [Tryz.f91, Option.map, prepD, prepOp, List.map, Option.bind, List.getElem?_toArray, List.getElem?_cons_succ, List.getElem?_cons_zero] <;> rfl⟩
theorem S91_eq : Tryz.f91.body.map prep = some S91.1 := by kernel_rfl
def N91 : Nat := 9
def R91 : List ResultVar := [(.tmp 3)]
theorem B91 : bodyT Tryz.prog 91 = true := by kernel_rfl
noncomputable def S90 : {x : SC // Tryz.f90.body.map (prepD fun _ => #[]) = some x} := ⟨_, by simp only [Tryz.f90, Option.map, prepD, prepOp, List.map, Option.bind, List.getElem?_toArray, List.getElem?_cons_succ, List.getElem?_cons_zero] <;> rfl⟩
theorem S90_eq : Tryz.f90.body.map prep = some S90.1 := by kernel_rfl
def N90 : Nat := 9
def R90 : List ResultVar := [(.tmp 4)]
theorem B90 : bodyT Tryz.prog 90 = true := by kernel_rfl
noncomputable def S129 : {x : SC // Tryz.f129.body.map (prepD fun _ => #[]) = some x} := ⟨_, by simp only [Tryz.f129, Option.map, prepD, prepOp, List.map, Option.bind, List.getElem?_toArray, List.getElem?_cons_succ, List.getElem?_cons_zero] <;> rfl⟩
theorem S129_eq : Tryz.f129.body.map prep = some S129.1 := by kernel_rfl
def N129 : Nat := 19
def R129 : List ResultVar := [(.tmp 4)]
theorem B129 : bodyT Tryz.prog 129 = true := by kernel_rfl
noncomputable def S85 : {x : SC // Tryz.f85.body.map (prepD fun _ => #[]) = some x} := ⟨_, by simp only [Tryz.f85, Option.map, prepD, prepOp, List.map, Option.bind, List.getElem?_toArray, List.getElem?_cons_succ, List.getElem?_cons_zero] <;> rfl⟩
theorem S85_eq : Tryz.f85.body.map prep = some S85.1 := by kernel_rfl
def N85 : Nat := 9
def R85 : List ResultVar := [(.tmp 4)]
noncomputable def S125 : {x : SC // Tryz.f125.body.map (prepD fun _ => #[]) = some x} := ⟨_, by simp only [Tryz.f125, Option.map, prepD, prepOp, List.map, Option.bind, List.getElem?_toArray, List.getElem?_cons_succ, List.getElem?_cons_zero] <;> rfl⟩
theorem S125_eq : Tryz.f125.body.map prep = some S125.1 := by kernel_rfl
def N125 : Nat := 55
def R125 : List ResultVar := [(.tmp 4)]
theorem B125 : bodyT Tryz.prog 125 = true := by kernel_rfl
noncomputable def D149 := drawIn Tryz.f149
noncomputable def L149_6 : {l : List MOp // (D149 6).toList.map (prepOp (D149 6)) = l} := ⟨_, by simp only [D149, drawIn, Tryz.f149, drawOf, cond_true, cond_false, Nat.reduceBEq, Option.getD, Option.map, prepD, prepOp, List.map, Option.bind, List.getElem?_toArray, List.getElem?_cons_succ, List.getElem?_cons_zero] <;> rfl⟩
theorem L149_6_eq : (D149 6).toList.map (prepOp (D149 6)) = L149_6.1 := L149_6.2
theorem P149_6_eq : drawPlan (D149 6) = (some []) := by kernel_rfl
noncomputable def L149_7 : {l : List MOp // (D149 7).toList.map (prepOp (D149 7)) = l} := ⟨_, by simp only [D149, drawIn, Tryz.f149, drawOf, cond_true, cond_false, Nat.reduceBEq, Option.getD, Option.map, prepD, prepOp, List.map, Option.bind, List.getElem?_toArray, List.getElem?_cons_succ, List.getElem?_cons_zero] <;> rfl⟩
theorem L149_7_eq : (D149 7).toList.map (prepOp (D149 7)) = L149_7.1 := L149_7.2
theorem P149_7_eq : drawPlan (D149 7) = (some []) := by kernel_rfl
noncomputable def S149 : {x : SC // Tryz.f149.body.map (prepD D149) = some x} := ⟨_, by simp only [Tryz.f149, Option.map, prepD, prepOp, List.map, Option.bind, List.getElem?_toArray, List.getElem?_cons_succ, List.getElem?_cons_zero] <;> rfl⟩
theorem S149_eq : Tryz.f149.body.map prep = some S149.1 := by kernel_rfl
def N149 : Nat := 187
def R149 : List ResultVar := [(.tmp 4)]
theorem B149 : bodyT Tryz.prog 149 = true := by kernel_rfl
noncomputable def S150 : {x : SC // Tryz.f150.body.map (prepD fun _ => #[]) = some x} := ⟨_, by simp only [Tryz.f150, Option.map, prepD, prepOp, List.map, Option.bind, List.getElem?_toArray, List.getElem?_cons_succ, List.getElem?_cons_zero] <;> rfl⟩
theorem S150_eq : Tryz.f150.body.map prep = some S150.1 := by kernel_rfl
def N150 : Nat := 5
def R150 : List ResultVar := [(.tmp 2)]
theorem B150 : bodyT Tryz.prog 150 = true := by kernel_rfl
def R4 : List ResultVar := [(.tmp 4)]
theorem T91 : (fieldT Tryz.prog 36 1 = (some (1, 9))) ∧ (aggT Tryz.prog 9 = (some false)) ∧ (szT Tryz.prog 9 = (some 1)) := by and_intros <;> kernel_rfl
theorem T90 : (True) := trivial
theorem T129 : (strT Tryz.prog 23 = false) ∧ (elemT Tryz.prog 23 = (some 36)) ∧ (mapT Tryz.prog 23 = none) ∧ (szT Tryz.prog 36 = (some 4)) ∧ (aggT Tryz.prog 36 = (some true)) := by and_intros <;> kernel_rfl
theorem T85 : (True) := trivial
theorem T125 : (strT Tryz.prog 9 = true) ∧ (elemT Tryz.prog 9 = none) ∧ (mapT Tryz.prog 9 = none) ∧ (hasT Tryz.prog 5 = true) ∧ (intT Tryz.prog 21 = (some .i32)) ∧ (strT Tryz.prog 21 = false) ∧ (elemT Tryz.prog 21 = none) ∧ (elemT Tryz.prog 5 = none) ∧ (zeroA Tryz.prog 191 = (some (.agg [(.bool false), (.bool false), (.bool false), (.bool false), (.bool false), (.bool false), (.bool false), (.bool false), (.bool false), (.bool false), (.bool false), (.bool false), (.bool false), (.bool false), (.bool false), (.bool false), (.bool false), (.bool false), (.bool false), (.bool false), (.bool false), (.bool false), (.bool false), (.bool false), (.bool false), (.bool false), (.bool false), (.bool false), (.bool false), (.bool false), (.bool false), (.bool false), (.bool false), (.bool false), (.bool false), (.bool false), (.bool false), (.bool false), (.bool false), (.bool false), (.bool false), (.bool false), (.bool false), (.bool false), (.bool false), (.bool false), (.bool false), (.bool false), (.bool false), (.bool false), (.bool false), (.bool false), (.bool false), (.bool false), (.bool false), (.bool false), (.bool false), (.bool false), (.bool false), (.bool false), (.bool false), (.bool false), (.bool false), (.bool false), (.bool false), (.bool false), (.bool false), (.bool false), (.bool false), (.bool false), (.bool false), (.bool false), (.bool false), (.bool false), (.bool false), (.bool false), (.bool false), (.bool false), (.bool false), (.bool false), (.bool false), (.bool false), (.bool false), (.bool false), (.bool false), (.bool false), (.bool false), (.bool false), (.bool false), (.bool false), (.bool false), (.bool false), (.bool false), (.bool false), (.bool false), (.bool false), (.bool false), (.bool false), (.bool false), (.bool false), (.bool false), (.bool false), (.bool false), (.bool false), (.bool false), (.bool false), (.bool false), (.bool false), (.bool false), (.bool false), (.bool false), (.bool false), (.bool false), (.bool false), (.bool false), (.bool false), (.bool false), (.bool false), (.bool false), (.bool false), (.bool false), (.bool false), (.bool false), (.bool false), (.bool false), (.bool false), (.bool false), (.bool false), (.bool false), (.bool false), (.bool false), (.bool false), (.bool false), (.bool false), (.bool false), (.bool false), (.bool false), (.bool false), (.bool false), (.bool false), (.bool false), (.bool false), (.bool false), (.bool false), (.bool false), (.bool false), (.bool false), (.bool false), (.bool false), (.bool false), (.bool false), (.bool false), (.bool false), (.bool false), (.bool false), (.bool false), (.bool false), (.bool false), (.bool false), (.bool false), (.bool false), (.bool false), (.bool false), (.bool false), (.bool false), (.bool false), (.bool false), (.bool false), (.bool false), (.bool false), (.bool false), (.bool false), (.bool false), (.bool false), (.bool false), (.bool false), (.bool false), (.bool false), (.bool false), (.bool false), (.bool false), (.bool false), (.bool false), (.bool false), (.bool false), (.bool false), (.bool false), (.bool false), (.bool false), (.bool false), (.bool false), (.bool false), (.bool false), (.bool false), (.bool false), (.bool false), (.bool false), (.bool false), (.bool false), (.bool false), (.bool false), (.bool false), (.bool false), (.bool false), (.bool false), (.bool false), (.bool false), (.bool false), (.bool false), (.bool false), (.bool false), (.bool false), (.bool false), (.bool false), (.bool false), (.bool false), (.bool false), (.bool false), (.bool false), (.bool false), (.bool false), (.bool false), (.bool false), (.bool false), (.bool false), (.bool false), (.bool false), (.bool false), (.bool false), (.bool false), (.bool false), (.bool false), (.bool false), (.bool false), (.bool false), (.bool false), (.bool false), (.bool false), (.bool false), (.bool false), (.bool false), (.bool false), (.bool false), (.bool false), (.bool false), (.bool false), (.bool false), (.bool false), (.bool false), (.bool false), (.bool false), (.bool false), (.bool false), (.bool false), (.bool false), (.bool false)]))) ∧ (szT Tryz.prog 191 = (some 256)) := by and_intros <;> kernel_rfl
theorem T149 : (hasT Tryz.prog 21 = true) ∧ (intT Tryz.prog 5 = (some .u8)) ∧ (strT Tryz.prog 5 = false) ∧ (elemT Tryz.prog 5 = none) ∧ (elemT Tryz.prog 21 = none) ∧ (strT Tryz.prog 9 = true) := by and_intros <;> kernel_rfl
theorem T150 : (True) := trivial
end Go.Ab
