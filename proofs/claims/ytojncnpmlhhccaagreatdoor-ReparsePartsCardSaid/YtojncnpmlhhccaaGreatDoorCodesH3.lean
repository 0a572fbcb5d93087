/- The functions' codes, printed by program: what each operation is, what it asks of types. -/
import Derived.Test.YtojncnpmlhhccaaGreatDoorProg
import Derived.Test.YtojncnpmlhhccaaGreatDoorAbC
import Derived.KernelRfl
set_option linter.all false
set_option maxRecDepth 100000
namespace Go.Ab
open Go Go.Proofs
noncomputable def S91 : {x : SC // Tryz.f91.body.map (prepD fun _ => #[]) = some x} := ⟨_, by simp only [Tryz.f91, Option.map, prepD, prepOp, List.map, Option.bind, List.getElem?_toArray, List.getElem?_cons_succ, List.getElem?_cons_zero] <;> rfl⟩
theorem S91_eq : Tryz.f91.body.map prep = some S91.1 := by kernel_rfl
def N91 : Nat := 9
def R91 : List ResultVar := [(.tmp 3)]
theorem B91 : bodyT Tryz.prog 91 = true := by kernel_rfl
noncomputable def S90 : {x : SC // Tryz.f90.body.map (prepD fun _ => #[]) = some x} := ⟨_, by simp only [Tryz.f90, Option.map, prepD, prepOp, List.map, Option.bind, List.getElem?_toArray, List.getElem?_cons_succ, List.getElem?_cons_zero] <;> rfl⟩
theorem S90_eq : Tryz.f90.body.map prep = some S90.1 := by kernel_rfl
def N90 : Nat := 9
def R90 : List ResultVar := [(.tmp 4)]
theorem B90 : bodyT Tryz.prog 90 = true := by kernel_rfl
noncomputable def S129 : {x : SC // Tryz.f129.body.map (prepD fun _ => #[]) = some x} := ⟨_, by simp only [Tryz.f129, Option.map, prepD, prepOp, List.map, Option.bind, List.getElem?_toArray, List.getElem?_cons_succ, List.getElem?_cons_zero] <;> rfl⟩
theorem S129_eq : Tryz.f129.body.map prep = some S129.1 := by kernel_rfl
def N129 : Nat := 19
def R129 : List ResultVar := [(.tmp 4)]
theorem B129 : bodyT Tryz.prog 129 = true := by kernel_rfl
theorem T91 : (fieldT Tryz.prog 36 1 = (some (1, 9))) ∧ (aggT Tryz.prog 9 = (some false)) ∧ (szT Tryz.prog 9 = (some 1)) := by and_intros <;> kernel_rfl
theorem T90 : (True) := trivial
theorem T129 : (strT Tryz.prog 23 = false) ∧ (elemT Tryz.prog 23 = (some 36)) ∧ (mapT Tryz.prog 23 = none) ∧ (szT Tryz.prog 36 = (some 4)) ∧ (aggT Tryz.prog 36 = (some true)) := by and_intros <;> kernel_rfl
end Go.Ab
