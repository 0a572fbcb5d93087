/- The functions' codes, printed by program: what each operation is, what it asks of types. -/
import Derived.Test.YtojncnpmlhhccaaGreatDoorProg
import Derived.Test.YtojncnpmlhhccaaGreatDoorAbC
import Derived.KernelRfl
set_option linter.all false
set_option maxRecDepth 100000
namespace Go.Ab
open Go Go.Proofs
noncomputable def S108 : {x : SC // Tryz.f108.body.map (prepD fun _ => #[]) = some x} := ⟨_, by simp only [Tryz.f108, Option.map, prepD, prepOp, List.map, Option.bind, List.getElem?_toArray, List.getElem?_cons_succ, List.getElem?_cons_zero] <;> rfl⟩
theorem S108_eq : Tryz.f108.body.map prep = some S108.1 := by kernel_rfl
def N108 : Nat := 15
def R108 : List ResultVar := [(.tmp 2)]
theorem B108 : bodyT Tryz.prog 108 = true := by kernel_rfl
noncomputable def S136 : {x : SC // Tryz.f136.body.map (prepD fun _ => #[]) = some x} := ⟨_, by simp only [Tryz.f136, Option.map, prepD, prepOp, List.map, Option.bind, List.getElem?_toArray, List.getElem?_cons_succ, List.getElem?_cons_zero] <;> rfl⟩
theorem S136_eq : Tryz.f136.body.map prep = some S136.1 := by kernel_rfl
def N136 : Nat := 17
def R136 : List ResultVar := [(.tmp 2)]
theorem B136 : bodyT Tryz.prog 136 = true := by kernel_rfl
theorem T108 : (strT Tryz.prog 9 = true) ∧ (elemT Tryz.prog 9 = none) ∧ (mapT Tryz.prog 9 = none) := by and_intros <;> kernel_rfl
end Go.Ab
