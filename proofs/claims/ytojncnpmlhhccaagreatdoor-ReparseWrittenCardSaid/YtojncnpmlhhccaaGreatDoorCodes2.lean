/- The functions' codes, printed by program: what each operation is, what it asks of types. -/
import Derived.Test.YtojncnpmlhhccaaGreatDoorProg
import Derived.Test.YtojncnpmlhhccaaGreatDoorAbC
import Derived.KernelRfl
set_option linter.all false
set_option maxRecDepth 100000
namespace Go.Ab
open Go Go.Proofs
noncomputable def S143 : {x : SC // Tryz.f143.body.map (prepD fun _ => #[]) = some x} := ⟨_, by simp only [Tryz.f143, Option.map, prepD, prepOp, List.map, Option.bind, List.getElem?_toArray, List.getElem?_cons_succ, List.getElem?_cons_zero] <;> rfl⟩
theorem S143_eq : Tryz.f143.body.map prep = some S143.1 := by kernel_rfl
def N143 : Nat := 33
def R143 : List ResultVar := [(.tmp 2)]
theorem B143 : bodyT Tryz.prog 143 = true := by kernel_rfl
noncomputable def S58 : {x : SC // Tryz.f58.body.map (prepD fun _ => #[]) = some x} := ⟨_, by simp only [Tryz.f58, Option.map, prepD, prepOp, List.map, Option.bind, List.getElem?_toArray, List.getElem?_cons_succ, List.getElem?_cons_zero] <;> rfl⟩
theorem S58_eq : Tryz.f58.body.map prep = some S58.1 := by kernel_rfl
def N58 : Nat := 33
def R58 : List ResultVar := [(.tmp 2)]
theorem B58 : bodyT Tryz.prog 58 = true := by kernel_rfl
noncomputable def S23 : {x : SC // Tryz.f23.body.map (prepD fun _ => #[]) = some x} := ⟨_, by simp only [Tryz.f23, Option.map, prepD, prepOp, List.map, Option.bind, List.getElem?_toArray, List.getElem?_cons_succ, List.getElem?_cons_zero] <;> rfl⟩
theorem S23_eq : Tryz.f23.body.map prep = some S23.1 := by kernel_rfl
def N23 : Nat := 25
def R23 : List ResultVar := [(.tmp 2)]
theorem B23 : bodyT Tryz.prog 23 = true := by kernel_rfl
noncomputable def S119 : {x : SC // Tryz.f119.body.map (prepD fun _ => #[]) = some x} := ⟨_, by simp only [Tryz.f119, Option.map, prepD, prepOp, List.map, Option.bind, List.getElem?_toArray, List.getElem?_cons_succ, List.getElem?_cons_zero] <;> rfl⟩
theorem S119_eq : Tryz.f119.body.map prep = some S119.1 := by kernel_rfl
def N119 : Nat := 40
def R119 : List ResultVar := [(.tmp 2)]
theorem B119 : bodyT Tryz.prog 119 = true := by kernel_rfl
noncomputable def S80 : {x : SC // Tryz.f80.body.map (prepD fun _ => #[]) = some x} := ⟨_, by simp only [Tryz.f80, Option.map, prepD, prepOp, List.map, Option.bind, List.getElem?_toArray, List.getElem?_cons_succ, List.getElem?_cons_zero] <;> rfl⟩
theorem S80_eq : Tryz.f80.body.map prep = some S80.1 := by kernel_rfl
def N80 : Nat := 30
def R80 : List ResultVar := [(.tmp 2)]
theorem B80 : bodyT Tryz.prog 80 = true := by kernel_rfl
noncomputable def S82 : {x : SC // Tryz.f82.body.map (prepD fun _ => #[]) = some x} := ⟨_, by simp only [Tryz.f82, Option.map, prepD, prepOp, List.map, Option.bind, List.getElem?_toArray, List.getElem?_cons_succ, List.getElem?_cons_zero] <;> rfl⟩
theorem S82_eq : Tryz.f82.body.map prep = some S82.1 := by kernel_rfl
def N82 : Nat := 30
def R82 : List ResultVar := [(.tmp 2), (.tmp 3)]
theorem B82 : bodyT Tryz.prog 82 = true := by kernel_rfl
theorem T143 : (True) := trivial
theorem T58 : (True) := trivial
theorem T23 : (strT Tryz.prog 9 = true) ∧ (elemT Tryz.prog 9 = none) := by and_intros <;> kernel_rfl
theorem T119 : (strT Tryz.prog 9 = true) := by kernel_rfl
theorem T80 : (True) := trivial
theorem T82 : (zeroA Tryz.prog 69 = (some (.agg [.nilp, .nils]))) ∧ (strT Tryz.prog 33 = false) ∧ (elemT Tryz.prog 33 = (some 3)) ∧ (mapT Tryz.prog 33 = none) ∧ (szT Tryz.prog 3 = (some 1)) ∧ (aggT Tryz.prog 3 = (some false)) ∧ (hasT Tryz.prog 3 = true) ∧ (intT Tryz.prog 21 = (some .i32)) ∧ (strT Tryz.prog 21 = false) ∧ (elemT Tryz.prog 21 = none) ∧ (elemT Tryz.prog 3 = none) := by and_intros <;> kernel_rfl
theorem mixedOrders : Tryz.prog.follows .mixedOrders = true := by kernel_rfl
end Go.Ab
