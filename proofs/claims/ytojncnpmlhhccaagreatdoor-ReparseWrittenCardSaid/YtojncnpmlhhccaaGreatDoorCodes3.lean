/- The functions' codes, printed by program: what each operation is, what it asks of types. -/
import Derived.Test.YtojncnpmlhhccaaGreatDoorProg
import Derived.Test.YtojncnpmlhhccaaGreatDoorAbC
import Derived.KernelRfl
set_option linter.all false
set_option maxRecDepth 100000
namespace Go.Ab
open Go Go.Proofs
noncomputable def S118 : {x : SC // Tryz.f118.body.map (prepD fun _ => #[]) = some x} := ⟨_, by simp only [Tryz.f118, Option.map, prepD, prepOp, List.map, Option.bind, List.getElem?_toArray, List.getElem?_cons_succ, List.getElem?_cons_zero] <;> rfl⟩
theorem S118_eq : Tryz.f118.body.map prep = some S118.1 := by kernel_rfl
def N118 : Nat := 10
def R118 : List ResultVar := [(.tmp 2)]
theorem B118 : bodyT Tryz.prog 118 = true := by kernel_rfl
noncomputable def S157 : {x : SC // Tryz.f157.body.map (prepD fun _ => #[]) = some x} := ⟨_, by simp only [Tryz.f157, Option.map, prepD, prepOp, List.map, Option.bind, List.getElem?_toArray, List.getElem?_cons_succ, List.getElem?_cons_zero] <;> rfl⟩
theorem S157_eq : Tryz.f157.body.map prep = some S157.1 := by kernel_rfl
def N157 : Nat := 26
def R157 : List ResultVar := [(.tmp 6), (.tmp 7)]
noncomputable def S169 : {x : SC // Tryz.f169.body.map (prepD fun _ => #[]) = some x} := ⟨_, by simp only [Tryz.f169, Option.map, prepD, prepOp, List.map, Option.bind, List.getElem?_toArray, List.getElem?_cons_succ, List.getElem?_cons_zero] <;> rfl⟩
theorem S169_eq : Tryz.f169.body.map prep = some S169.1 := by kernel_rfl
def N169 : Nat := 172
def R169 : List ResultVar := [(.tmp 6), (.tmp 7)]
theorem B169 : bodyT Tryz.prog 169 = true := by kernel_rfl
theorem B170 : bodyT Tryz.prog 170 = true := by kernel_rfl
noncomputable def S174 : {x : SC // Tryz.f174.body.map (prepD fun _ => #[]) = some x} := ⟨_, by simp only [Tryz.f174, Option.map, prepD, prepOp, List.map, Option.bind, List.getElem?_toArray, List.getElem?_cons_succ, List.getElem?_cons_zero] <;> rfl⟩
theorem S174_eq : Tryz.f174.body.map prep = some S174.1 := by kernel_rfl
def N174 : Nat := 5
def R174 : List ResultVar := [(.tmp 2)]
theorem B174 : bodyT Tryz.prog 174 = true := by kernel_rfl
noncomputable def S122 : {x : SC // Tryz.f122.body.map (prepD fun _ => #[]) = some x} := ⟨_, by simp only [Tryz.f122, Option.map, prepD, prepOp, List.map, Option.bind, List.getElem?_toArray, List.getElem?_cons_succ, List.getElem?_cons_zero] <;> rfl⟩
theorem S122_eq : Tryz.f122.body.map prep = some S122.1 := by kernel_rfl
def N122 : Nat := 30
def R122 : List ResultVar := [(.tmp 4), (.tmp 5)]
theorem B122 : bodyT Tryz.prog 122 = true := by kernel_rfl
noncomputable def S145 : {x : SC // Tryz.f145.body.map (prepD fun _ => #[]) = some x} := ⟨_, by simp only [Tryz.f145, Option.map, prepD, prepOp, List.map, Option.bind, List.getElem?_toArray, List.getElem?_cons_succ, List.getElem?_cons_zero] <;> rfl⟩
theorem S145_eq : Tryz.f145.body.map prep = some S145.1 := by kernel_rfl
def N145 : Nat := 16
def R145 : List ResultVar := [(.tmp 4)]
theorem B145 : bodyT Tryz.prog 145 = true := by kernel_rfl
noncomputable def S164 : {x : SC // Tryz.f164.body.map (prepD fun _ => #[]) = some x} := ⟨_, by simp only [Tryz.f164, Option.map, prepD, prepOp, List.map, Option.bind, List.getElem?_toArray, List.getElem?_cons_succ, List.getElem?_cons_zero] <;> rfl⟩
theorem S164_eq : Tryz.f164.body.map prep = some S164.1 := by kernel_rfl
def N164 : Nat := 78
def R164 : List ResultVar := [(.tmp 4)]
theorem B164 : bodyT Tryz.prog 164 = true := by kernel_rfl
noncomputable def S38 : {x : SC // Tryz.f38.body.map (prepD fun _ => #[]) = some x} := ⟨_, by simp only [Tryz.f38, Option.map, prepD, prepOp, List.map, Option.bind, List.getElem?_toArray, List.getElem?_cons_succ, List.getElem?_cons_zero] <;> rfl⟩
theorem S38_eq : Tryz.f38.body.map prep = some S38.1 := by kernel_rfl
def N38 : Nat := 19
def R38 : List ResultVar := [(.tmp 4), (.tmp 5)]
theorem B38 : bodyT Tryz.prog 38 = true := by kernel_rfl
theorem T118 : (strT Tryz.prog 9 = true) := by kernel_rfl
theorem T157 : (ifaceT Tryz.prog 74 = (some true)) := by kernel_rfl
theorem T169 : (ifaceT Tryz.prog 225 = (some false)) ∧ (strT Tryz.prog 9 = true) ∧ (elemT Tryz.prog 9 = none) ∧ (mapT Tryz.prog 9 = none) ∧ (hasT Tryz.prog 3 = true) ∧ (intT Tryz.prog 128 = (some .u64)) ∧ (strT Tryz.prog 128 = false) ∧ (elemT Tryz.prog 128 = none) ∧ (elemT Tryz.prog 3 = none) ∧ (intT Tryz.prog 78 = (some .u64)) ∧ (strT Tryz.prog 78 = false) ∧ (elemT Tryz.prog 78 = none) ∧ (hasT Tryz.prog 9 = true) ∧ (intT Tryz.prog 67 = none) ∧ (strT Tryz.prog 67 = false) ∧ (elemT Tryz.prog 67 = (some 5)) ∧ (intT Tryz.prog 5 = (some .u8)) ∧ (mapT Tryz.prog 67 = none) ∧ (szT Tryz.prog 5 = (some 1)) ∧ (aggT Tryz.prog 5 = (some false)) ∧ (strT Tryz.prog 5 = false) ∧ (elemT Tryz.prog 5 = none) ∧ (hasT Tryz.prog 5 = true) := by and_intros <;> kernel_rfl
theorem T174 : (True) := trivial
theorem T122 : (fieldT Tryz.prog 69 1 = (some (1, 67))) ∧ (aggT Tryz.prog 67 = (some false)) ∧ (szT Tryz.prog 67 = (some 1)) ∧ (strT Tryz.prog 67 = false) ∧ (elemT Tryz.prog 67 = (some 5)) ∧ (mapT Tryz.prog 67 = none) := by and_intros <;> kernel_rfl
theorem T145 : (hasT Tryz.prog 21 = true) ∧ (intT Tryz.prog 125 = (some .u32)) ∧ (strT Tryz.prog 125 = false) ∧ (elemT Tryz.prog 125 = none) ∧ (elemT Tryz.prog 21 = none) ∧ (intT Tryz.prog 5 = (some .u8)) ∧ (strT Tryz.prog 5 = false) ∧ (elemT Tryz.prog 5 = none) ∧ (elemT Tryz.prog 67 = (some 5)) ∧ (zeroA Tryz.prog 5 = (some (.int .u8 0))) ∧ (szT Tryz.prog 5 = (some 1)) ∧ (rowT Tryz.prog 67 = (some (5, (1, true)))) ∧ (strT Tryz.prog 67 = false) := by and_intros <;> kernel_rfl
theorem T164 : (hasT Tryz.prog 21 = true) ∧ (intT Tryz.prog 125 = (some .u32)) ∧ (strT Tryz.prog 125 = false) ∧ (elemT Tryz.prog 125 = none) ∧ (elemT Tryz.prog 21 = none) ∧ (intT Tryz.prog 5 = (some .u8)) ∧ (strT Tryz.prog 5 = false) ∧ (elemT Tryz.prog 5 = none) ∧ (elemT Tryz.prog 67 = (some 5)) ∧ (zeroA Tryz.prog 5 = (some (.int .u8 0))) ∧ (szT Tryz.prog 5 = (some 1)) ∧ (rowT Tryz.prog 67 = (some (5, (1, true)))) ∧ (strT Tryz.prog 67 = false) := by and_intros <;> kernel_rfl
theorem T38 : (fieldT Tryz.prog 69 1 = (some (1, 67))) ∧ (aggT Tryz.prog 67 = (some false)) ∧ (szT Tryz.prog 67 = (some 1)) ∧ (rowT Tryz.prog 67 = (some (5, (1, true)))) ∧ (strT Tryz.prog 9 = true) ∧ (elemT Tryz.prog 9 = none) ∧ (mapT Tryz.prog 9 = none) := by and_intros <;> kernel_rfl
end Go.Ab
