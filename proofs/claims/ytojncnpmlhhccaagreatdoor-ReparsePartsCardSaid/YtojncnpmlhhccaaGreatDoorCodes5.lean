/- The functions' codes, printed by program: what each operation is, what it asks of types. -/
import Derived.Test.YtojncnpmlhhccaaGreatDoorProg
import Derived.Test.YtojncnpmlhhccaaGreatDoorAbC
import Derived.KernelRfl
set_option linter.all false
set_option maxRecDepth 100000
namespace Go.Ab
open Go Go.Proofs
noncomputable def S26 : {x : SC // Tryz.f26.body.map (prepD fun _ => #[]) = some x} := ⟨_, by simp only [Tryz.f26, Option.map, prepD, prepOp, List.map, Option.bind, List.getElem?_toArray, List.getElem?_cons_succ, List.getElem?_cons_zero] <;> rfl⟩
theorem S26_eq : Tryz.f26.body.map prep = some S26.1 := by kernel_rfl
def N26 : Nat := 12
def R26 : List ResultVar := [(.tmp 2)]
theorem B26 : bodyT Tryz.prog 26 = true := by kernel_rfl
noncomputable def S65 : {x : SC // Tryz.f65.body.map (prepD fun _ => #[]) = some x} := ⟨_, by simp only [Tryz.f65, Option.map, prepD, prepOp, List.map, Option.bind, List.getElem?_toArray, List.getElem?_cons_succ, List.getElem?_cons_zero] <;> rfl⟩
theorem S65_eq : Tryz.f65.body.map prep = some S65.1 := by kernel_rfl
def N65 : Nat := 33
def R65 : List ResultVar := [(.tmp 2), (.tmp 3)]
theorem B65 : bodyT Tryz.prog 65 = true := by kernel_rfl
noncomputable def S102 : {x : SC // Tryz.f102.body.map (prepD fun _ => #[]) = some x} := ⟨_, by simp only [Tryz.f102, Option.map, prepD, prepOp, List.map, Option.bind, List.getElem?_toArray, List.getElem?_cons_succ, List.getElem?_cons_zero] <;> rfl⟩
theorem S102_eq : Tryz.f102.body.map prep = some S102.1 := by kernel_rfl
def N102 : Nat := 75
def R102 : List ResultVar := [(.tmp 4), (.tmp 5)]
theorem B102 : bodyT Tryz.prog 102 = true := by kernel_rfl
noncomputable def S103 : {x : SC // Tryz.f103.body.map (prepD fun _ => #[]) = some x} := ⟨_, by simp only [Tryz.f103, Option.map, prepD, prepOp, List.map, Option.bind, List.getElem?_toArray, List.getElem?_cons_succ, List.getElem?_cons_zero] <;> rfl⟩
theorem S103_eq : Tryz.f103.body.map prep = some S103.1 := by kernel_rfl
def N103 : Nat := 37
def R103 : List ResultVar := [(.tmp 2)]
theorem B103 : bodyT Tryz.prog 103 = true := by kernel_rfl
noncomputable def S112 : {x : SC // Tryz.f112.body.map (prepD fun _ => #[]) = some x} := ⟨_, by simp only [Tryz.f112, Option.map, prepD, prepOp, List.map, Option.bind, List.getElem?_toArray, List.getElem?_cons_succ, List.getElem?_cons_zero] <;> rfl⟩
theorem S112_eq : Tryz.f112.body.map prep = some S112.1 := by kernel_rfl
def N112 : Nat := 67
def R112 : List ResultVar := [(.tmp 2)]
theorem B112 : bodyT Tryz.prog 112 = true := by kernel_rfl
noncomputable def S161 : {x : SC // Tryz.f161.body.map (prepD fun _ => #[]) = some x} := ⟨_, by simp only [Tryz.f161, Option.map, prepD, prepOp, List.map, Option.bind, List.getElem?_toArray, List.getElem?_cons_succ, List.getElem?_cons_zero] <;> rfl⟩
theorem S161_eq : Tryz.f161.body.map prep = some S161.1 := by kernel_rfl
def N161 : Nat := 27
def R161 : List ResultVar := [(.tmp 2), (.tmp 3)]
theorem B161 : bodyT Tryz.prog 161 = true := by kernel_rfl
noncomputable def S138 : {x : SC // Tryz.f138.body.map (prepD fun _ => #[]) = some x} := ⟨_, by simp only [Tryz.f138, Option.map, prepD, prepOp, List.map, Option.bind, List.getElem?_toArray, List.getElem?_cons_succ, List.getElem?_cons_zero] <;> rfl⟩
theorem S138_eq : Tryz.f138.body.map prep = some S138.1 := by kernel_rfl
def N138 : Nat := 33
def R138 : List ResultVar := [(.tmp 2)]
theorem B138 : bodyT Tryz.prog 138 = true := by kernel_rfl
noncomputable def S139 : {x : SC // Tryz.f139.body.map (prepD fun _ => #[]) = some x} := ⟨_, by simp only [Tryz.f139, Option.map, prepD, prepOp, List.map, Option.bind, List.getElem?_toArray, List.getElem?_cons_succ, List.getElem?_cons_zero] <;> rfl⟩
theorem S139_eq : Tryz.f139.body.map prep = some S139.1 := by kernel_rfl
def N139 : Nat := 25
def R139 : List ResultVar := [(.tmp 2)]
theorem B139 : bodyT Tryz.prog 139 = true := by kernel_rfl
noncomputable def S171 : {x : SC // Tryz.f171.body.map (prepD fun _ => #[]) = some x} := ⟨_, by simp only [Tryz.f171, Option.map, prepD, prepOp, List.map, Option.bind, List.getElem?_toArray, List.getElem?_cons_succ, List.getElem?_cons_zero] <;> rfl⟩
theorem S171_eq : Tryz.f171.body.map prep = some S171.1 := by kernel_rfl
def N171 : Nat := 58
def R171 : List ResultVar := [(.tmp 2)]
theorem B171 : bodyT Tryz.prog 171 = true := by kernel_rfl
noncomputable def S159 : {x : SC // Tryz.f159.body.map (prepD fun _ => #[]) = some x} := ⟨_, by simp only [Tryz.f159, Option.map, prepD, prepOp, List.map, Option.bind, List.getElem?_toArray, List.getElem?_cons_succ, List.getElem?_cons_zero] <;> rfl⟩
theorem S159_eq : Tryz.f159.body.map prep = some S159.1 := by kernel_rfl
def N159 : Nat := 25
def R159 : List ResultVar := [(.tmp 6)]
theorem B159 : bodyT Tryz.prog 159 = true := by kernel_rfl
noncomputable def S160 : {x : SC // Tryz.f160.body.map (prepD fun _ => #[]) = some x} := ⟨_, by simp only [Tryz.f160, Option.map, prepD, prepOp, List.map, Option.bind, List.getElem?_toArray, List.getElem?_cons_succ, List.getElem?_cons_zero] <;> rfl⟩
theorem S160_eq : Tryz.f160.body.map prep = some S160.1 := by kernel_rfl
def N160 : Nat := 32
def R160 : List ResultVar := [(.tmp 2)]
theorem B160 : bodyT Tryz.prog 160 = true := by kernel_rfl
noncomputable def D135 := drawIn Tryz.f135
noncomputable def L135_6 : {l : List MOp // (D135 6).toList.map (prepOp (D135 6)) = l} := ⟨_, by simp only [D135, drawIn, Tryz.f135, drawOf, cond_true, cond_false, Nat.reduceBEq, Option.getD, Option.map, prepD, prepOp, List.map, Option.bind, List.getElem?_toArray, List.getElem?_cons_succ, List.getElem?_cons_zero] <;> rfl⟩
theorem L135_6_eq : (D135 6).toList.map (prepOp (D135 6)) = L135_6.1 := L135_6.2
theorem P135_6_eq : drawPlan (D135 6) = (some []) := by kernel_rfl
noncomputable def S135 : {x : SC // Tryz.f135.body.map (prepD D135) = some x} := ⟨_, by simp only [Tryz.f135, Option.map, prepD, prepOp, List.map, Option.bind, List.getElem?_toArray, List.getElem?_cons_succ, List.getElem?_cons_zero] <;> rfl⟩
theorem S135_eq : Tryz.f135.body.map prep = some S135.1 := by kernel_rfl
def N135 : Nat := 96
def R135 : List ResultVar := [(.tmp 4), (.tmp 5)]
theorem B135 : bodyT Tryz.prog 135 = true := by kernel_rfl
theorem T26 : (True) := trivial
theorem T65 : (strT Tryz.prog 9 = true) ∧ (elemT Tryz.prog 9 = none) ∧ (mapT Tryz.prog 9 = none) ∧ (elemT Tryz.prog 33 = (some 3)) ∧ (zeroA Tryz.prog 3 = (some (.int .i64 0))) ∧ (szT Tryz.prog 3 = (some 1)) ∧ (rowT Tryz.prog 33 = (some (3, (1, false)))) ∧ (strT Tryz.prog 33 = false) := by and_intros <;> kernel_rfl
theorem T102 : (strT Tryz.prog 9 = true) ∧ (elemT Tryz.prog 9 = none) ∧ (hasT Tryz.prog 5 = true) ∧ (intT Tryz.prog 3 = (some .i64)) ∧ (strT Tryz.prog 3 = false) ∧ (elemT Tryz.prog 3 = none) ∧ (elemT Tryz.prog 5 = none) ∧ (mapT Tryz.prog 9 = none) := by and_intros <;> kernel_rfl
theorem T103 : (True) := trivial
theorem T112 : (strT Tryz.prog 33 = false) ∧ (elemT Tryz.prog 33 = (some 3)) ∧ (mapT Tryz.prog 33 = none) ∧ (szT Tryz.prog 3 = (some 1)) ∧ (aggT Tryz.prog 3 = (some false)) := by and_intros <;> kernel_rfl
theorem T161 : (strT Tryz.prog 33 = false) ∧ (elemT Tryz.prog 33 = (some 3)) ∧ (mapT Tryz.prog 33 = none) ∧ (szT Tryz.prog 3 = (some 1)) ∧ (aggT Tryz.prog 3 = (some false)) ∧ (rowT Tryz.prog 67 = (some (5, (1, true)))) ∧ (strT Tryz.prog 9 = true) ∧ (hasT Tryz.prog 67 = true) ∧ (intT Tryz.prog 9 = none) ∧ (elemT Tryz.prog 9 = none) ∧ (elemT Tryz.prog 67 = (some 5)) ∧ (intT Tryz.prog 5 = (some .u8)) := by and_intros <;> kernel_rfl
theorem T138 : (True) := trivial
theorem T139 : (True) := trivial
theorem T171 : (hasT Tryz.prog 3 = true) ∧ (intT Tryz.prog 5 = (some .u8)) ∧ (strT Tryz.prog 5 = false) ∧ (elemT Tryz.prog 5 = none) ∧ (elemT Tryz.prog 3 = none) ∧ (elemT Tryz.prog 67 = (some 5)) ∧ (zeroA Tryz.prog 5 = (some (.int .u8 0))) ∧ (szT Tryz.prog 5 = (some 1)) ∧ (hasT Tryz.prog 67 = true) ∧ (intT Tryz.prog 9 = none) ∧ (strT Tryz.prog 9 = true) ∧ (elemT Tryz.prog 9 = none) := by and_intros <;> kernel_rfl
theorem T159 : (strT Tryz.prog 9 = true) ∧ (elemT Tryz.prog 9 = none) ∧ (mapT Tryz.prog 9 = none) := by and_intros <;> kernel_rfl
theorem T160 : (hasT Tryz.prog 5 = true) ∧ (intT Tryz.prog 3 = (some .i64)) ∧ (strT Tryz.prog 3 = false) ∧ (elemT Tryz.prog 3 = none) ∧ (elemT Tryz.prog 5 = none) := by and_intros <;> kernel_rfl
theorem T135 : (elemT Tryz.prog 46 = (some 9)) ∧ (zeroA Tryz.prog 9 = (some (.str []))) ∧ (szT Tryz.prog 9 = (some 1)) ∧ (strT Tryz.prog 46 = false) ∧ (mapT Tryz.prog 46 = none) ∧ (aggT Tryz.prog 9 = (some false)) ∧ (strT Tryz.prog 9 = true) ∧ (elemT Tryz.prog 9 = none) ∧ (mapT Tryz.prog 9 = none) ∧ (elemT Tryz.prog 33 = (some 3)) ∧ (zeroA Tryz.prog 3 = (some (.int .i64 0))) ∧ (szT Tryz.prog 3 = (some 1)) := by and_intros <;> kernel_rfl
end Go.Ab
