/- The functions' codes, printed by program: what each operation is, what it asks of types. -/
import Derived.Test.YtebgjmoihhbjjaaGreatDoorProg
import Derived.Test.YtebgjmoihhbjjaaGreatDoorAbC
import Derived.KernelRfl
set_option linter.all false
set_option maxRecDepth 100000
namespace Go.Ab
open Go Go.Proofs
noncomputable def S84 : {x : SC // Tryz.f84.body.map (prepD fun _ => #[]) = some x} := ⟨_, by simp only [Tryz.f84, Option.map, prepD, prepOp, List.map, Option.bind, List.getElem?_toArray, List.getElem?_cons_succ, List.getElem?_cons_zero] <;> rfl⟩
theorem S84_eq : Tryz.f84.body.map prep = some S84.1 := by kernel_rfl
def N84 : Nat := 13
def R84 : List ResultVar := [(.tmp 2)]
theorem B84 : bodyT Tryz.prog 84 = true := by kernel_rfl
noncomputable def S114 : {x : SC // Tryz.f114.body.map (prepD fun _ => #[]) = some x} := ⟨_, by simp only [Tryz.f114, Option.map, prepD, prepOp, List.map, Option.bind, List.getElem?_toArray, List.getElem?_cons_succ, List.getElem?_cons_zero] <;> rfl⟩
theorem S114_eq : Tryz.f114.body.map prep = some S114.1 := by kernel_rfl
def N114 : Nat := 18
def R114 : List ResultVar := [(.tmp 4)]
theorem B114 : bodyT Tryz.prog 114 = true := by kernel_rfl
noncomputable def S113 : {x : SC // Tryz.f113.body.map (prepD fun _ => #[]) = some x} := ⟨_, by simp only [Tryz.f113, Option.map, prepD, prepOp, List.map, Option.bind, List.getElem?_toArray, List.getElem?_cons_succ, List.getElem?_cons_zero] <;> rfl⟩
theorem S113_eq : Tryz.f113.body.map prep = some S113.1 := by kernel_rfl
def N113 : Nat := 29
def R113 : List ResultVar := [(.tmp 6)]
theorem B113 : bodyT Tryz.prog 113 = true := by kernel_rfl
noncomputable def S61 : {x : SC // Tryz.f61.body.map (prepD fun _ => #[]) = some x} := ⟨_, by simp only [Tryz.f61, Option.map, prepD, prepOp, List.map, Option.bind, List.getElem?_toArray, List.getElem?_cons_succ, List.getElem?_cons_zero] <;> rfl⟩
theorem S61_eq : Tryz.f61.body.map prep = some S61.1 := by kernel_rfl
def N61 : Nat := 26
def R61 : List ResultVar := [(.tmp 2)]
theorem B61 : bodyT Tryz.prog 61 = true := by kernel_rfl
noncomputable def S85 : {x : SC // Tryz.f85.body.map (prepD fun _ => #[]) = some x} := ⟨_, by simp only [Tryz.f85, Option.map, prepD, prepOp, List.map, Option.bind, List.getElem?_toArray, List.getElem?_cons_succ, List.getElem?_cons_zero] <;> rfl⟩
theorem S85_eq : Tryz.f85.body.map prep = some S85.1 := by kernel_rfl
def N85 : Nat := 32
def R85 : List ResultVar := [(.tmp 4), (.tmp 5), (.tmp 6)]
theorem B85 : bodyT Tryz.prog 85 = true := by kernel_rfl
noncomputable def S88 : {x : SC // Tryz.f88.body.map (prepD fun _ => #[]) = some x} := ⟨_, by simp only [Tryz.f88, Option.map, prepD, prepOp, List.map, Option.bind, List.getElem?_toArray, List.getElem?_cons_succ, List.getElem?_cons_zero] <;> rfl⟩
theorem S88_eq : Tryz.f88.body.map prep = some S88.1 := by kernel_rfl
def N88 : Nat := 37
def R88 : List ResultVar := [(.tmp 4), (.tmp 5), (.tmp 6)]
theorem B88 : bodyT Tryz.prog 88 = true := by kernel_rfl
noncomputable def D89 := drawIn Tryz.f89
noncomputable def L89_11 : {l : List MOp // (D89 11).toList.map (prepOp (D89 11)) = l} := ⟨_, by simp only [D89, drawIn, Tryz.f89, drawOf, cond_true, cond_false, Nat.reduceBEq, Option.getD, Option.map, prepD, prepOp, List.map, Option.bind, List.getElem?_toArray, List.getElem?_cons_succ, List.getElem?_cons_zero] <;> rfl⟩
theorem L89_11_eq : (D89 11).toList.map (prepOp (D89 11)) = L89_11.1 := L89_11.2
theorem P89_11_eq : drawPlan (D89 11) = (some []) := by kernel_rfl
noncomputable def S89 : {x : SC // Tryz.f89.body.map (prepD D89) = some x} := ⟨_, by simp only [Tryz.f89, Option.map, prepD, prepOp, List.map, Option.bind, List.getElem?_toArray, List.getElem?_cons_succ, List.getElem?_cons_zero] <;> rfl⟩
theorem S89_eq : Tryz.f89.body.map prep = some S89.1 := by kernel_rfl
def N89 : Nat := 61
def R89 : List ResultVar := [(.tmp 4), (.tmp 5), (.tmp 6), (.tmp 7)]
theorem B89 : bodyT Tryz.prog 89 = true := by kernel_rfl
noncomputable def S90 : {x : SC // Tryz.f90.body.map (prepD fun _ => #[]) = some x} := ⟨_, by simp only [Tryz.f90, Option.map, prepD, prepOp, List.map, Option.bind, List.getElem?_toArray, List.getElem?_cons_succ, List.getElem?_cons_zero] <;> rfl⟩
theorem S90_eq : Tryz.f90.body.map prep = some S90.1 := by kernel_rfl
def N90 : Nat := 36
def R90 : List ResultVar := [(.tmp 4), (.tmp 5), (.tmp 6)]
theorem B90 : bodyT Tryz.prog 90 = true := by kernel_rfl
noncomputable def S125 : {x : SC // Tryz.f125.body.map (prepD fun _ => #[]) = some x} := ⟨_, by simp only [Tryz.f125, Option.map, prepD, prepOp, List.map, Option.bind, List.getElem?_toArray, List.getElem?_cons_succ, List.getElem?_cons_zero] <;> rfl⟩
theorem S125_eq : Tryz.f125.body.map prep = some S125.1 := by kernel_rfl
def N125 : Nat := 15
def R125 : List ResultVar := [(.tmp 2), (.tmp 3)]
theorem B125 : bodyT Tryz.prog 125 = true := by kernel_rfl
noncomputable def S97 : {x : SC // Tryz.f97.body.map (prepD fun _ => #[]) = some x} := ⟨_, by simp only [Tryz.f97, Option.map, prepD, prepOp, List.map, Option.bind, List.getElem?_toArray, List.getElem?_cons_succ, List.getElem?_cons_zero] <;> rfl⟩
theorem S97_eq : Tryz.f97.body.map prep = some S97.1 := by kernel_rfl
def N97 : Nat := 33
def R97 : List ResultVar := [(.tmp 2)]
theorem B97 : bodyT Tryz.prog 97 = true := by kernel_rfl
noncomputable def S48 : {x : SC // Tryz.f48.body.map (prepD fun _ => #[]) = some x} := ⟨_, by simp only [Tryz.f48, Option.map, prepD, prepOp, List.map, Option.bind, List.getElem?_toArray, List.getElem?_cons_succ, List.getElem?_cons_zero] <;> rfl⟩
theorem S48_eq : Tryz.f48.body.map prep = some S48.1 := by kernel_rfl
def N48 : Nat := 33
def R48 : List ResultVar := [(.tmp 2)]
theorem B48 : bodyT Tryz.prog 48 = true := by kernel_rfl
noncomputable def S25 : {x : SC // Tryz.f25.body.map (prepD fun _ => #[]) = some x} := ⟨_, by simp only [Tryz.f25, Option.map, prepD, prepOp, List.map, Option.bind, List.getElem?_toArray, List.getElem?_cons_succ, List.getElem?_cons_zero] <;> rfl⟩
theorem S25_eq : Tryz.f25.body.map prep = some S25.1 := by kernel_rfl
def N25 : Nat := 25
def R25 : List ResultVar := [(.tmp 2)]
theorem B25 : bodyT Tryz.prog 25 = true := by kernel_rfl
noncomputable def S73 : {x : SC // Tryz.f73.body.map (prepD fun _ => #[]) = some x} := ⟨_, by simp only [Tryz.f73, Option.map, prepD, prepOp, List.map, Option.bind, List.getElem?_toArray, List.getElem?_cons_succ, List.getElem?_cons_zero] <;> rfl⟩
theorem S73_eq : Tryz.f73.body.map prep = some S73.1 := by kernel_rfl
def N73 : Nat := 40
def R73 : List ResultVar := [(.tmp 2)]
theorem B73 : bodyT Tryz.prog 73 = true := by kernel_rfl
noncomputable def S43 : {x : SC // Tryz.f43.body.map (prepD fun _ => #[]) = some x} := ⟨_, by simp only [Tryz.f43, Option.map, prepD, prepOp, List.map, Option.bind, List.getElem?_toArray, List.getElem?_cons_succ, List.getElem?_cons_zero] <;> rfl⟩
theorem S43_eq : Tryz.f43.body.map prep = some S43.1 := by kernel_rfl
def N43 : Nat := 30
def R43 : List ResultVar := [(.tmp 2)]
theorem B43 : bodyT Tryz.prog 43 = true := by kernel_rfl
noncomputable def S127 : {x : SC // Tryz.f127.body.map (prepD fun _ => #[]) = some x} := ⟨_, by simp only [Tryz.f127, Option.map, prepD, prepOp, List.map, Option.bind, List.getElem?_toArray, List.getElem?_cons_succ, List.getElem?_cons_zero] <;> rfl⟩
theorem S127_eq : Tryz.f127.body.map prep = some S127.1 := by kernel_rfl
def N127 : Nat := 30
def R127 : List ResultVar := [(.tmp 2), (.tmp 3)]
theorem B127 : bodyT Tryz.prog 127 = true := by kernel_rfl
theorem T84 : (True) := trivial
theorem T114 : (strT Tryz.prog 9 = true) ∧ (elemT Tryz.prog 9 = none) ∧ (mapT Tryz.prog 9 = none) := by and_intros <;> kernel_rfl
theorem T113 : (strT Tryz.prog 9 = true) ∧ (elemT Tryz.prog 9 = none) ∧ (mapT Tryz.prog 9 = none) := by and_intros <;> kernel_rfl
theorem T61 : (strT Tryz.prog 9 = true) ∧ (elemT Tryz.prog 9 = none) ∧ (mapT Tryz.prog 9 = none) := by and_intros <;> kernel_rfl
theorem T85 : (strT Tryz.prog 9 = true) ∧ (elemT Tryz.prog 9 = none) ∧ (mapT Tryz.prog 9 = none) := by and_intros <;> kernel_rfl
theorem T88 : (strT Tryz.prog 9 = true) ∧ (elemT Tryz.prog 9 = none) ∧ (mapT Tryz.prog 9 = none) := by and_intros <;> kernel_rfl
theorem T89 : (strT Tryz.prog 9 = true) ∧ (elemT Tryz.prog 9 = none) := by and_intros <;> kernel_rfl
theorem T90 : (strT Tryz.prog 9 = true) ∧ (elemT Tryz.prog 9 = none) := by and_intros <;> kernel_rfl
theorem T125 : (True) := trivial
theorem T97 : (True) := trivial
theorem T48 : (True) := trivial
theorem T25 : (strT Tryz.prog 9 = true) ∧ (elemT Tryz.prog 9 = none) := by and_intros <;> kernel_rfl
theorem T73 : (strT Tryz.prog 9 = true) := by kernel_rfl
theorem T43 : (True) := trivial
theorem T127 : (zeroA Tryz.prog 90 = (some (.agg [.nilp, .nils]))) ∧ (strT Tryz.prog 33 = false) ∧ (elemT Tryz.prog 33 = (some 3)) ∧ (mapT Tryz.prog 33 = none) ∧ (szT Tryz.prog 3 = (some 1)) ∧ (aggT Tryz.prog 3 = (some false)) ∧ (hasT Tryz.prog 3 = true) ∧ (intT Tryz.prog 21 = (some .i32)) ∧ (strT Tryz.prog 21 = false) ∧ (elemT Tryz.prog 21 = none) ∧ (elemT Tryz.prog 3 = none) := by and_intros <;> kernel_rfl
theorem mixedOrders : Tryz.prog.follows .mixedOrders = true := by kernel_rfl
end Go.Ab
