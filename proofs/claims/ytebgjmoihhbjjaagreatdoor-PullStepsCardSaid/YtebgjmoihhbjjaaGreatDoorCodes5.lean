/- The functions' codes, printed by program: what each operation is, what it asks of types. -/
import Derived.Test.YtebgjmoihhbjjaaGreatDoorProg
import Derived.Test.YtebgjmoihhbjjaaGreatDoorAbC
import Derived.KernelRfl
set_option linter.all false
set_option maxRecDepth 100000
namespace Go.Ab
open Go Go.Proofs
noncomputable def S16 : {x : SC // Tryz.f16.body.map (prepD fun _ => #[]) = some x} := ⟨_, by simp only [Tryz.f16, Option.map, prepD, prepOp, List.map, Option.bind, List.getElem?_toArray, List.getElem?_cons_succ, List.getElem?_cons_zero] <;> rfl⟩
theorem S16_eq : Tryz.f16.body.map prep = some S16.1 := by kernel_rfl
def N16 : Nat := 12
def R16 : List ResultVar := [(.tmp 2)]
theorem B16 : bodyT Tryz.prog 16 = true := by kernel_rfl
noncomputable def S26 : {x : SC // Tryz.f26.body.map (prepD fun _ => #[]) = some x} := ⟨_, by simp only [Tryz.f26, Option.map, prepD, prepOp, List.map, Option.bind, List.getElem?_toArray, List.getElem?_cons_succ, List.getElem?_cons_zero] <;> rfl⟩
theorem S26_eq : Tryz.f26.body.map prep = some S26.1 := by kernel_rfl
def N26 : Nat := 33
def R26 : List ResultVar := [(.tmp 2), (.tmp 3)]
theorem B26 : bodyT Tryz.prog 26 = true := by kernel_rfl
noncomputable def S49 : {x : SC // Tryz.f49.body.map (prepD fun _ => #[]) = some x} := ⟨_, by simp only [Tryz.f49, Option.map, prepD, prepOp, List.map, Option.bind, List.getElem?_toArray, List.getElem?_cons_succ, List.getElem?_cons_zero] <;> rfl⟩
theorem S49_eq : Tryz.f49.body.map prep = some S49.1 := by kernel_rfl
def N49 : Nat := 75
def R49 : List ResultVar := [(.tmp 4), (.tmp 5)]
theorem B49 : bodyT Tryz.prog 49 = true := by kernel_rfl
noncomputable def S50 : {x : SC // Tryz.f50.body.map (prepD fun _ => #[]) = some x} := ⟨_, by simp only [Tryz.f50, Option.map, prepD, prepOp, List.map, Option.bind, List.getElem?_toArray, List.getElem?_cons_succ, List.getElem?_cons_zero] <;> rfl⟩
theorem S50_eq : Tryz.f50.body.map prep = some S50.1 := by kernel_rfl
def N50 : Nat := 37
def R50 : List ResultVar := [(.tmp 2)]
theorem B50 : bodyT Tryz.prog 50 = true := by kernel_rfl
noncomputable def S79 : {x : SC // Tryz.f79.body.map (prepD fun _ => #[]) = some x} := ⟨_, by simp only [Tryz.f79, Option.map, prepD, prepOp, List.map, Option.bind, List.getElem?_toArray, List.getElem?_cons_succ, List.getElem?_cons_zero] <;> rfl⟩
theorem S79_eq : Tryz.f79.body.map prep = some S79.1 := by kernel_rfl
def N79 : Nat := 67
def R79 : List ResultVar := [(.tmp 2)]
theorem B79 : bodyT Tryz.prog 79 = true := by kernel_rfl
noncomputable def S81 : {x : SC // Tryz.f81.body.map (prepD fun _ => #[]) = some x} := ⟨_, by simp only [Tryz.f81, Option.map, prepD, prepOp, List.map, Option.bind, List.getElem?_toArray, List.getElem?_cons_succ, List.getElem?_cons_zero] <;> rfl⟩
theorem S81_eq : Tryz.f81.body.map prep = some S81.1 := by kernel_rfl
def N81 : Nat := 27
def R81 : List ResultVar := [(.tmp 2), (.tmp 3)]
theorem B81 : bodyT Tryz.prog 81 = true := by kernel_rfl
noncomputable def S106 : {x : SC // Tryz.f106.body.map (prepD fun _ => #[]) = some x} := ⟨_, by simp only [Tryz.f106, Option.map, prepD, prepOp, List.map, Option.bind, List.getElem?_toArray, List.getElem?_cons_succ, List.getElem?_cons_zero] <;> rfl⟩
theorem S106_eq : Tryz.f106.body.map prep = some S106.1 := by kernel_rfl
def N106 : Nat := 33
def R106 : List ResultVar := [(.tmp 2)]
theorem B106 : bodyT Tryz.prog 106 = true := by kernel_rfl
noncomputable def S107 : {x : SC // Tryz.f107.body.map (prepD fun _ => #[]) = some x} := ⟨_, by simp only [Tryz.f107, Option.map, prepD, prepOp, List.map, Option.bind, List.getElem?_toArray, List.getElem?_cons_succ, List.getElem?_cons_zero] <;> rfl⟩
theorem S107_eq : Tryz.f107.body.map prep = some S107.1 := by kernel_rfl
def N107 : Nat := 25
def R107 : List ResultVar := [(.tmp 2)]
theorem B107 : bodyT Tryz.prog 107 = true := by kernel_rfl
noncomputable def S108 : {x : SC // Tryz.f108.body.map (prepD fun _ => #[]) = some x} := ⟨_, by simp only [Tryz.f108, Option.map, prepD, prepOp, List.map, Option.bind, List.getElem?_toArray, List.getElem?_cons_succ, List.getElem?_cons_zero] <;> rfl⟩
theorem S108_eq : Tryz.f108.body.map prep = some S108.1 := by kernel_rfl
def N108 : Nat := 58
def R108 : List ResultVar := [(.tmp 2)]
theorem B108 : bodyT Tryz.prog 108 = true := by kernel_rfl
noncomputable def S17 : {x : SC // Tryz.f17.body.map (prepD fun _ => #[]) = some x} := ⟨_, by simp only [Tryz.f17, Option.map, prepD, prepOp, List.map, Option.bind, List.getElem?_toArray, List.getElem?_cons_succ, List.getElem?_cons_zero] <;> rfl⟩
theorem S17_eq : Tryz.f17.body.map prep = some S17.1 := by kernel_rfl
def N17 : Nat := 45
def R17 : List ResultVar := [(.tmp 2)]
theorem B17 : bodyT Tryz.prog 17 = true := by kernel_rfl
noncomputable def S20 : {x : SC // Tryz.f20.body.map (prepD fun _ => #[]) = some x} := ⟨_, by simp only [Tryz.f20, Option.map, prepD, prepOp, List.map, Option.bind, List.getElem?_toArray, List.getElem?_cons_succ, List.getElem?_cons_zero] <;> rfl⟩
theorem S20_eq : Tryz.f20.body.map prep = some S20.1 := by kernel_rfl
def N20 : Nat := 43
def R20 : List ResultVar := [(.tmp 4), (.tmp 5)]
theorem B20 : bodyT Tryz.prog 20 = true := by kernel_rfl
noncomputable def S52 : {x : SC // Tryz.f52.body.map (prepD fun _ => #[]) = some x} := ⟨_, by simp only [Tryz.f52, Option.map, prepD, prepOp, List.map, Option.bind, List.getElem?_toArray, List.getElem?_cons_succ, List.getElem?_cons_zero] <;> rfl⟩
theorem S52_eq : Tryz.f52.body.map prep = some S52.1 := by kernel_rfl
def N52 : Nat := 25
def R52 : List ResultVar := [(.tmp 6)]
theorem B52 : bodyT Tryz.prog 52 = true := by kernel_rfl
noncomputable def S78 : {x : SC // Tryz.f78.body.map (prepD fun _ => #[]) = some x} := ⟨_, by simp only [Tryz.f78, Option.map, prepD, prepOp, List.map, Option.bind, List.getElem?_toArray, List.getElem?_cons_succ, List.getElem?_cons_zero] <;> rfl⟩
theorem S78_eq : Tryz.f78.body.map prep = some S78.1 := by kernel_rfl
def N78 : Nat := 21
def R78 : List ResultVar := [(.tmp 6)]
theorem B78 : bodyT Tryz.prog 78 = true := by kernel_rfl
noncomputable def S30 : {x : SC // Tryz.f30.body.map (prepD fun _ => #[]) = some x} := ⟨_, by simp only [Tryz.f30, Option.map, prepD, prepOp, List.map, Option.bind, List.getElem?_toArray, List.getElem?_cons_succ, List.getElem?_cons_zero] <;> rfl⟩
theorem S30_eq : Tryz.f30.body.map prep = some S30.1 := by kernel_rfl
def N30 : Nat := 13
def R30 : List ResultVar := [(.tmp 2)]
theorem B30 : bodyT Tryz.prog 30 = true := by kernel_rfl
noncomputable def S55 : {x : SC // Tryz.f55.body.map (prepD fun _ => #[]) = some x} := ⟨_, by simp only [Tryz.f55, Option.map, prepD, prepOp, List.map, Option.bind, List.getElem?_toArray, List.getElem?_cons_succ, List.getElem?_cons_zero] <;> rfl⟩
theorem S55_eq : Tryz.f55.body.map prep = some S55.1 := by kernel_rfl
def N55 : Nat := 18
def R55 : List ResultVar := [(.tmp 4)]
theorem B55 : bodyT Tryz.prog 55 = true := by kernel_rfl
noncomputable def S53 : {x : SC // Tryz.f53.body.map (prepD fun _ => #[]) = some x} := ⟨_, by simp only [Tryz.f53, Option.map, prepD, prepOp, List.map, Option.bind, List.getElem?_toArray, List.getElem?_cons_succ, List.getElem?_cons_zero] <;> rfl⟩
theorem S53_eq : Tryz.f53.body.map prep = some S53.1 := by kernel_rfl
def N53 : Nat := 52
def R53 : List ResultVar := [(.tmp 4)]
theorem B53 : bodyT Tryz.prog 53 = true := by kernel_rfl
noncomputable def S54 : {x : SC // Tryz.f54.body.map (prepD fun _ => #[]) = some x} := ⟨_, by simp only [Tryz.f54, Option.map, prepD, prepOp, List.map, Option.bind, List.getElem?_toArray, List.getElem?_cons_succ, List.getElem?_cons_zero] <;> rfl⟩
theorem S54_eq : Tryz.f54.body.map prep = some S54.1 := by kernel_rfl
def N54 : Nat := 35
def R54 : List ResultVar := [(.tmp 2)]
theorem B54 : bodyT Tryz.prog 54 = true := by kernel_rfl
noncomputable def S80 : {x : SC // Tryz.f80.body.map (prepD fun _ => #[]) = some x} := ⟨_, by simp only [Tryz.f80, Option.map, prepD, prepOp, List.map, Option.bind, List.getElem?_toArray, List.getElem?_cons_succ, List.getElem?_cons_zero] <;> rfl⟩
theorem S80_eq : Tryz.f80.body.map prep = some S80.1 := by kernel_rfl
def N80 : Nat := 32
def R80 : List ResultVar := [(.tmp 2)]
theorem B80 : bodyT Tryz.prog 80 = true := by kernel_rfl
noncomputable def D56 := drawIn Tryz.f56
noncomputable def L56_6 : {l : List MOp // (D56 6).toList.map (prepOp (D56 6)) = l} := ⟨_, by simp only [D56, drawIn, Tryz.f56, drawOf, cond_true, cond_false, Nat.reduceBEq, Option.getD, Option.map, prepD, prepOp, List.map, Option.bind, List.getElem?_toArray, List.getElem?_cons_succ, List.getElem?_cons_zero] <;> rfl⟩
theorem L56_6_eq : (D56 6).toList.map (prepOp (D56 6)) = L56_6.1 := L56_6.2
theorem P56_6_eq : drawPlan (D56 6) = (some []) := by kernel_rfl
noncomputable def S56 : {x : SC // Tryz.f56.body.map (prepD D56) = some x} := ⟨_, by simp only [Tryz.f56, Option.map, prepD, prepOp, List.map, Option.bind, List.getElem?_toArray, List.getElem?_cons_succ, List.getElem?_cons_zero] <;> rfl⟩
theorem S56_eq : Tryz.f56.body.map prep = some S56.1 := by kernel_rfl
def N56 : Nat := 96
def R56 : List ResultVar := [(.tmp 4), (.tmp 5)]
theorem B56 : bodyT Tryz.prog 56 = true := by kernel_rfl
noncomputable def S109 : {x : SC // Tryz.f109.body.map (prepD fun _ => #[]) = some x} := ⟨_, by simp only [Tryz.f109, Option.map, prepD, prepOp, List.map, Option.bind, List.getElem?_toArray, List.getElem?_cons_succ, List.getElem?_cons_zero] <;> rfl⟩
theorem S109_eq : Tryz.f109.body.map prep = some S109.1 := by kernel_rfl
def N109 : Nat := 51
def R109 : List ResultVar := [(.tmp 6), (.tmp 7)]
theorem B109 : bodyT Tryz.prog 109 = true := by kernel_rfl
noncomputable def S82 : {x : SC // Tryz.f82.body.map (prepD fun _ => #[]) = some x} := ⟨_, by simp only [Tryz.f82, Option.map, prepD, prepOp, List.map, Option.bind, List.getElem?_toArray, List.getElem?_cons_succ, List.getElem?_cons_zero] <;> rfl⟩
theorem S82_eq : Tryz.f82.body.map prep = some S82.1 := by kernel_rfl
def N82 : Nat := 83
def R82 : List ResultVar := [(.cell 4 59), (.tmp 5)]
theorem B82 : bodyT Tryz.prog 82 = true := by kernel_rfl
theorem T16 : (True) := trivial
theorem T26 : (strT Tryz.prog 9 = true) ∧ (elemT Tryz.prog 9 = none) ∧ (mapT Tryz.prog 9 = none) ∧ (elemT Tryz.prog 33 = (some 3)) ∧ (zeroA Tryz.prog 3 = (some (.int .i64 0))) ∧ (szT Tryz.prog 3 = (some 1)) ∧ (rowT Tryz.prog 33 = (some (3, (1, false)))) ∧ (strT Tryz.prog 33 = false) := by and_intros <;> kernel_rfl
theorem T49 : (strT Tryz.prog 9 = true) ∧ (elemT Tryz.prog 9 = none) ∧ (hasT Tryz.prog 5 = true) ∧ (intT Tryz.prog 3 = (some .i64)) ∧ (strT Tryz.prog 3 = false) ∧ (elemT Tryz.prog 3 = none) ∧ (elemT Tryz.prog 5 = none) ∧ (mapT Tryz.prog 9 = none) := by and_intros <;> kernel_rfl
theorem T50 : (True) := trivial
theorem T79 : (strT Tryz.prog 33 = false) ∧ (elemT Tryz.prog 33 = (some 3)) ∧ (mapT Tryz.prog 33 = none) ∧ (szT Tryz.prog 3 = (some 1)) ∧ (aggT Tryz.prog 3 = (some false)) := by and_intros <;> kernel_rfl
theorem T81 : (strT Tryz.prog 33 = false) ∧ (elemT Tryz.prog 33 = (some 3)) ∧ (mapT Tryz.prog 33 = none) ∧ (szT Tryz.prog 3 = (some 1)) ∧ (aggT Tryz.prog 3 = (some false)) ∧ (rowT Tryz.prog 65 = (some (5, (1, true)))) ∧ (strT Tryz.prog 9 = true) ∧ (hasT Tryz.prog 65 = true) ∧ (intT Tryz.prog 9 = none) ∧ (elemT Tryz.prog 9 = none) ∧ (elemT Tryz.prog 65 = (some 5)) ∧ (intT Tryz.prog 5 = (some .u8)) := by and_intros <;> kernel_rfl
theorem T106 : (True) := trivial
theorem T107 : (True) := trivial
theorem T108 : (hasT Tryz.prog 3 = true) ∧ (intT Tryz.prog 5 = (some .u8)) ∧ (strT Tryz.prog 5 = false) ∧ (elemT Tryz.prog 5 = none) ∧ (elemT Tryz.prog 3 = none) ∧ (elemT Tryz.prog 65 = (some 5)) ∧ (zeroA Tryz.prog 5 = (some (.int .u8 0))) ∧ (szT Tryz.prog 5 = (some 1)) ∧ (hasT Tryz.prog 65 = true) ∧ (intT Tryz.prog 9 = none) ∧ (strT Tryz.prog 9 = true) ∧ (elemT Tryz.prog 9 = none) := by and_intros <;> kernel_rfl
theorem T17 : (strT Tryz.prog 9 = true) ∧ (elemT Tryz.prog 9 = none) ∧ (mapT Tryz.prog 9 = none) ∧ (elemT Tryz.prog 65 = (some 5)) ∧ (zeroA Tryz.prog 5 = (some (.int .u8 0))) ∧ (szT Tryz.prog 5 = (some 1)) ∧ (rowT Tryz.prog 65 = (some (5, (1, true)))) ∧ (strT Tryz.prog 65 = false) ∧ (hasT Tryz.prog 65 = true) ∧ (intT Tryz.prog 9 = none) ∧ (intT Tryz.prog 5 = (some .u8)) := by and_intros <;> kernel_rfl
theorem T20 : (strT Tryz.prog 9 = true) ∧ (elemT Tryz.prog 9 = none) ∧ (mapT Tryz.prog 9 = none) := by and_intros <;> kernel_rfl
theorem T52 : (strT Tryz.prog 9 = true) ∧ (elemT Tryz.prog 9 = none) ∧ (mapT Tryz.prog 9 = none) := by and_intros <;> kernel_rfl
theorem T78 : (strT Tryz.prog 9 = true) ∧ (elemT Tryz.prog 9 = none) ∧ (mapT Tryz.prog 9 = none) := by and_intros <;> kernel_rfl
theorem T30 : (True) := trivial
theorem T55 : (strT Tryz.prog 9 = true) ∧ (elemT Tryz.prog 9 = none) ∧ (mapT Tryz.prog 9 = none) := by and_intros <;> kernel_rfl
theorem T53 : (strT Tryz.prog 9 = true) ∧ (elemT Tryz.prog 9 = none) ∧ (mapT Tryz.prog 9 = none) := by and_intros <;> kernel_rfl
theorem T54 : (hasT Tryz.prog 9 = true) ∧ (intT Tryz.prog 65 = none) ∧ (strT Tryz.prog 65 = false) ∧ (elemT Tryz.prog 65 = (some 5)) ∧ (elemT Tryz.prog 9 = none) ∧ (intT Tryz.prog 5 = (some .u8)) ∧ (mapT Tryz.prog 65 = none) ∧ (szT Tryz.prog 5 = (some 1)) ∧ (aggT Tryz.prog 5 = (some false)) ∧ (hasT Tryz.prog 65 = true) ∧ (intT Tryz.prog 9 = none) ∧ (strT Tryz.prog 9 = true) := by and_intros <;> kernel_rfl
theorem T80 : (hasT Tryz.prog 5 = true) ∧ (intT Tryz.prog 3 = (some .i64)) ∧ (strT Tryz.prog 3 = false) ∧ (elemT Tryz.prog 3 = none) ∧ (elemT Tryz.prog 5 = none) := by and_intros <;> kernel_rfl
theorem T56 : (elemT Tryz.prog 45 = (some 9)) ∧ (zeroA Tryz.prog 9 = (some (.str []))) ∧ (szT Tryz.prog 9 = (some 1)) ∧ (strT Tryz.prog 45 = false) ∧ (mapT Tryz.prog 45 = none) ∧ (aggT Tryz.prog 9 = (some false)) ∧ (strT Tryz.prog 9 = true) ∧ (elemT Tryz.prog 9 = none) ∧ (mapT Tryz.prog 9 = none) ∧ (elemT Tryz.prog 33 = (some 3)) ∧ (zeroA Tryz.prog 3 = (some (.int .i64 0))) ∧ (szT Tryz.prog 3 = (some 1)) := by and_intros <;> kernel_rfl
theorem T109 : (strT Tryz.prog 9 = true) ∧ (elemT Tryz.prog 9 = none) := by and_intros <;> kernel_rfl
theorem T82 : (zeroA Tryz.prog 59 = (some (.agg [(.str []), (.str [])]))) ∧ (strT Tryz.prog 9 = true) ∧ (elemT Tryz.prog 9 = none) ∧ (layT Tryz.prog 59 = (some ([(.str []), (.str [])], [(0, 1), (1, 1)]))) ∧ (szT Tryz.prog 59 = (some 2)) ∧ (aggT Tryz.prog 59 = (some true)) ∧ (fieldT Tryz.prog 59 1 = (some (1, 9))) ∧ (aggT Tryz.prog 9 = (some false)) ∧ (szT Tryz.prog 9 = (some 1)) := by and_intros <;> kernel_rfl
end Go.Ab
