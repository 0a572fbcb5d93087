/- The functions' codes, printed by program: what each operation is, what it asks of types. -/
import Derived.Test.YtojncnpmlhhccaaGreatDoorProg
import Derived.Test.YtojncnpmlhhccaaGreatDoorAbC
import Derived.KernelRfl
set_option linter.all false
set_option maxRecDepth 100000
namespace Go.Ab
open Go Go.Proofs
noncomputable def S10 : {x : SC // Tryz.f10.body.map (prepD fun _ => #[]) = some x} := ⟨_, by simp only [Tryz.f10, Option.map, prepD, prepOp, List.map, Option.bind, List.getElem?_toArray, List.getElem?_cons_succ, List.getElem?_cons_zero] <;> rfl⟩
theorem S10_eq : Tryz.f10.body.map prep = some S10.1 := by kernel_rfl
def N10 : Nat := 27
def R10 : List ResultVar := [(.cell 2 25), (.tmp 3)]
theorem B10 : bodyT Tryz.prog 10 = true := by kernel_rfl
noncomputable def D27 := drawIn Tryz.f27
noncomputable def L27_22 : {l : List MOp // (D27 22).toList.map (prepOp (D27 22)) = l} := ⟨_, by simp only [D27, drawIn, Tryz.f27, drawOf, cond_true, cond_false, Nat.reduceBEq, Option.getD, Option.map, prepD, prepOp, List.map, Option.bind, List.getElem?_toArray, List.getElem?_cons_succ, List.getElem?_cons_zero] <;> rfl⟩
theorem L27_22_eq : (D27 22).toList.map (prepOp (D27 22)) = L27_22.1 := L27_22.2
theorem P27_22_eq : drawPlan (D27 22) = (some []) := by kernel_rfl
noncomputable def S27 : {x : SC // Tryz.f27.body.map (prepD D27) = some x} := ⟨_, by simp only [Tryz.f27, Option.map, prepD, prepOp, List.map, Option.bind, List.getElem?_toArray, List.getElem?_cons_succ, List.getElem?_cons_zero] <;> rfl⟩
theorem S27_eq : Tryz.f27.body.map prep = some S27.1 := by kernel_rfl
def N27 : Nat := 123
def R27 : List ResultVar := [(.tmp 2), (.tmp 3)]
theorem B27 : bodyT Tryz.prog 27 = true := by kernel_rfl
noncomputable def S66 : {x : SC // Tryz.f66.body.map (prepD fun _ => #[]) = some x} := ⟨_, by simp only [Tryz.f66, Option.map, prepD, prepOp, List.map, Option.bind, List.getElem?_toArray, List.getElem?_cons_succ, List.getElem?_cons_zero] <;> rfl⟩
theorem S66_eq : Tryz.f66.body.map prep = some S66.1 := by kernel_rfl
def N66 : Nat := 25
def R66 : List ResultVar := [(.tmp 6)]
theorem B66 : bodyT Tryz.prog 66 = true := by kernel_rfl
noncomputable def S104 : {x : SC // Tryz.f104.body.map (prepD fun _ => #[]) = some x} := ⟨_, by simp only [Tryz.f104, Option.map, prepD, prepOp, List.map, Option.bind, List.getElem?_toArray, List.getElem?_cons_succ, List.getElem?_cons_zero] <;> rfl⟩
theorem S104_eq : Tryz.f104.body.map prep = some S104.1 := by kernel_rfl
def N104 : Nat := 21
def R104 : List ResultVar := [(.tmp 6)]
theorem B104 : bodyT Tryz.prog 104 = true := by kernel_rfl
noncomputable def S106 : {x : SC // Tryz.f106.body.map (prepD fun _ => #[]) = some x} := ⟨_, by simp only [Tryz.f106, Option.map, prepD, prepOp, List.map, Option.bind, List.getElem?_toArray, List.getElem?_cons_succ, List.getElem?_cons_zero] <;> rfl⟩
theorem S106_eq : Tryz.f106.body.map prep = some S106.1 := by kernel_rfl
def N106 : Nat := 52
def R106 : List ResultVar := [(.tmp 4)]
theorem B106 : bodyT Tryz.prog 106 = true := by kernel_rfl
noncomputable def S107 : {x : SC // Tryz.f107.body.map (prepD fun _ => #[]) = some x} := ⟨_, by simp only [Tryz.f107, Option.map, prepD, prepOp, List.map, Option.bind, List.getElem?_toArray, List.getElem?_cons_succ, List.getElem?_cons_zero] <;> rfl⟩
theorem S107_eq : Tryz.f107.body.map prep = some S107.1 := by kernel_rfl
def N107 : Nat := 35
def R107 : List ResultVar := [(.tmp 2)]
theorem B107 : bodyT Tryz.prog 107 = true := by kernel_rfl
noncomputable def S105 : {x : SC // Tryz.f105.body.map (prepD fun _ => #[]) = some x} := ⟨_, by simp only [Tryz.f105, Option.map, prepD, prepOp, List.map, Option.bind, List.getElem?_toArray, List.getElem?_cons_succ, List.getElem?_cons_zero] <;> rfl⟩
theorem S105_eq : Tryz.f105.body.map prep = some S105.1 := by kernel_rfl
def N105 : Nat := 44
def R105 : List ResultVar := [(.tmp 6), (.tmp 7)]
theorem B105 : bodyT Tryz.prog 105 = true := by kernel_rfl
noncomputable def D109 := drawIn Tryz.f109
noncomputable def L109_4 : {l : List MOp // (D109 4).toList.map (prepOp (D109 4)) = l} := ⟨_, by simp only [D109, drawIn, Tryz.f109, drawOf, cond_true, cond_false, Nat.reduceBEq, Option.getD, Option.map, prepD, prepOp, List.map, Option.bind, List.getElem?_toArray, List.getElem?_cons_succ, List.getElem?_cons_zero] <;> rfl⟩
theorem L109_4_eq : (D109 4).toList.map (prepOp (D109 4)) = L109_4.1 := L109_4.2
theorem P109_4_eq : drawPlan (D109 4) = (some [(2, 11), (4, 11), (7, 11), (9, 11)]) := by kernel_rfl
noncomputable def S109 : {x : SC // Tryz.f109.body.map (prepD D109) = some x} := ⟨_, by simp only [Tryz.f109, Option.map, prepD, prepOp, List.map, Option.bind, List.getElem?_toArray, List.getElem?_cons_succ, List.getElem?_cons_zero] <;> rfl⟩
theorem S109_eq : Tryz.f109.body.map prep = some S109.1 := by kernel_rfl
def N109 : Nat := 80
def R109 : List ResultVar := [(.cell 4 132), (.tmp 5)]
theorem B109 : bodyT Tryz.prog 109 = true := by kernel_rfl
noncomputable def S68 : {x : SC // Tryz.f68.body.map (prepD fun _ => #[]) = some x} := ⟨_, by simp only [Tryz.f68, Option.map, prepD, prepOp, List.map, Option.bind, List.getElem?_toArray, List.getElem?_cons_succ, List.getElem?_cons_zero] <;> rfl⟩
theorem S68_eq : Tryz.f68.body.map prep = some S68.1 := by kernel_rfl
def N68 : Nat := 174
def R68 : List ResultVar := [(.cell 4 88), (.tmp 5)]
theorem B68 : bodyT Tryz.prog 68 = true := by kernel_rfl
noncomputable def D69 := drawIn Tryz.f69
noncomputable def L69_7 : {l : List MOp // (D69 7).toList.map (prepOp (D69 7)) = l} := ⟨_, by simp only [D69, drawIn, Tryz.f69, drawOf, cond_true, cond_false, Nat.reduceBEq, Option.getD, Option.map, prepD, prepOp, List.map, Option.bind, List.getElem?_toArray, List.getElem?_cons_succ, List.getElem?_cons_zero] <;> rfl⟩
theorem L69_7_eq : (D69 7).toList.map (prepOp (D69 7)) = L69_7.1 := L69_7.2
theorem P69_7_eq : drawPlan (D69 7) = (some []) := by kernel_rfl
noncomputable def S69 : {x : SC // Tryz.f69.body.map (prepD D69) = some x} := ⟨_, by simp only [Tryz.f69, Option.map, prepD, prepOp, List.map, Option.bind, List.getElem?_toArray, List.getElem?_cons_succ, List.getElem?_cons_zero] <;> rfl⟩
theorem S69_eq : Tryz.f69.body.map prep = some S69.1 := by kernel_rfl
def N69 : Nat := 27
def R69 : List ResultVar := [(.tmp 2)]
theorem B69 : bodyT Tryz.prog 69 = true := by kernel_rfl
noncomputable def S67 : {x : SC // Tryz.f67.body.map (prepD fun _ => #[]) = some x} := ⟨_, by simp only [Tryz.f67, Option.map, prepD, prepOp, List.map, Option.bind, List.getElem?_toArray, List.getElem?_cons_succ, List.getElem?_cons_zero] <;> rfl⟩
theorem S67_eq : Tryz.f67.body.map prep = some S67.1 := by kernel_rfl
def N67 : Nat := 40
def R67 : List ResultVar := [(.tmp 6), (.tmp 7)]
theorem B67 : bodyT Tryz.prog 67 = true := by kernel_rfl
noncomputable def S70 : {x : SC // Tryz.f70.body.map (prepD fun _ => #[]) = some x} := ⟨_, by simp only [Tryz.f70, Option.map, prepD, prepOp, List.map, Option.bind, List.getElem?_toArray, List.getElem?_cons_succ, List.getElem?_cons_zero] <;> rfl⟩
theorem S70_eq : Tryz.f70.body.map prep = some S70.1 := by kernel_rfl
def N70 : Nat := 6
def R70 : List ResultVar := [(.tmp 2)]
theorem B70 : bodyT Tryz.prog 70 = true := by kernel_rfl
noncomputable def S71 : {x : SC // Tryz.f71.body.map (prepD fun _ => #[]) = some x} := ⟨_, by simp only [Tryz.f71, Option.map, prepD, prepOp, List.map, Option.bind, List.getElem?_toArray, List.getElem?_cons_succ, List.getElem?_cons_zero] <;> rfl⟩
theorem S71_eq : Tryz.f71.body.map prep = some S71.1 := by kernel_rfl
def N71 : Nat := 6
def R71 : List ResultVar := [(.tmp 2)]
theorem B71 : bodyT Tryz.prog 71 = true := by kernel_rfl
noncomputable def D110 := drawIn Tryz.f110
noncomputable def L110_4 : {l : List MOp // (D110 4).toList.map (prepOp (D110 4)) = l} := ⟨_, by simp only [D110, drawIn, Tryz.f110, drawOf, cond_true, cond_false, Nat.reduceBEq, Option.getD, Option.map, prepD, prepOp, List.map, Option.bind, List.getElem?_toArray, List.getElem?_cons_succ, List.getElem?_cons_zero] <;> rfl⟩
theorem L110_4_eq : (D110 4).toList.map (prepOp (D110 4)) = L110_4.1 := L110_4.2
theorem P110_4_eq : drawPlan (D110 4) = (some [(2, 5), (3, 5)]) := by kernel_rfl
noncomputable def S110 : {x : SC // Tryz.f110.body.map (prepD D110) = some x} := ⟨_, by simp only [Tryz.f110, Option.map, prepD, prepOp, List.map, Option.bind, List.getElem?_toArray, List.getElem?_cons_succ, List.getElem?_cons_zero] <;> rfl⟩
theorem S110_eq : Tryz.f110.body.map prep = some S110.1 := by kernel_rfl
def N110 : Nat := 19
def R110 : List ResultVar := [(.tmp 4)]
theorem B110 : bodyT Tryz.prog 110 = true := by kernel_rfl
noncomputable def S137 : {x : SC // Tryz.f137.body.map (prepD fun _ => #[]) = some x} := ⟨_, by simp only [Tryz.f137, Option.map, prepD, prepOp, List.map, Option.bind, List.getElem?_toArray, List.getElem?_cons_succ, List.getElem?_cons_zero] <;> rfl⟩
theorem S137_eq : Tryz.f137.body.map prep = some S137.1 := by kernel_rfl
def N137 : Nat := 29
def R137 : List ResultVar := [(.tmp 2)]
theorem B137 : bodyT Tryz.prog 137 = true := by kernel_rfl
theorem T10 : (zeroA Tryz.prog 25 = (some (.agg [.nils]))) ∧ (strT Tryz.prog 9 = true) ∧ (elemT Tryz.prog 9 = none) ∧ (mapT Tryz.prog 9 = none) ∧ (layT Tryz.prog 25 = (some ([.nils], [(0, 1)]))) ∧ (szT Tryz.prog 25 = (some 1)) ∧ (aggT Tryz.prog 25 = (some true)) := by and_intros <;> kernel_rfl
theorem T27 : (strT Tryz.prog 9 = true) ∧ (elemT Tryz.prog 9 = none) ∧ (mapT Tryz.prog 9 = none) ∧ (layT Tryz.prog 88 = (some ([(.int .i64 0), (.str []), (.str []), .nils, (.int .i64 0), (.int .i64 0)], [(0, 1), (1, 1), (2, 1), (3, 1), (4, 1), (5, 1)]))) ∧ (elemT Tryz.prog 40 = (some 88)) ∧ (zeroA Tryz.prog 88 = (some (.agg [(.int .i64 0), (.str []), (.str []), .nils, (.int .i64 0), (.int .i64 0)]))) ∧ (szT Tryz.prog 88 = (some 6)) ∧ (rowT Tryz.prog 40 = (some (88, (6, false)))) ∧ (strT Tryz.prog 40 = false) ∧ (fieldT Tryz.prog 88 0 = (some (0, 3))) ∧ (aggT Tryz.prog 3 = (some false)) ∧ (szT Tryz.prog 3 = (some 1)) ∧ (fieldT Tryz.prog 88 3 = (some (3, 86))) ∧ (aggT Tryz.prog 86 = (some false)) ∧ (szT Tryz.prog 86 = (some 1)) ∧ (strT Tryz.prog 46 = false) ∧ (elemT Tryz.prog 46 = (some 9)) ∧ (mapT Tryz.prog 46 = none) ∧ (szT Tryz.prog 9 = (some 1)) ∧ (aggT Tryz.prog 9 = (some false)) ∧ (fieldT Tryz.prog 88 1 = (some (1, 9))) ∧ (aggT Tryz.prog 88 = (some true)) ∧ (zeroA Tryz.prog 9 = (some (.str []))) ∧ (rowT Tryz.prog 46 = (some (9, (1, false)))) := by and_intros <;> kernel_rfl
theorem T66 : (strT Tryz.prog 9 = true) ∧ (elemT Tryz.prog 9 = none) ∧ (mapT Tryz.prog 9 = none) := by and_intros <;> kernel_rfl
theorem T104 : (strT Tryz.prog 9 = true) ∧ (elemT Tryz.prog 9 = none) ∧ (mapT Tryz.prog 9 = none) := by and_intros <;> kernel_rfl
theorem T106 : (strT Tryz.prog 9 = true) ∧ (elemT Tryz.prog 9 = none) ∧ (mapT Tryz.prog 9 = none) := by and_intros <;> kernel_rfl
theorem T107 : (hasT Tryz.prog 9 = true) ∧ (intT Tryz.prog 67 = none) ∧ (strT Tryz.prog 67 = false) ∧ (elemT Tryz.prog 67 = (some 5)) ∧ (elemT Tryz.prog 9 = none) ∧ (intT Tryz.prog 5 = (some .u8)) ∧ (mapT Tryz.prog 67 = none) ∧ (szT Tryz.prog 5 = (some 1)) ∧ (aggT Tryz.prog 5 = (some false)) ∧ (hasT Tryz.prog 67 = true) ∧ (intT Tryz.prog 9 = none) ∧ (strT Tryz.prog 9 = true) := by and_intros <;> kernel_rfl
theorem T105 : (strT Tryz.prog 9 = true) ∧ (elemT Tryz.prog 9 = none) ∧ (rowT Tryz.prog 67 = (some (5, (1, true)))) ∧ (hasT Tryz.prog 67 = true) ∧ (intT Tryz.prog 9 = none) ∧ (elemT Tryz.prog 67 = (some 5)) ∧ (intT Tryz.prog 5 = (some .u8)) := by and_intros <;> kernel_rfl
theorem T109 : (zeroA Tryz.prog 132 = (some (.agg [(.str []), (.str [])]))) ∧ (layT Tryz.prog 132 = (some ([(.str []), (.str [])], [(0, 1), (1, 1)]))) ∧ (szT Tryz.prog 132 = (some 2)) ∧ (strT Tryz.prog 9 = true) ∧ (elemT Tryz.prog 9 = none) ∧ (aggT Tryz.prog 132 = (some true)) ∧ (fieldT Tryz.prog 132 1 = (some (1, 9))) ∧ (aggT Tryz.prog 9 = (some false)) ∧ (szT Tryz.prog 9 = (some 1)) := by and_intros <;> kernel_rfl
theorem T68 : (zeroA Tryz.prog 88 = (some (.agg [(.int .i64 0), (.str []), (.str []), .nils, (.int .i64 0), (.int .i64 0)]))) ∧ (layT Tryz.prog 88 = (some ([(.int .i64 0), (.str []), (.str []), .nils, (.int .i64 0), (.int .i64 0)], [(0, 1), (1, 1), (2, 1), (3, 1), (4, 1), (5, 1)]))) ∧ (szT Tryz.prog 88 = (some 6)) ∧ (strT Tryz.prog 9 = true) ∧ (elemT Tryz.prog 9 = none) ∧ (fieldT Tryz.prog 88 1 = (some (1, 9))) ∧ (aggT Tryz.prog 9 = (some false)) ∧ (szT Tryz.prog 9 = (some 1)) ∧ (fieldT Tryz.prog 88 2 = (some (2, 9))) ∧ (aggT Tryz.prog 88 = (some true)) ∧ (zeroA Tryz.prog 132 = (some (.agg [(.str []), (.str [])]))) ∧ (szT Tryz.prog 132 = (some 2)) ∧ (fieldT Tryz.prog 88 3 = (some (3, 86))) ∧ (aggT Tryz.prog 86 = (some false)) ∧ (szT Tryz.prog 86 = (some 1)) ∧ (aggT Tryz.prog 132 = (some true)) ∧ (elemT Tryz.prog 86 = (some 132)) ∧ (rowT Tryz.prog 86 = (some (132, (2, false)))) ∧ (strT Tryz.prog 86 = false) := by and_intros <;> kernel_rfl
theorem T69 : (strT Tryz.prog 86 = false) ∧ (elemT Tryz.prog 86 = (some 132)) ∧ (mapT Tryz.prog 86 = none) ∧ (szT Tryz.prog 132 = (some 2)) ∧ (fieldT Tryz.prog 132 0 = (some (0, 9))) ∧ (aggT Tryz.prog 9 = (some false)) ∧ (szT Tryz.prog 9 = (some 1)) := by and_intros <;> kernel_rfl
theorem T67 : (strT Tryz.prog 9 = true) ∧ (elemT Tryz.prog 9 = none) ∧ (mapT Tryz.prog 9 = none) := by and_intros <;> kernel_rfl
theorem T70 : (elemT Tryz.prog 46 = (some 9)) ∧ (zeroA Tryz.prog 9 = (some (.str []))) ∧ (szT Tryz.prog 9 = (some 1)) := by and_intros <;> kernel_rfl
theorem T71 : (elemT Tryz.prog 46 = (some 9)) ∧ (zeroA Tryz.prog 9 = (some (.str []))) ∧ (szT Tryz.prog 9 = (some 1)) := by and_intros <;> kernel_rfl
theorem T110 : (strT Tryz.prog 46 = false) ∧ (elemT Tryz.prog 46 = (some 9)) ∧ (mapT Tryz.prog 46 = none) ∧ (szT Tryz.prog 9 = (some 1)) ∧ (aggT Tryz.prog 9 = (some false)) := by and_intros <;> kernel_rfl
theorem T137 : (strT Tryz.prog 9 = true) ∧ (elemT Tryz.prog 9 = none) ∧ (mapT Tryz.prog 9 = none) ∧ (elemT Tryz.prog 67 = (some 5)) ∧ (zeroA Tryz.prog 5 = (some (.int .u8 0))) ∧ (szT Tryz.prog 5 = (some 1)) ∧ (hasT Tryz.prog 67 = true) ∧ (intT Tryz.prog 9 = none) ∧ (intT Tryz.prog 5 = (some .u8)) := by and_intros <;> kernel_rfl
end Go.Ab
