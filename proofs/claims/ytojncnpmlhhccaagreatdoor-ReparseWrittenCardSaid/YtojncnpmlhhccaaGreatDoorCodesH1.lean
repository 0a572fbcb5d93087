/- The functions' codes, printed by program: what each operation is, what it asks of types. -/
import Derived.Test.YtojncnpmlhhccaaGreatDoorProg
import Derived.Test.YtojncnpmlhhccaaGreatDoorAbC
import Derived.KernelRfl
set_option linter.all false
set_option maxRecDepth 100000
namespace Go.Ab
open Go Go.Proofs
def R5 : List ResultVar := [(.tmp 4)]
noncomputable def S8 : {x : SC // Tryz.f8.body.map (prepD fun _ => #[]) = some x} := ⟨_, by simp only [Tryz.f8, Option.map, prepD, prepOp, List.map, Option.bind, List.getElem?_toArray, List.getElem?_cons_succ, List.getElem?_cons_zero] <;> rfl⟩
theorem S8_eq : Tryz.f8.body.map prep = some S8.1 := by kernel_rfl
def N8 : Nat := 47
def R8 : List ResultVar := [(.tmp 0)]
theorem B8 : bodyT Tryz.prog 8 = true := by kernel_rfl
noncomputable def S22 : {x : SC // Tryz.f22.body.map (prepD fun _ => #[]) = some x} := ⟨_, by simp only [Tryz.f22, Option.map, prepD, prepOp, List.map, Option.bind, List.getElem?_toArray, List.getElem?_cons_succ, List.getElem?_cons_zero] <;> rfl⟩
theorem S22_eq : Tryz.f22.body.map prep = some S22.1 := by kernel_rfl
def N22 : Nat := 14
def R22 : List ResultVar := [(.cell 8 36)]
theorem B22 : bodyT Tryz.prog 22 = true := by kernel_rfl
noncomputable def S9 : {x : SC // Tryz.f9.body.map (prepD fun _ => #[]) = some x} := ⟨_, by simp only [Tryz.f9, Option.map, prepD, prepOp, List.map, Option.bind, List.getElem?_toArray, List.getElem?_cons_succ, List.getElem?_cons_zero] <;> rfl⟩
theorem S9_eq : Tryz.f9.body.map prep = some S9.1 := by kernel_rfl
def N9 : Nat := 42
def R9 : List ResultVar := [(.cell 2 25), (.cell 3 26)]
theorem B9 : bodyT Tryz.prog 9 = true := by kernel_rfl
noncomputable def D24 := drawIn Tryz.f24
noncomputable def L24_5 : {l : List MOp // (D24 5).toList.map (prepOp (D24 5)) = l} := ⟨_, by simp only [D24, drawIn, Tryz.f24, drawOf, cond_true, cond_false, Nat.reduceBEq, Option.getD, Option.map, prepD, prepOp, List.map, Option.bind, List.getElem?_toArray, List.getElem?_cons_succ, List.getElem?_cons_zero] <;> rfl⟩
theorem L24_5_eq : (D24 5).toList.map (prepOp (D24 5)) = L24_5.1 := L24_5.2
theorem P24_5_eq : drawPlan (D24 5) = (some [(2, 3)]) := by kernel_rfl
noncomputable def S24 : {x : SC // Tryz.f24.body.map (prepD D24) = some x} := ⟨_, by simp only [Tryz.f24, Option.map, prepD, prepOp, List.map, Option.bind, List.getElem?_toArray, List.getElem?_cons_succ, List.getElem?_cons_zero] <;> rfl⟩
theorem S24_eq : Tryz.f24.body.map prep = some S24.1 := by kernel_rfl
def N24 : Nat := 19
def R24 : List ResultVar := []
theorem B24 : bodyT Tryz.prog 24 = true := by kernel_rfl
noncomputable def S25 : {x : SC // Tryz.f25.body.map (prepD fun _ => #[]) = some x} := ⟨_, by simp only [Tryz.f25, Option.map, prepD, prepOp, List.map, Option.bind, List.getElem?_toArray, List.getElem?_cons_succ, List.getElem?_cons_zero] <;> rfl⟩
theorem S25_eq : Tryz.f25.body.map prep = some S25.1 := by kernel_rfl
def N25 : Nat := 16
def R25 : List ResultVar := []
theorem B25 : bodyT Tryz.prog 25 = true := by kernel_rfl
noncomputable def S94 : {x : SC // Tryz.f94.body.map (prepD fun _ => #[]) = some x} := ⟨_, by simp only [Tryz.f94, Option.map, prepD, prepOp, List.map, Option.bind, List.getElem?_toArray, List.getElem?_cons_succ, List.getElem?_cons_zero] <;> rfl⟩
theorem S94_eq : Tryz.f94.body.map prep = some S94.1 := by kernel_rfl
def N94 : Nat := 21
def R94 : List ResultVar := []
theorem B94 : bodyT Tryz.prog 94 = true := by kernel_rfl
noncomputable def S59 : {x : SC // Tryz.f59.body.map (prepD fun _ => #[]) = some x} := ⟨_, by simp only [Tryz.f59, Option.map, prepD, prepOp, List.map, Option.bind, List.getElem?_toArray, List.getElem?_cons_succ, List.getElem?_cons_zero] <;> rfl⟩
theorem S59_eq : Tryz.f59.body.map prep = some S59.1 := by kernel_rfl
def N59 : Nat := 69
def R59 : List ResultVar := [(.tmp 2)]
theorem B59 : bodyT Tryz.prog 59 = true := by kernel_rfl
noncomputable def S60 : {x : SC // Tryz.f60.body.map (prepD fun _ => #[]) = some x} := ⟨_, by simp only [Tryz.f60, Option.map, prepD, prepOp, List.map, Option.bind, List.getElem?_toArray, List.getElem?_cons_succ, List.getElem?_cons_zero] <;> rfl⟩
theorem S60_eq : Tryz.f60.body.map prep = some S60.1 := by kernel_rfl
def N60 : Nat := 45
def R60 : List ResultVar := [(.tmp 2)]
theorem B60 : bodyT Tryz.prog 60 = true := by kernel_rfl
noncomputable def S61 : {x : SC // Tryz.f61.body.map (prepD fun _ => #[]) = some x} := ⟨_, by simp only [Tryz.f61, Option.map, prepD, prepOp, List.map, Option.bind, List.getElem?_toArray, List.getElem?_cons_succ, List.getElem?_cons_zero] <;> rfl⟩
theorem S61_eq : Tryz.f61.body.map prep = some S61.1 := by kernel_rfl
def N61 : Nat := 71
def R61 : List ResultVar := [(.tmp 2)]
theorem B61 : bodyT Tryz.prog 61 = true := by kernel_rfl
noncomputable def S62 : {x : SC // Tryz.f62.body.map (prepD fun _ => #[]) = some x} := ⟨_, by simp only [Tryz.f62, Option.map, prepD, prepOp, List.map, Option.bind, List.getElem?_toArray, List.getElem?_cons_succ, List.getElem?_cons_zero] <;> rfl⟩
theorem S62_eq : Tryz.f62.body.map prep = some S62.1 := by kernel_rfl
def N62 : Nat := 41
def R62 : List ResultVar := [(.tmp 2)]
theorem B62 : bodyT Tryz.prog 62 = true := by kernel_rfl
noncomputable def S63 : {x : SC // Tryz.f63.body.map (prepD fun _ => #[]) = some x} := ⟨_, by simp only [Tryz.f63, Option.map, prepD, prepOp, List.map, Option.bind, List.getElem?_toArray, List.getElem?_cons_succ, List.getElem?_cons_zero] <;> rfl⟩
theorem S63_eq : Tryz.f63.body.map prep = some S63.1 := by kernel_rfl
def N63 : Nat := 68
def R63 : List ResultVar := [(.tmp 2)]
theorem B63 : bodyT Tryz.prog 63 = true := by kernel_rfl
noncomputable def D64 := drawIn Tryz.f64
noncomputable def L64_21 : {l : List MOp // (D64 21).toList.map (prepOp (D64 21)) = l} := ⟨_, by simp only [D64, drawIn, Tryz.f64, drawOf, cond_true, cond_false, Nat.reduceBEq, Option.getD, Option.map, prepD, prepOp, List.map, Option.bind, List.getElem?_toArray, List.getElem?_cons_succ, List.getElem?_cons_zero] <;> rfl⟩
theorem L64_21_eq : (D64 21).toList.map (prepOp (D64 21)) = L64_21.1 := L64_21.2
theorem P64_21_eq : drawPlan (D64 21) = (some [(4, 6)]) := by kernel_rfl
noncomputable def L64_25 : {l : List MOp // (D64 25).toList.map (prepOp (D64 25)) = l} := ⟨_, by simp only [D64, drawIn, Tryz.f64, drawOf, cond_true, cond_false, Nat.reduceBEq, Option.getD, Option.map, prepD, prepOp, List.map, Option.bind, List.getElem?_toArray, List.getElem?_cons_succ, List.getElem?_cons_zero] <;> rfl⟩
theorem L64_25_eq : (D64 25).toList.map (prepOp (D64 25)) = L64_25.1 := L64_25.2
theorem P64_25_eq : drawPlan (D64 25) = (some [(4, 7)]) := by kernel_rfl
noncomputable def S64 : {x : SC // Tryz.f64.body.map (prepD D64) = some x} := ⟨_, by simp only [Tryz.f64, Option.map, prepD, prepOp, List.map, Option.bind, List.getElem?_toArray, List.getElem?_cons_succ, List.getElem?_cons_zero] <;> rfl⟩
theorem S64_eq : Tryz.f64.body.map prep = some S64.1 := by kernel_rfl
def N64 : Nat := 142
def R64 : List ResultVar := [(.tmp 2)]
theorem B64 : bodyT Tryz.prog 64 = true := by kernel_rfl
noncomputable def S92 : {x : SC // Tryz.f92.body.map (prepD fun _ => #[]) = some x} := ⟨_, by simp only [Tryz.f92, Option.map, prepD, prepOp, List.map, Option.bind, List.getElem?_toArray, List.getElem?_cons_succ, List.getElem?_cons_zero] <;> rfl⟩
theorem S92_eq : Tryz.f92.body.map prep = some S92.1 := by kernel_rfl
def N92 : Nat := 11
def R92 : List ResultVar := [(.tmp 2)]
theorem B92 : bodyT Tryz.prog 92 = true := by kernel_rfl
noncomputable def S101 : {x : SC // Tryz.f101.body.map (prepD fun _ => #[]) = some x} := ⟨_, by simp only [Tryz.f101, Option.map, prepD, prepOp, List.map, Option.bind, List.getElem?_toArray, List.getElem?_cons_succ, List.getElem?_cons_zero] <;> rfl⟩
theorem S101_eq : Tryz.f101.body.map prep = some S101.1 := by kernel_rfl
def N101 : Nat := 20
def R101 : List ResultVar := [(.tmp 2)]
theorem B101 : bodyT Tryz.prog 101 = true := by kernel_rfl
noncomputable def S98 : {x : SC // Tryz.f98.body.map (prepD fun _ => #[]) = some x} := ⟨_, by simp only [Tryz.f98, Option.map, prepD, prepOp, List.map, Option.bind, List.getElem?_toArray, List.getElem?_cons_succ, List.getElem?_cons_zero] <;> rfl⟩
theorem S98_eq : Tryz.f98.body.map prep = some S98.1 := by kernel_rfl
def N98 : Nat := 30
def R98 : List ResultVar := [(.tmp 2)]
theorem B98 : bodyT Tryz.prog 98 = true := by kernel_rfl
noncomputable def S96 : {x : SC // Tryz.f96.body.map (prepD fun _ => #[]) = some x} := ⟨_, by simp only [Tryz.f96, Option.map, prepD, prepOp, List.map, Option.bind, List.getElem?_toArray, List.getElem?_cons_succ, List.getElem?_cons_zero] <;> rfl⟩
theorem S96_eq : Tryz.f96.body.map prep = some S96.1 := by kernel_rfl
def N96 : Nat := 43
def R96 : List ResultVar := [(.tmp 2), (.tmp 3)]
theorem B96 : bodyT Tryz.prog 96 = true := by kernel_rfl
noncomputable def S132 : {x : SC // Tryz.f132.body.map (prepD fun _ => #[]) = some x} := ⟨_, by simp only [Tryz.f132, Option.map, prepD, prepOp, List.map, Option.bind, List.getElem?_toArray, List.getElem?_cons_succ, List.getElem?_cons_zero] <;> rfl⟩
theorem S132_eq : Tryz.f132.body.map prep = some S132.1 := by kernel_rfl
def N132 : Nat := 58
def R132 : List ResultVar := [(.tmp 2), (.tmp 3)]
theorem B132 : bodyT Tryz.prog 132 = true := by kernel_rfl
noncomputable def D100 := drawIn Tryz.f100
noncomputable def L100_3 : {l : List MOp // (D100 3).toList.map (prepOp (D100 3)) = l} := ⟨_, by simp only [D100, drawIn, Tryz.f100, drawOf, cond_true, cond_false, Nat.reduceBEq, Option.getD, Option.map, prepD, prepOp, List.map, Option.bind, List.getElem?_toArray, List.getElem?_cons_succ, List.getElem?_cons_zero] <;> rfl⟩
theorem L100_3_eq : (D100 3).toList.map (prepOp (D100 3)) = L100_3.1 := L100_3.2
theorem P100_3_eq : drawPlan (D100 3) = (some []) := by kernel_rfl
noncomputable def S100 : {x : SC // Tryz.f100.body.map (prepD D100) = some x} := ⟨_, by simp only [Tryz.f100, Option.map, prepD, prepOp, List.map, Option.bind, List.getElem?_toArray, List.getElem?_cons_succ, List.getElem?_cons_zero] <;> rfl⟩
theorem S100_eq : Tryz.f100.body.map prep = some S100.1 := by kernel_rfl
def N100 : Nat := 82
def R100 : List ResultVar := [(.cell 2 132), (.tmp 3), (.tmp 4)]
theorem B100 : bodyT Tryz.prog 100 = true := by kernel_rfl
theorem T8 : (zeroA Tryz.prog 25 = (some (.agg [.nils]))) ∧ (szT Tryz.prog 25 = (some 1)) ∧ (elemT Tryz.prog 23 = (some 36)) ∧ (zeroA Tryz.prog 36 = (some (.agg [(.int .i64 0), (.str []), (.str []), (.int .i64 0)]))) ∧ (szT Tryz.prog 36 = (some 4)) ∧ (layT Tryz.prog 25 = (some ([.nils], [(0, 1)]))) ∧ (aggT Tryz.prog 25 = (some true)) := by and_intros <;> kernel_rfl
theorem T22 : (zeroA Tryz.prog 36 = (some (.agg [(.int .i64 0), (.str []), (.str []), (.int .i64 0)]))) ∧ (layT Tryz.prog 36 = (some ([(.int .i64 0), (.str []), (.str []), (.int .i64 0)], [(0, 1), (1, 1), (2, 1), (3, 1)]))) ∧ (szT Tryz.prog 36 = (some 4)) ∧ (aggT Tryz.prog 36 = (some true)) := by and_intros <;> kernel_rfl
theorem T9 : (zeroA Tryz.prog 25 = (some (.agg [.nils]))) ∧ (zeroA Tryz.prog 26 = (some (.int .i64 0))) ∧ (strT Tryz.prog 9 = true) ∧ (elemT Tryz.prog 9 = none) ∧ (mapT Tryz.prog 9 = none) ∧ (layT Tryz.prog 25 = (some ([.nils], [(0, 1)]))) ∧ (szT Tryz.prog 25 = (some 1)) ∧ (szT Tryz.prog 26 = (some 1)) ∧ (layT Tryz.prog 57 = (some ([(.str []), .nils, .nils], [(0, 1), (1, 1), (2, 1)]))) ∧ (fieldT Tryz.prog 57 0 = (some (0, 9))) ∧ (aggT Tryz.prog 9 = (some false)) ∧ (szT Tryz.prog 9 = (some 1)) ∧ (fieldT Tryz.prog 57 2 = (some (2, 46))) ∧ (aggT Tryz.prog 46 = (some false)) ∧ (szT Tryz.prog 46 = (some 1)) ∧ (strT Tryz.prog 46 = false) ∧ (elemT Tryz.prog 46 = (some 9)) ∧ (mapT Tryz.prog 46 = none) ∧ (layT Tryz.prog 53 = (some ([(.int .i64 0)], [(0, 1)]))) ∧ (ifaceT Tryz.prog 53 = (some false)) ∧ (fieldT Tryz.prog 57 1 = (some (1, 40))) ∧ (aggT Tryz.prog 40 = (some false)) ∧ (szT Tryz.prog 40 = (some 1)) ∧ (aggT Tryz.prog 25 = (some true)) ∧ (aggT Tryz.prog 26 = (some false)) := by and_intros <;> kernel_rfl
theorem T24 : (ifaceT Tryz.prog 20 = (some true)) ∧ (ifaceT Tryz.prog 53 = (some false)) ∧ (zeroA Tryz.prog 53 = (some (.agg [(.int .i64 0)]))) ∧ (szT Tryz.prog 53 = (some 1)) ∧ (fieldT Tryz.prog 53 0 = (some (0, 26))) ∧ (aggT Tryz.prog 26 = (some false)) ∧ (szT Tryz.prog 26 = (some 1)) ∧ (layT Tryz.prog 25 = (some ([.nils], [(0, 1)]))) ∧ (szT Tryz.prog 25 = (some 1)) := by and_intros <;> kernel_rfl
theorem T25 : (elemT Tryz.prog 109 = (some 108)) ∧ (zeroA Tryz.prog 108 = (some .nilf)) ∧ (szT Tryz.prog 108 = (some 1)) ∧ (strT Tryz.prog 109 = false) ∧ (mapT Tryz.prog 109 = none) ∧ (aggT Tryz.prog 108 = (some false)) ∧ (layT Tryz.prog 53 = (some ([(.int .i64 0)], [(0, 1)]))) ∧ (ifaceT Tryz.prog 53 = (some false)) := by and_intros <;> kernel_rfl
theorem T94 : (fieldT Tryz.prog 57 1 = (some (1, 40))) ∧ (aggT Tryz.prog 40 = (some false)) ∧ (szT Tryz.prog 40 = (some 1)) ∧ (layT Tryz.prog 88 = (some ([(.int .i64 0), (.str []), (.str []), .nils, (.int .i64 0), (.int .i64 0)], [(0, 1), (1, 1), (2, 1), (3, 1), (4, 1), (5, 1)]))) ∧ (elemT Tryz.prog 40 = (some 88)) ∧ (zeroA Tryz.prog 88 = (some (.agg [(.int .i64 0), (.str []), (.str []), .nils, (.int .i64 0), (.int .i64 0)]))) ∧ (szT Tryz.prog 88 = (some 6)) ∧ (rowT Tryz.prog 40 = (some (88, (6, false)))) ∧ (strT Tryz.prog 40 = false) := by and_intros <;> kernel_rfl
theorem T59 : (fieldT Tryz.prog 57 1 = (some (1, 40))) ∧ (aggT Tryz.prog 40 = (some false)) ∧ (szT Tryz.prog 40 = (some 1)) ∧ (strT Tryz.prog 40 = false) ∧ (elemT Tryz.prog 40 = (some 88)) ∧ (mapT Tryz.prog 40 = none) ∧ (szT Tryz.prog 88 = (some 6)) ∧ (fieldT Tryz.prog 88 0 = (some (0, 3))) ∧ (aggT Tryz.prog 3 = (some false)) ∧ (szT Tryz.prog 3 = (some 1)) ∧ (fieldT Tryz.prog 88 1 = (some (1, 9))) ∧ (aggT Tryz.prog 9 = (some false)) ∧ (szT Tryz.prog 9 = (some 1)) ∧ (fieldT Tryz.prog 57 0 = (some (0, 9))) ∧ (layT Tryz.prog 53 = (some ([(.int .i64 0)], [(0, 1)]))) ∧ (ifaceT Tryz.prog 53 = (some false)) ∧ (strT Tryz.prog 9 = true) ∧ (elemT Tryz.prog 9 = none) := by and_intros <;> kernel_rfl
theorem T60 : (fieldT Tryz.prog 57 0 = (some (0, 9))) ∧ (aggT Tryz.prog 9 = (some false)) ∧ (szT Tryz.prog 9 = (some 1)) ∧ (strT Tryz.prog 9 = true) ∧ (elemT Tryz.prog 9 = none) ∧ (mapT Tryz.prog 9 = none) ∧ (layT Tryz.prog 53 = (some ([(.int .i64 0)], [(0, 1)]))) ∧ (ifaceT Tryz.prog 53 = (some false)) := by and_intros <;> kernel_rfl
theorem T61 : (fieldT Tryz.prog 57 0 = (some (0, 9))) ∧ (aggT Tryz.prog 9 = (some false)) ∧ (szT Tryz.prog 9 = (some 1)) ∧ (fieldT Tryz.prog 57 2 = (some (2, 46))) ∧ (aggT Tryz.prog 46 = (some false)) ∧ (szT Tryz.prog 46 = (some 1)) ∧ (strT Tryz.prog 46 = false) ∧ (elemT Tryz.prog 46 = (some 9)) ∧ (mapT Tryz.prog 46 = none) ∧ (layT Tryz.prog 53 = (some ([(.int .i64 0)], [(0, 1)]))) ∧ (ifaceT Tryz.prog 53 = (some false)) := by and_intros <;> kernel_rfl
theorem T62 : (fieldT Tryz.prog 57 0 = (some (0, 9))) ∧ (aggT Tryz.prog 9 = (some false)) ∧ (szT Tryz.prog 9 = (some 1)) ∧ (strT Tryz.prog 9 = true) ∧ (elemT Tryz.prog 9 = none) := by and_intros <;> kernel_rfl
theorem T63 : (fieldT Tryz.prog 57 0 = (some (0, 9))) ∧ (aggT Tryz.prog 9 = (some false)) ∧ (szT Tryz.prog 9 = (some 1)) ∧ (strT Tryz.prog 9 = true) ∧ (elemT Tryz.prog 9 = none) := by and_intros <;> kernel_rfl
theorem T64 : (fieldT Tryz.prog 57 0 = (some (0, 9))) ∧ (aggT Tryz.prog 9 = (some false)) ∧ (szT Tryz.prog 9 = (some 1)) ∧ (strT Tryz.prog 9 = true) ∧ (elemT Tryz.prog 9 = none) ∧ (mapT Tryz.prog 9 = none) ∧ (layT Tryz.prog 88 = (some ([(.int .i64 0), (.str []), (.str []), .nils, (.int .i64 0), (.int .i64 0)], [(0, 1), (1, 1), (2, 1), (3, 1), (4, 1), (5, 1)]))) ∧ (zeroA Tryz.prog 88 = (some (.agg [(.int .i64 0), (.str []), (.str []), .nils, (.int .i64 0), (.int .i64 0)]))) ∧ (szT Tryz.prog 88 = (some 6)) ∧ (fieldT Tryz.prog 88 1 = (some (1, 9))) ∧ (zeroA Tryz.prog 132 = (some (.agg [(.str []), (.str [])]))) ∧ (szT Tryz.prog 132 = (some 2)) ∧ (fieldT Tryz.prog 132 0 = (some (0, 9))) ∧ (mapT Tryz.prog 95 = (some (9, 3))) ∧ (intT Tryz.prog 9 = none) ∧ (boolT Tryz.prog 9 = false) ∧ (zeroA Tryz.prog 3 = (some (.int .i64 0))) ∧ (fieldT Tryz.prog 88 3 = (some (3, 86))) ∧ (aggT Tryz.prog 86 = (some false)) ∧ (szT Tryz.prog 86 = (some 1)) ∧ (aggT Tryz.prog 132 = (some true)) ∧ (elemT Tryz.prog 86 = (some 132)) ∧ (rowT Tryz.prog 86 = (some (132, (2, false)))) ∧ (strT Tryz.prog 86 = false) ∧ (layT Tryz.prog 53 = (some ([(.int .i64 0)], [(0, 1)]))) ∧ (ifaceT Tryz.prog 53 = (some false)) ∧ (fieldT Tryz.prog 57 1 = (some (1, 40))) ∧ (aggT Tryz.prog 40 = (some false)) ∧ (szT Tryz.prog 40 = (some 1)) ∧ (aggT Tryz.prog 88 = (some true)) ∧ (elemT Tryz.prog 40 = (some 88)) ∧ (rowT Tryz.prog 40 = (some (88, (6, false)))) ∧ (strT Tryz.prog 40 = false) ∧ (fieldT Tryz.prog 57 2 = (some (2, 46))) ∧ (aggT Tryz.prog 46 = (some false)) ∧ (szT Tryz.prog 46 = (some 1)) ∧ (elemT Tryz.prog 46 = (some 9)) ∧ (zeroA Tryz.prog 9 = (some (.str []))) ∧ (rowT Tryz.prog 46 = (some (9, (1, false)))) ∧ (strT Tryz.prog 46 = false) := by and_intros <;> kernel_rfl
theorem T92 : (True) := trivial
theorem T98 : (hasT Tryz.prog 9 = true) ∧ (intT Tryz.prog 67 = none) ∧ (strT Tryz.prog 67 = false) ∧ (elemT Tryz.prog 67 = (some 5)) ∧ (elemT Tryz.prog 9 = none) ∧ (intT Tryz.prog 5 = (some .u8)) ∧ (mapT Tryz.prog 67 = none) ∧ (szT Tryz.prog 5 = (some 1)) ∧ (aggT Tryz.prog 5 = (some false)) ∧ (hasT Tryz.prog 67 = true) ∧ (intT Tryz.prog 9 = none) ∧ (strT Tryz.prog 9 = true) := by and_intros <;> kernel_rfl
theorem T96 : (zeroA Tryz.prog 69 = (some (.agg [.nilp, .nils]))) := by kernel_rfl
theorem T132 : (ifaceT Tryz.prog 74 = (some true)) ∧ (hasT Tryz.prog 128 = true) ∧ (intT Tryz.prog 3 = (some .i64)) ∧ (strT Tryz.prog 3 = false) ∧ (elemT Tryz.prog 3 = none) ∧ (elemT Tryz.prog 128 = none) ∧ (elemT Tryz.prog 33 = (some 3)) ∧ (zeroA Tryz.prog 3 = (some (.int .i64 0))) ∧ (szT Tryz.prog 3 = (some 1)) := by and_intros <;> kernel_rfl
theorem T100 : (zeroA Tryz.prog 132 = (some (.agg [(.str []), (.str [])]))) ∧ (strT Tryz.prog 9 = true) ∧ (elemT Tryz.prog 9 = none) ∧ (mapT Tryz.prog 9 = none) ∧ (layT Tryz.prog 132 = (some ([(.str []), (.str [])], [(0, 1), (1, 1)]))) ∧ (szT Tryz.prog 132 = (some 2)) ∧ (fieldT Tryz.prog 132 0 = (some (0, 9))) ∧ (aggT Tryz.prog 9 = (some false)) ∧ (szT Tryz.prog 9 = (some 1)) ∧ (aggT Tryz.prog 132 = (some true)) ∧ (fieldT Tryz.prog 132 1 = (some (1, 9))) := by and_intros <;> kernel_rfl
end Go.Ab
