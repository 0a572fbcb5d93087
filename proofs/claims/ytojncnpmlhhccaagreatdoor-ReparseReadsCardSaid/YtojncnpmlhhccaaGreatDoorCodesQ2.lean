/- The functions' codes, printed by program: what each operation is, what it asks of types. -/
import Derived.Test.YtojncnpmlhhccaaGreatDoorProg
import Derived.Test.YtojncnpmlhhccaaGreatDoorAbC
import Derived.KernelRfl
set_option linter.all false
set_option maxRecDepth 100000
namespace Go.Ab
open Go Go.Proofs
noncomputable def D28 := drawIn Tryz.f28
noncomputable def L28_5 : {l : List MOp // (D28 5).toList.map (prepOp (D28 5)) = l} := ⟨_, by simp only [D28, drawIn, Tryz.f28, drawOf, cond_true, cond_false, Nat.reduceBEq, Option.getD, Option.map, prepD, prepOp, List.map, Option.bind, List.getElem?_toArray, List.getElem?_cons_succ, List.getElem?_cons_zero] <;> rfl⟩
theorem L28_5_eq : (D28 5).toList.map (prepOp (D28 5)) = L28_5.1 := L28_5.2
theorem P28_5_eq : drawPlan (D28 5) = (some [(0, 9), (3, 9), (4, 9), (5, 9)]) := by kernel_rfl
noncomputable def S28 : {x : SC // Tryz.f28.body.map (prepD D28) = some x} := ⟨_, by simp only [Tryz.f28, Option.map, prepD, prepOp, List.map, Option.bind, List.getElem?_toArray, List.getElem?_cons_succ, List.getElem?_cons_zero] <;> rfl⟩
theorem S28_eq : Tryz.f28.body.map prep = some S28.1 := by kernel_rfl
def N28 : Nat := 38
def R28 : List ResultVar := [(.cell 2 25), (.tmp 3)]
theorem B28 : bodyT Tryz.prog 28 = true := by kernel_rfl
noncomputable def D72 := drawIn Tryz.f72
noncomputable def L72_7 : {l : List MOp // (D72 7).toList.map (prepOp (D72 7)) = l} := ⟨_, by simp only [D72, drawIn, Tryz.f72, drawOf, cond_true, cond_false, Nat.reduceBEq, Option.getD, Option.map, prepD, prepOp, List.map, Option.bind, List.getElem?_toArray, List.getElem?_cons_succ, List.getElem?_cons_zero] <;> rfl⟩
theorem L72_7_eq : (D72 7).toList.map (prepOp (D72 7)) = L72_7.1 := L72_7.2
theorem P72_7_eq : drawPlan (D72 7) = (some []) := by kernel_rfl
noncomputable def S72 : {x : SC // Tryz.f72.body.map (prepD D72) = some x} := ⟨_, by simp only [Tryz.f72, Option.map, prepD, prepOp, List.map, Option.bind, List.getElem?_toArray, List.getElem?_cons_succ, List.getElem?_cons_zero] <;> rfl⟩
theorem S72_eq : Tryz.f72.body.map prep = some S72.1 := by kernel_rfl
def N72 : Nat := 94
def R72 : List ResultVar := [(.cell 4 119), (.tmp 5)]
theorem B72 : bodyT Tryz.prog 72 = true := by kernel_rfl
noncomputable def D111 := drawIn Tryz.f111
noncomputable def L111_6 : {l : List MOp // (D111 6).toList.map (prepOp (D111 6)) = l} := ⟨_, by simp only [D111, drawIn, Tryz.f111, drawOf, cond_true, cond_false, Nat.reduceBEq, Option.getD, Option.map, prepD, prepOp, List.map, Option.bind, List.getElem?_toArray, List.getElem?_cons_succ, List.getElem?_cons_zero] <;> rfl⟩
theorem L111_6_eq : (D111 6).toList.map (prepOp (D111 6)) = L111_6.1 := L111_6.2
theorem P111_6_eq : drawPlan (D111 6) = (some []) := by kernel_rfl
noncomputable def L111_14 : {l : List MOp // (D111 14).toList.map (prepOp (D111 14)) = l} := ⟨_, by simp only [D111, drawIn, Tryz.f111, drawOf, cond_true, cond_false, Nat.reduceBEq, Option.getD, Option.map, prepD, prepOp, List.map, Option.bind, List.getElem?_toArray, List.getElem?_cons_succ, List.getElem?_cons_zero] <;> rfl⟩
theorem L111_14_eq : (D111 14).toList.map (prepOp (D111 14)) = L111_14.1 := L111_14.2
theorem P111_14_eq : drawPlan (D111 14) = (some []) := by kernel_rfl
noncomputable def L111_23 : {l : List MOp // (D111 23).toList.map (prepOp (D111 23)) = l} := ⟨_, by simp only [D111, drawIn, Tryz.f111, drawOf, cond_true, cond_false, Nat.reduceBEq, Option.getD, Option.map, prepD, prepOp, List.map, Option.bind, List.getElem?_toArray, List.getElem?_cons_succ, List.getElem?_cons_zero] <;> rfl⟩
theorem L111_23_eq : (D111 23).toList.map (prepOp (D111 23)) = L111_23.1 := L111_23.2
theorem P111_23_eq : drawPlan (D111 23) = (some []) := by kernel_rfl
noncomputable def S111 : {x : SC // Tryz.f111.body.map (prepD D111) = some x} := ⟨_, by simp only [Tryz.f111, Option.map, prepD, prepOp, List.map, Option.bind, List.getElem?_toArray, List.getElem?_cons_succ, List.getElem?_cons_zero] <;> rfl⟩
theorem S111_eq : Tryz.f111.body.map prep = some S111.1 := by kernel_rfl
def N111 : Nat := 110
def R111 : List ResultVar := [(.cell 4 119), (.tmp 5)]
theorem B111 : bodyT Tryz.prog 111 = true := by kernel_rfl
noncomputable def D113 := drawIn Tryz.f113
noncomputable def L113_6 : {l : List MOp // (D113 6).toList.map (prepOp (D113 6)) = l} := ⟨_, by simp only [D113, drawIn, Tryz.f113, drawOf, cond_true, cond_false, Nat.reduceBEq, Option.getD, Option.map, prepD, prepOp, List.map, Option.bind, List.getElem?_toArray, List.getElem?_cons_succ, List.getElem?_cons_zero] <;> rfl⟩
theorem L113_6_eq : (D113 6).toList.map (prepOp (D113 6)) = L113_6.1 := L113_6.2
theorem P113_6_eq : drawPlan (D113 6) = (some []) := by kernel_rfl
noncomputable def S113 : {x : SC // Tryz.f113.body.map (prepD D113) = some x} := ⟨_, by simp only [Tryz.f113, Option.map, prepD, prepOp, List.map, Option.bind, List.getElem?_toArray, List.getElem?_cons_succ, List.getElem?_cons_zero] <;> rfl⟩
theorem S113_eq : Tryz.f113.body.map prep = some S113.1 := by kernel_rfl
def N113 : Nat := 78
def R113 : List ResultVar := [(.cell 4 119), (.tmp 5)]
theorem B113 : bodyT Tryz.prog 113 = true := by kernel_rfl
noncomputable def S115 : {x : SC // Tryz.f115.body.map (prepD fun _ => #[]) = some x} := ⟨_, by simp only [Tryz.f115, Option.map, prepD, prepOp, List.map, Option.bind, List.getElem?_toArray, List.getElem?_cons_succ, List.getElem?_cons_zero] <;> rfl⟩
theorem S115_eq : Tryz.f115.body.map prep = some S115.1 := by kernel_rfl
def N115 : Nat := 56
def R115 : List ResultVar := [(.cell 8 119), (.tmp 9)]
theorem B115 : bodyT Tryz.prog 115 = true := by kernel_rfl
noncomputable def S114 : {x : SC // Tryz.f114.body.map (prepD fun _ => #[]) = some x} := ⟨_, by simp only [Tryz.f114, Option.map, prepD, prepOp, List.map, Option.bind, List.getElem?_toArray, List.getElem?_cons_succ, List.getElem?_cons_zero] <;> rfl⟩
theorem S114_eq : Tryz.f114.body.map prep = some S114.1 := by kernel_rfl
def N114 : Nat := 100
def R114 : List ResultVar := [(.tmp 6)]
theorem B114 : bodyT Tryz.prog 114 = true := by kernel_rfl
noncomputable def S140 : {x : SC // Tryz.f140.body.map (prepD fun _ => #[]) = some x} := ⟨_, by simp only [Tryz.f140, Option.map, prepD, prepOp, List.map, Option.bind, List.getElem?_toArray, List.getElem?_cons_succ, List.getElem?_cons_zero] <;> rfl⟩
theorem S140_eq : Tryz.f140.body.map prep = some S140.1 := by kernel_rfl
def N140 : Nat := 24
def R140 : List ResultVar := [(.tmp 4)]
theorem B140 : bodyT Tryz.prog 140 = true := by kernel_rfl
noncomputable def S141 : {x : SC // Tryz.f141.body.map (prepD fun _ => #[]) = some x} := ⟨_, by simp only [Tryz.f141, Option.map, prepD, prepOp, List.map, Option.bind, List.getElem?_toArray, List.getElem?_cons_succ, List.getElem?_cons_zero] <;> rfl⟩
theorem S141_eq : Tryz.f141.body.map prep = some S141.1 := by kernel_rfl
def N141 : Nat := 36
def R141 : List ResultVar := [(.tmp 2)]
theorem B141 : bodyT Tryz.prog 141 = true := by kernel_rfl
noncomputable def S142 : {x : SC // Tryz.f142.body.map (prepD fun _ => #[]) = some x} := ⟨_, by simp only [Tryz.f142, Option.map, prepD, prepOp, List.map, Option.bind, List.getElem?_toArray, List.getElem?_cons_succ, List.getElem?_cons_zero] <;> rfl⟩
theorem S142_eq : Tryz.f142.body.map prep = some S142.1 := by kernel_rfl
def N142 : Nat := 17
def R142 : List ResultVar := [(.tmp 4)]
theorem B142 : bodyT Tryz.prog 142 = true := by kernel_rfl
noncomputable def S3 : {x : SC // Tryz.f3.body.map (prepD fun _ => #[]) = some x} := ⟨_, by simp only [Tryz.f3, Option.map, prepD, prepOp, List.map, Option.bind, List.getElem?_toArray, List.getElem?_cons_succ, List.getElem?_cons_zero] <;> rfl⟩
theorem S3_eq : Tryz.f3.body.map prep = some S3.1 := by kernel_rfl
def N3 : Nat := 32
def R3 : List ResultVar := [(.tmp 2)]
theorem T28 : (zeroA Tryz.prog 25 = (some (.agg [.nils]))) ∧ (layT Tryz.prog 36 = (some ([(.int .i64 0), (.str []), (.str []), (.int .i64 0)], [(0, 1), (1, 1), (2, 1), (3, 1)]))) ∧ (elemT Tryz.prog 23 = (some 36)) ∧ (zeroA Tryz.prog 36 = (some (.agg [(.int .i64 0), (.str []), (.str []), (.int .i64 0)]))) ∧ (szT Tryz.prog 36 = (some 4)) ∧ (layT Tryz.prog 25 = (some ([.nils], [(0, 1)]))) ∧ (layT Tryz.prog 119 = (some ([.nils, (.int .i64 0), (.int .i64 0)], [(0, 1), (1, 1), (2, 1)]))) ∧ (zeroA Tryz.prog 119 = (some (.agg [.nils, (.int .i64 0), (.int .i64 0)]))) ∧ (szT Tryz.prog 119 = (some 3)) ∧ (strT Tryz.prog 40 = false) ∧ (elemT Tryz.prog 40 = (some 88)) ∧ (mapT Tryz.prog 40 = none) ∧ (aggT Tryz.prog 119 = (some true)) ∧ (szT Tryz.prog 88 = (some 6)) ∧ (aggT Tryz.prog 88 = (some true)) ∧ (szT Tryz.prog 25 = (some 1)) ∧ (fieldT Tryz.prog 119 1 = (some (1, 3))) ∧ (aggT Tryz.prog 3 = (some false)) ∧ (szT Tryz.prog 3 = (some 1)) ∧ (fieldT Tryz.prog 119 0 = (some (0, 25))) ∧ (aggT Tryz.prog 25 = (some true)) := by and_intros <;> kernel_rfl
theorem T72 : (zeroA Tryz.prog 119 = (some (.agg [.nils, (.int .i64 0), (.int .i64 0)]))) ∧ (fieldT Tryz.prog 88 0 = (some (0, 3))) ∧ (aggT Tryz.prog 3 = (some false)) ∧ (szT Tryz.prog 3 = (some 1)) ∧ (aggT Tryz.prog 119 = (some true)) ∧ (szT Tryz.prog 119 = (some 3)) ∧ (aggT Tryz.prog 88 = (some true)) ∧ (szT Tryz.prog 88 = (some 6)) ∧ (fieldT Tryz.prog 88 1 = (some (1, 9))) ∧ (aggT Tryz.prog 9 = (some false)) ∧ (szT Tryz.prog 9 = (some 1)) ∧ (fieldT Tryz.prog 119 0 = (some (0, 25))) ∧ (aggT Tryz.prog 25 = (some true)) ∧ (szT Tryz.prog 25 = (some 1)) ∧ (fieldT Tryz.prog 25 0 = (some (0, 23))) ∧ (aggT Tryz.prog 23 = (some false)) ∧ (szT Tryz.prog 23 = (some 1)) ∧ (fieldT Tryz.prog 119 1 = (some (1, 3))) ∧ (strT Tryz.prog 23 = false) ∧ (elemT Tryz.prog 23 = (some 36)) ∧ (szT Tryz.prog 36 = (some 4)) ∧ (fieldT Tryz.prog 36 0 = (some (0, 3))) ∧ (fieldT Tryz.prog 36 1 = (some (1, 9))) ∧ (fieldT Tryz.prog 36 3 = (some (3, 3))) ∧ (fieldT Tryz.prog 88 2 = (some (2, 9))) := by and_intros <;> kernel_rfl
theorem T111 : (zeroA Tryz.prog 119 = (some (.agg [.nils, (.int .i64 0), (.int .i64 0)]))) ∧ (fieldT Tryz.prog 88 1 = (some (1, 9))) ∧ (aggT Tryz.prog 9 = (some false)) ∧ (szT Tryz.prog 9 = (some 1)) ∧ (aggT Tryz.prog 119 = (some true)) ∧ (szT Tryz.prog 119 = (some 3)) ∧ (fieldT Tryz.prog 88 3 = (some (3, 86))) ∧ (aggT Tryz.prog 86 = (some false)) ∧ (szT Tryz.prog 86 = (some 1)) ∧ (strT Tryz.prog 86 = false) ∧ (elemT Tryz.prog 86 = (some 132)) ∧ (mapT Tryz.prog 86 = none) ∧ (szT Tryz.prog 132 = (some 2)) ∧ (fieldT Tryz.prog 132 0 = (some (0, 9))) ∧ (fieldT Tryz.prog 132 1 = (some (1, 9))) ∧ (fieldT Tryz.prog 119 0 = (some (0, 25))) ∧ (aggT Tryz.prog 25 = (some true)) ∧ (szT Tryz.prog 25 = (some 1)) ∧ (fieldT Tryz.prog 25 0 = (some (0, 23))) ∧ (aggT Tryz.prog 23 = (some false)) ∧ (szT Tryz.prog 23 = (some 1)) ∧ (strT Tryz.prog 23 = false) ∧ (elemT Tryz.prog 23 = (some 36)) ∧ (mapT Tryz.prog 23 = none) ∧ (fieldT Tryz.prog 119 1 = (some (1, 3))) ∧ (aggT Tryz.prog 3 = (some false)) ∧ (szT Tryz.prog 3 = (some 1)) := by and_intros <;> kernel_rfl
theorem T113 : (zeroA Tryz.prog 119 = (some (.agg [.nils, (.int .i64 0), (.int .i64 0)]))) ∧ (aggT Tryz.prog 119 = (some true)) ∧ (szT Tryz.prog 119 = (some 3)) ∧ (fieldT Tryz.prog 119 0 = (some (0, 25))) ∧ (aggT Tryz.prog 25 = (some true)) ∧ (szT Tryz.prog 25 = (some 1)) ∧ (fieldT Tryz.prog 25 0 = (some (0, 23))) ∧ (aggT Tryz.prog 23 = (some false)) ∧ (szT Tryz.prog 23 = (some 1)) ∧ (strT Tryz.prog 23 = false) ∧ (elemT Tryz.prog 23 = (some 36)) ∧ (mapT Tryz.prog 23 = none) ∧ (szT Tryz.prog 36 = (some 4)) ∧ (fieldT Tryz.prog 36 0 = (some (0, 3))) ∧ (aggT Tryz.prog 3 = (some false)) ∧ (szT Tryz.prog 3 = (some 1)) ∧ (fieldT Tryz.prog 36 3 = (some (3, 3))) ∧ (fieldT Tryz.prog 119 1 = (some (1, 3))) ∧ (strT Tryz.prog 9 = true) ∧ (elemT Tryz.prog 9 = none) ∧ (mapT Tryz.prog 9 = none) ∧ (fieldT Tryz.prog 119 2 = (some (2, 3))) ∧ (zeroA Tryz.prog 36 = (some (.agg [(.int .i64 0), (.str []), (.str []), (.int .i64 0)]))) ∧ (rowT Tryz.prog 23 = (some (36, (4, false)))) ∧ (fieldT Tryz.prog 36 2 = (some (2, 9))) ∧ (aggT Tryz.prog 9 = (some false)) ∧ (szT Tryz.prog 9 = (some 1)) := by and_intros <;> kernel_rfl
theorem T115 : (zeroA Tryz.prog 119 = (some (.agg [.nils, (.int .i64 0), (.int .i64 0)]))) ∧ (fieldT Tryz.prog 119 0 = (some (0, 25))) ∧ (aggT Tryz.prog 25 = (some true)) ∧ (szT Tryz.prog 25 = (some 1)) ∧ (fieldT Tryz.prog 25 0 = (some (0, 23))) ∧ (aggT Tryz.prog 23 = (some false)) ∧ (szT Tryz.prog 23 = (some 1)) ∧ (strT Tryz.prog 23 = false) ∧ (elemT Tryz.prog 23 = (some 36)) ∧ (mapT Tryz.prog 23 = none) ∧ (fieldT Tryz.prog 119 1 = (some (1, 3))) ∧ (aggT Tryz.prog 3 = (some false)) ∧ (szT Tryz.prog 3 = (some 1)) ∧ (strT Tryz.prog 9 = true) ∧ (elemT Tryz.prog 9 = none) ∧ (mapT Tryz.prog 9 = none) ∧ (fieldT Tryz.prog 119 2 = (some (2, 3))) ∧ (aggT Tryz.prog 119 = (some true)) ∧ (szT Tryz.prog 119 = (some 3)) ∧ (layT Tryz.prog 36 = (some ([(.int .i64 0), (.str []), (.str []), (.int .i64 0)], [(0, 1), (1, 1), (2, 1), (3, 1)]))) ∧ (zeroA Tryz.prog 36 = (some (.agg [(.int .i64 0), (.str []), (.str []), (.int .i64 0)]))) ∧ (szT Tryz.prog 36 = (some 4)) ∧ (rowT Tryz.prog 23 = (some (36, (4, false)))) := by and_intros <;> kernel_rfl
theorem T114 : (strT Tryz.prog 9 = true) ∧ (elemT Tryz.prog 9 = none) ∧ (mapT Tryz.prog 9 = none) := by and_intros <;> kernel_rfl
theorem T140 : (strT Tryz.prog 9 = true) ∧ (elemT Tryz.prog 9 = none) ∧ (mapT Tryz.prog 9 = none) := by and_intros <;> kernel_rfl
theorem T141 : (strT Tryz.prog 9 = true) ∧ (elemT Tryz.prog 9 = none) ∧ (mapT Tryz.prog 9 = none) := by and_intros <;> kernel_rfl
theorem T142 : (fieldT Tryz.prog 25 0 = (some (0, 23))) ∧ (aggT Tryz.prog 23 = (some false)) ∧ (szT Tryz.prog 23 = (some 1)) ∧ (strT Tryz.prog 23 = false) ∧ (elemT Tryz.prog 23 = (some 36)) ∧ (szT Tryz.prog 36 = (some 4)) ∧ (fieldT Tryz.prog 36 3 = (some (3, 3))) ∧ (aggT Tryz.prog 3 = (some false)) ∧ (szT Tryz.prog 3 = (some 1)) := by and_intros <;> kernel_rfl
theorem T3 : (strT Tryz.prog 9 = true) ∧ (elemT Tryz.prog 9 = none) ∧ (mapT Tryz.prog 9 = none) ∧ (zeroA Tryz.prog 25 = (some (.agg [.nils]))) ∧ (szT Tryz.prog 25 = (some 1)) ∧ (aggT Tryz.prog 25 = (some true)) := by and_intros <;> kernel_rfl
end Go.Ab
