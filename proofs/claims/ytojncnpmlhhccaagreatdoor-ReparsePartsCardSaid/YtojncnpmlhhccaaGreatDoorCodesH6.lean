/- The functions' codes, printed by program: what each operation is, what it asks of types. -/
import Derived.Test.YtojncnpmlhhccaaGreatDoorProg
import Derived.Test.YtojncnpmlhhccaaGreatDoorAbC
import Derived.KernelRfl
set_option linter.all false
set_option maxRecDepth 100000
namespace Go.Ab
open Go Go.Proofs
noncomputable def D4 := drawIn Tryz.f4
noncomputable def L4_14 : {l : List MOp // (D4 14).toList.map (prepOp (D4 14)) = l} := ⟨_, by simp only [D4, drawIn, Tryz.f4, drawOf, cond_true, cond_false, Nat.reduceBEq, Option.getD, Option.map, prepD, prepOp, List.map, Option.bind, List.getElem?_toArray, List.getElem?_cons_succ, List.getElem?_cons_zero] <;> rfl⟩
theorem L4_14_eq : (D4 14).toList.map (prepOp (D4 14)) = L4_14.1 := L4_14.2
theorem P4_14_eq : drawPlan (D4 14) = (some [(1, 2)]) := by kernel_rfl
noncomputable def L4_15 : {l : List MOp // (D4 15).toList.map (prepOp (D4 15)) = l} := ⟨_, by simp only [D4, drawIn, Tryz.f4, drawOf, cond_true, cond_false, Nat.reduceBEq, Option.getD, Option.map, prepD, prepOp, List.map, Option.bind, List.getElem?_toArray, List.getElem?_cons_succ, List.getElem?_cons_zero] <;> rfl⟩
theorem L4_15_eq : (D4 15).toList.map (prepOp (D4 15)) = L4_15.1 := L4_15.2
theorem P4_15_eq : drawPlan (D4 15) = (some []) := by kernel_rfl
noncomputable def L4_17 : {l : List MOp // (D4 17).toList.map (prepOp (D4 17)) = l} := ⟨_, by simp only [D4, drawIn, Tryz.f4, drawOf, cond_true, cond_false, Nat.reduceBEq, Option.getD, Option.map, prepD, prepOp, List.map, Option.bind, List.getElem?_toArray, List.getElem?_cons_succ, List.getElem?_cons_zero] <;> rfl⟩
theorem L4_17_eq : (D4 17).toList.map (prepOp (D4 17)) = L4_17.1 := L4_17.2
theorem P4_17_eq : drawPlan (D4 17) = (some [(16, 17), (16, 19), (18, 19)]) := by kernel_rfl
noncomputable def S4 : {x : SC // Tryz.f4.body.map (prepD D4) = some x} := ⟨_, by simp only [Tryz.f4, Option.map, prepD, prepOp, List.map, Option.bind, List.getElem?_toArray, List.getElem?_cons_succ, List.getElem?_cons_zero] <;> rfl⟩
theorem S4_eq : Tryz.f4.body.map prep = some S4.1 := by kernel_rfl
def N4 : Nat := 133
def R4 : List ResultVar := [(.tmp 4)]
theorem B4 : bodyT Tryz.prog 4 = true := by kernel_rfl
theorem T4 : (strT Tryz.prog 9 = true) ∧ (elemT Tryz.prog 9 = none) ∧ (mapT Tryz.prog 9 = none) ∧ (zeroA Tryz.prog 25 = (some (.agg [.nils]))) ∧ (szT Tryz.prog 25 = (some 1)) ∧ (fieldT Tryz.prog 25 0 = (some (0, 23))) ∧ (aggT Tryz.prog 23 = (some false)) ∧ (szT Tryz.prog 23 = (some 1)) ∧ (strT Tryz.prog 23 = false) ∧ (elemT Tryz.prog 23 = (some 36)) ∧ (mapT Tryz.prog 23 = none) ∧ (aggT Tryz.prog 25 = (some true)) ∧ (strT Tryz.prog 33 = false) ∧ (elemT Tryz.prog 33 = (some 3)) ∧ (mapT Tryz.prog 33 = none) ∧ (szT Tryz.prog 3 = (some 1)) ∧ (aggT Tryz.prog 3 = (some false)) ∧ (szT Tryz.prog 36 = (some 4)) ∧ (fieldT Tryz.prog 36 0 = (some (0, 3))) := by and_intros <;> kernel_rfl
end Go.Ab
