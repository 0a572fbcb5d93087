/- The functions' codes, printed by program: what each operation is, what it asks of types. -/
import Derived.Test.YtojncnpmlhhccaaGreatDoorProg
import Derived.Test.YtojncnpmlhhccaaGreatDoorAbC
import Derived.KernelRfl
set_option linter.all false
set_option maxRecDepth 100000
namespace Go.Ab
open Go Go.Proofs
noncomputable def D32 := drawIn Tryz.f32
noncomputable def L32_8 : {l : List MOp // (D32 8).toList.map (prepOp (D32 8)) = l} := ⟨_, by simp only [D32, drawIn, Tryz.f32, drawOf, cond_true, cond_false, Nat.reduceBEq, Option.getD, Option.map, prepD, prepOp, List.map, Option.bind, List.getElem?_toArray, List.getElem?_cons_succ, List.getElem?_cons_zero] <;> rfl⟩
theorem L32_8_eq : (D32 8).toList.map (prepOp (D32 8)) = L32_8.1 := L32_8.2
theorem P32_8_eq : drawPlan (D32 8) = (some [(1, 2)]) := by kernel_rfl
noncomputable def S32 : {x : SC // Tryz.f32.body.map (prepD D32) = some x} := ⟨_, by simp only [Tryz.f32, Option.map, prepD, prepOp, List.map, Option.bind, List.getElem?_toArray, List.getElem?_cons_succ, List.getElem?_cons_zero] <;> rfl⟩
theorem S32_eq : Tryz.f32.body.map prep = some S32.1 := by kernel_rfl
def N32 : Nat := 32
def R32 : List ResultVar := [(.cell 4 33), (.cell 5 33)]
theorem B32 : bodyT Tryz.prog 32 = true := by kernel_rfl
noncomputable def S14 : {x : SC // Tryz.f14.body.map (prepD fun _ => #[]) = some x} := ⟨_, by simp only [Tryz.f14, Option.map, prepD, prepOp, List.map, Option.bind, List.getElem?_toArray, List.getElem?_cons_succ, List.getElem?_cons_zero] <;> rfl⟩
theorem S14_eq : Tryz.f14.body.map prep = some S14.1 := by kernel_rfl
def N14 : Nat := 136
def R14 : List ResultVar := [(.tmp 6)]
theorem B14 : bodyT Tryz.prog 14 = true := by kernel_rfl
theorem T32 : (zeroA Tryz.prog 33 = (some .nils)) ∧ (aggT Tryz.prog 25 = (some true)) ∧ (szT Tryz.prog 25 = (some 1)) ∧ (aggT Tryz.prog 3 = (some false)) ∧ (szT Tryz.prog 3 = (some 1)) ∧ (aggT Tryz.prog 33 = (some false)) ∧ (szT Tryz.prog 33 = (some 1)) := by and_intros <;> kernel_rfl
theorem T14 : (aggT Tryz.prog 25 = (some true)) ∧ (szT Tryz.prog 25 = (some 1)) ∧ (elemT Tryz.prog 33 = (some 3)) ∧ (zeroA Tryz.prog 3 = (some (.int .i64 0))) ∧ (szT Tryz.prog 3 = (some 1)) ∧ (strT Tryz.prog 33 = false) ∧ (mapT Tryz.prog 33 = none) ∧ (rowT Tryz.prog 33 = (some (3, (1, false)))) ∧ (fieldT Tryz.prog 25 0 = (some (0, 23))) ∧ (aggT Tryz.prog 23 = (some false)) ∧ (szT Tryz.prog 23 = (some 1)) ∧ (strT Tryz.prog 23 = false) ∧ (elemT Tryz.prog 23 = (some 36)) ∧ (mapT Tryz.prog 23 = none) ∧ (szT Tryz.prog 36 = (some 4)) ∧ (fieldT Tryz.prog 36 0 = (some (0, 3))) ∧ (aggT Tryz.prog 3 = (some false)) := by and_intros <;> kernel_rfl
end Go.Ab
