/- The functions' codes, printed by program: what each operation is, what it asks of types. -/
import Derived.Test.YtebgjmoihhbjjaaGreatDoorProg
import Derived.Test.YtebgjmoihhbjjaaGreatDoorAbC
import Derived.KernelRfl
set_option linter.all false
set_option maxRecDepth 100000
namespace Go.Ab
open Go Go.Proofs
noncomputable def S3 : {x : SC // Tryz.f3.body.map (prepD fun _ => #[]) = some x} := ⟨_, by simp only [Tryz.f3, Option.map, prepD, prepOp, List.map, Option.bind, List.getElem?_toArray, List.getElem?_cons_succ, List.getElem?_cons_zero] <;> rfl⟩
theorem S3_eq : Tryz.f3.body.map prep = some S3.1 := by kernel_rfl
def N3 : Nat := 50
def R3 : List ResultVar := [(.tmp 2)]
theorem B3 : bodyT Tryz.prog 3 = true := by kernel_rfl
noncomputable def S4 : {x : SC // Tryz.f4.body.map (prepD fun _ => #[]) = some x} := ⟨_, by simp only [Tryz.f4, Option.map, prepD, prepOp, List.map, Option.bind, List.getElem?_toArray, List.getElem?_cons_succ, List.getElem?_cons_zero] <;> rfl⟩
theorem S4_eq : Tryz.f4.body.map prep = some S4.1 := by kernel_rfl
def N4 : Nat := 163
def R4 : List ResultVar := [(.tmp 2)]
theorem B4 : bodyT Tryz.prog 4 = true := by kernel_rfl
theorem T3 : (strT Tryz.prog 9 = true) ∧ (elemT Tryz.prog 9 = none) ∧ (mapT Tryz.prog 9 = none) := by and_intros <;> kernel_rfl
theorem T4 : (strT Tryz.prog 9 = true) ∧ (elemT Tryz.prog 9 = none) ∧ (mapT Tryz.prog 9 = none) ∧ (ptrT Tryz.prog 29 = (some 54)) ∧ (szT Tryz.prog 54 = (some 12)) ∧ (zeroA Tryz.prog 35 = (some (.agg [.nils, .nils, (.int .i64 0), (.int .i64 0)]))) ∧ (szT Tryz.prog 35 = (some 4)) ∧ (fieldT Tryz.prog 35 0 = (some (0, 23))) ∧ (aggT Tryz.prog 23 = (some false)) ∧ (szT Tryz.prog 23 = (some 1)) ∧ (strT Tryz.prog 23 = false) ∧ (elemT Tryz.prog 23 = (some 39)) ∧ (mapT Tryz.prog 23 = none) ∧ (szT Tryz.prog 39 = (some 6)) ∧ (aggT Tryz.prog 39 = (some true)) ∧ (zeroA Tryz.prog 39 = (some (.agg [(.int .i64 0), (.str []), (.str []), .nils, (.int .i64 0), (.int .i64 0)]))) ∧ (fieldT Tryz.prog 35 1 = (some (1, 33))) ∧ (aggT Tryz.prog 33 = (some false)) ∧ (szT Tryz.prog 33 = (some 1)) ∧ (strT Tryz.prog 33 = false) ∧ (elemT Tryz.prog 33 = (some 3)) ∧ (szT Tryz.prog 3 = (some 1)) ∧ (aggT Tryz.prog 3 = (some false)) ∧ (fieldT Tryz.prog 35 3 = (some (3, 24))) ∧ (aggT Tryz.prog 24 = (some false)) ∧ (szT Tryz.prog 24 = (some 1)) ∧ (fieldT Tryz.prog 35 2 = (some (2, 3))) ∧ (layT Tryz.prog 39 = (some ([(.int .i64 0), (.str []), (.str []), .nils, (.int .i64 0), (.int .i64 0)], [(0, 1), (1, 1), (2, 1), (3, 1), (4, 1), (5, 1)]))) := by and_intros <;> kernel_rfl
end Go.Ab
