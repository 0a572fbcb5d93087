/- The functions' codes, printed by program: what each operation is, what it asks of types. -/
import Derived.Test.YtojncnpmlhhccaaGreatDoorProg
import Derived.Test.YtojncnpmlhhccaaGreatDoorAbC
import Derived.KernelRfl
set_option linter.all false
set_option maxRecDepth 100000
namespace Go.Ab
open Go Go.Proofs
noncomputable def S6 : {x : SC // Tryz.f6.body.map (prepD fun _ => #[]) = some x} := ⟨_, by simp only [Tryz.f6, Option.map, prepD, prepOp, List.map, Option.bind, List.getElem?_toArray, List.getElem?_cons_succ, List.getElem?_cons_zero] <;> rfl⟩
theorem S6_eq : Tryz.f6.body.map prep = some S6.1 := by kernel_rfl
def N6 : Nat := 42
def R6 : List ResultVar := [(.tmp 4)]
noncomputable def S19 : {x : SC // Tryz.f19.body.map (prepD fun _ => #[]) = some x} := ⟨_, by simp only [Tryz.f19, Option.map, prepD, prepOp, List.map, Option.bind, List.getElem?_toArray, List.getElem?_cons_succ, List.getElem?_cons_zero] <;> rfl⟩
theorem S19_eq : Tryz.f19.body.map prep = some S19.1 := by kernel_rfl
def N19 : Nat := 31
def R19 : List ResultVar := [(.tmp 2)]
theorem B19 : bodyT Tryz.prog 19 = true := by kernel_rfl
theorem T6 : (aggT Tryz.prog 25 = (some true)) ∧ (szT Tryz.prog 25 = (some 1)) ∧ (layT Tryz.prog 48 = (some ([(.str []), (.str []), (.bool false), (.bool false), .nils], [(0, 1), (1, 1), (2, 1), (3, 1), (4, 1)]))) ∧ (zeroA Tryz.prog 25 = (some (.agg [.nils]))) := by and_intros <;> kernel_rfl
theorem T19 : (fieldT Tryz.prog 25 0 = (some (0, 23))) ∧ (aggT Tryz.prog 23 = (some false)) ∧ (szT Tryz.prog 23 = (some 1)) ∧ (strT Tryz.prog 23 = false) ∧ (elemT Tryz.prog 23 = (some 36)) ∧ (mapT Tryz.prog 23 = none) ∧ (szT Tryz.prog 36 = (some 4)) ∧ (aggT Tryz.prog 36 = (some true)) ∧ (zeroA Tryz.prog 36 = (some (.agg [(.int .i64 0), (.str []), (.str []), (.int .i64 0)]))) ∧ (fieldT Tryz.prog 36 1 = (some (1, 9))) ∧ (aggT Tryz.prog 9 = (some false)) ∧ (szT Tryz.prog 9 = (some 1)) ∧ (strT Tryz.prog 9 = true) ∧ (elemT Tryz.prog 9 = none) ∧ (mapT Tryz.prog 9 = none) ∧ (fieldT Tryz.prog 36 2 = (some (2, 9))) := by and_intros <;> kernel_rfl
end Go.Ab
