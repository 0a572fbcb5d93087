/- The functions' codes, printed by program: what each operation is, what it asks of types. -/
import Derived.Test.YtebgjmoihhbjjaaGreatDoorProg
import Derived.Test.YtebgjmoihhbjjaaGreatDoorAbC
import Derived.KernelRfl
set_option linter.all false
set_option maxRecDepth 100000
namespace Go.Ab
open Go Go.Proofs
noncomputable def D21 := drawIn Tryz.f21
noncomputable def L21_4 : {l : List MOp // (D21 4).toList.map (prepOp (D21 4)) = l} := ⟨_, by simp only [D21, drawIn, Tryz.f21, drawOf, cond_true, cond_false, Nat.reduceBEq, Option.getD, Option.map, prepD, prepOp, List.map, Option.bind, List.getElem?_toArray, List.getElem?_cons_succ, List.getElem?_cons_zero] <;> rfl⟩
theorem L21_4_eq : (D21 4).toList.map (prepOp (D21 4)) = L21_4.1 := L21_4.2
theorem P21_4_eq : drawPlan (D21 4) = (some [(1, 5), (4, 5), (1, 6), (4, 6)]) := by kernel_rfl
noncomputable def L21_6 : {l : List MOp // (D21 6).toList.map (prepOp (D21 6)) = l} := ⟨_, by simp only [D21, drawIn, Tryz.f21, drawOf, cond_true, cond_false, Nat.reduceBEq, Option.getD, Option.map, prepD, prepOp, List.map, Option.bind, List.getElem?_toArray, List.getElem?_cons_succ, List.getElem?_cons_zero] <;> rfl⟩
theorem L21_6_eq : (D21 6).toList.map (prepOp (D21 6)) = L21_6.1 := L21_6.2
theorem P21_6_eq : drawPlan (D21 6) = (some [(0, 7)]) := by kernel_rfl
noncomputable def L21_12 : {l : List MOp // (D21 12).toList.map (prepOp (D21 12)) = l} := ⟨_, by simp only [D21, drawIn, Tryz.f21, drawOf, cond_true, cond_false, Nat.reduceBEq, Option.getD, Option.map, prepD, prepOp, List.map, Option.bind, List.getElem?_toArray, List.getElem?_cons_succ, List.getElem?_cons_zero] <;> rfl⟩
theorem L21_12_eq : (D21 12).toList.map (prepOp (D21 12)) = L21_12.1 := L21_12.2
theorem P21_12_eq : drawPlan (D21 12) = (some [(3, 5)]) := by kernel_rfl
noncomputable def L21_14 : {l : List MOp // (D21 14).toList.map (prepOp (D21 14)) = l} := ⟨_, by simp only [D21, drawIn, Tryz.f21, drawOf, cond_true, cond_false, Nat.reduceBEq, Option.getD, Option.map, prepD, prepOp, List.map, Option.bind, List.getElem?_toArray, List.getElem?_cons_succ, List.getElem?_cons_zero] <;> rfl⟩
theorem L21_14_eq : (D21 14).toList.map (prepOp (D21 14)) = L21_14.1 := L21_14.2
theorem P21_14_eq : drawPlan (D21 14) = (some [(11, 14)]) := by kernel_rfl
noncomputable def L21_15 : {l : List MOp // (D21 15).toList.map (prepOp (D21 15)) = l} := ⟨_, by simp only [D21, drawIn, Tryz.f21, drawOf, cond_true, cond_false, Nat.reduceBEq, Option.getD, Option.map, prepD, prepOp, List.map, Option.bind, List.getElem?_toArray, List.getElem?_cons_succ, List.getElem?_cons_zero] <;> rfl⟩
theorem L21_15_eq : (D21 15).toList.map (prepOp (D21 15)) = L21_15.1 := L21_15.2
theorem P21_15_eq : drawPlan (D21 15) = (some [(0, 6)]) := by kernel_rfl
noncomputable def L21_16 : {l : List MOp // (D21 16).toList.map (prepOp (D21 16)) = l} := ⟨_, by simp only [D21, drawIn, Tryz.f21, drawOf, cond_true, cond_false, Nat.reduceBEq, Option.getD, Option.map, prepD, prepOp, List.map, Option.bind, List.getElem?_toArray, List.getElem?_cons_succ, List.getElem?_cons_zero] <;> rfl⟩
theorem L21_16_eq : (D21 16).toList.map (prepOp (D21 16)) = L21_16.1 := L21_16.2
theorem P21_16_eq : drawPlan (D21 16) = (some [(1, 2)]) := by kernel_rfl
noncomputable def S21 : {x : SC // Tryz.f21.body.map (prepD D21) = some x} := ⟨_, by simp only [Tryz.f21, Option.map, prepD, prepOp, List.map, Option.bind, List.getElem?_toArray, List.getElem?_cons_succ, List.getElem?_cons_zero] <;> rfl⟩
theorem S21_eq : Tryz.f21.body.map prep = some S21.1 := by kernel_rfl
def N21 : Nat := 95
def R21 : List ResultVar := [(.cell 2 39), (.cell 3 4), (.cell 4 24)]
theorem B21 : bodyT Tryz.prog 21 = true := by kernel_rfl
noncomputable def D33 := drawIn Tryz.f33
noncomputable def L33_5 : {l : List MOp // (D33 5).toList.map (prepOp (D33 5)) = l} := ⟨_, by simp only [D33, drawIn, Tryz.f33, drawOf, cond_true, cond_false, Nat.reduceBEq, Option.getD, Option.map, prepD, prepOp, List.map, Option.bind, List.getElem?_toArray, List.getElem?_cons_succ, List.getElem?_cons_zero] <;> rfl⟩
theorem L33_5_eq : (D33 5).toList.map (prepOp (D33 5)) = L33_5.1 := L33_5.2
theorem P33_5_eq : drawPlan (D33 5) = (some [(0, 5), (1, 5), (5, 7), (7, 10)]) := by kernel_rfl
noncomputable def L33_6 : {l : List MOp // (D33 6).toList.map (prepOp (D33 6)) = l} := ⟨_, by simp only [D33, drawIn, Tryz.f33, drawOf, cond_true, cond_false, Nat.reduceBEq, Option.getD, Option.map, prepD, prepOp, List.map, Option.bind, List.getElem?_toArray, List.getElem?_cons_succ, List.getElem?_cons_zero] <;> rfl⟩
theorem L33_6_eq : (D33 6).toList.map (prepOp (D33 6)) = L33_6.1 := L33_6.2
theorem P33_6_eq : drawPlan (D33 6) = (some [(2, 3), (2, 4)]) := by kernel_rfl
noncomputable def S33 : {x : SC // Tryz.f33.body.map (prepD D33) = some x} := ⟨_, by simp only [Tryz.f33, Option.map, prepD, prepOp, List.map, Option.bind, List.getElem?_toArray, List.getElem?_cons_succ, List.getElem?_cons_zero] <;> rfl⟩
theorem S33_eq : Tryz.f33.body.map prep = some S33.1 := by kernel_rfl
def N33 : Nat := 38
def R33 : List ResultVar := []
theorem B33 : bodyT Tryz.prog 33 = true := by kernel_rfl
noncomputable def D19 := drawIn Tryz.f19
noncomputable def L19_3 : {l : List MOp // (D19 3).toList.map (prepOp (D19 3)) = l} := ⟨_, by simp only [D19, drawIn, Tryz.f19, drawOf, cond_true, cond_false, Nat.reduceBEq, Option.getD, Option.map, prepD, prepOp, List.map, Option.bind, List.getElem?_toArray, List.getElem?_cons_succ, List.getElem?_cons_zero] <;> rfl⟩
theorem L19_3_eq : (D19 3).toList.map (prepOp (D19 3)) = L19_3.1 := L19_3.2
theorem P19_3_eq : drawPlan (D19 3) = (some []) := by kernel_rfl
noncomputable def S19 : {x : SC // Tryz.f19.body.map (prepD D19) = some x} := ⟨_, by simp only [Tryz.f19, Option.map, prepD, prepOp, List.map, Option.bind, List.getElem?_toArray, List.getElem?_cons_succ, List.getElem?_cons_zero] <;> rfl⟩
theorem S19_eq : Tryz.f19.body.map prep = some S19.1 := by kernel_rfl
def N19 : Nat := 16
def R19 : List ResultVar := [(.tmp 2), (.tmp 3)]
theorem B19 : bodyT Tryz.prog 19 = true := by kernel_rfl
noncomputable def D34 := drawIn Tryz.f34
noncomputable def L34_3 : {l : List MOp // (D34 3).toList.map (prepOp (D34 3)) = l} := ⟨_, by simp only [D34, drawIn, Tryz.f34, drawOf, cond_true, cond_false, Nat.reduceBEq, Option.getD, Option.map, prepD, prepOp, List.map, Option.bind, List.getElem?_toArray, List.getElem?_cons_succ, List.getElem?_cons_zero] <;> rfl⟩
theorem L34_3_eq : (D34 3).toList.map (prepOp (D34 3)) = L34_3.1 := L34_3.2
theorem P34_3_eq : drawPlan (D34 3) = (some []) := by kernel_rfl
noncomputable def S34 : {x : SC // Tryz.f34.body.map (prepD D34) = some x} := ⟨_, by simp only [Tryz.f34, Option.map, prepD, prepOp, List.map, Option.bind, List.getElem?_toArray, List.getElem?_cons_succ, List.getElem?_cons_zero] <;> rfl⟩
theorem S34_eq : Tryz.f34.body.map prep = some S34.1 := by kernel_rfl
def N34 : Nat := 48
def R34 : List ResultVar := [(.cell 4 51)]
theorem B34 : bodyT Tryz.prog 34 = true := by kernel_rfl
noncomputable def D35 := drawIn Tryz.f35
noncomputable def L35_6 : {l : List MOp // (D35 6).toList.map (prepOp (D35 6)) = l} := ⟨_, by simp only [D35, drawIn, Tryz.f35, drawOf, cond_true, cond_false, Nat.reduceBEq, Option.getD, Option.map, prepD, prepOp, List.map, Option.bind, List.getElem?_toArray, List.getElem?_cons_succ, List.getElem?_cons_zero] <;> rfl⟩
theorem L35_6_eq : (D35 6).toList.map (prepOp (D35 6)) = L35_6.1 := L35_6.2
theorem P35_6_eq : drawPlan (D35 6) = (some []) := by kernel_rfl
noncomputable def S35 : {x : SC // Tryz.f35.body.map (prepD D35) = some x} := ⟨_, by simp only [Tryz.f35, Option.map, prepD, prepOp, List.map, Option.bind, List.getElem?_toArray, List.getElem?_cons_succ, List.getElem?_cons_zero] <;> rfl⟩
theorem S35_eq : Tryz.f35.body.map prep = some S35.1 := by kernel_rfl
def N35 : Nat := 81
def R35 : List ResultVar := [(.cell 2 39), (.tmp 3), (.tmp 4)]
theorem B35 : bodyT Tryz.prog 35 = true := by kernel_rfl
noncomputable def D62 := drawIn Tryz.f62
noncomputable def L62_3 : {l : List MOp // (D62 3).toList.map (prepOp (D62 3)) = l} := ⟨_, by simp only [D62, drawIn, Tryz.f62, drawOf, cond_true, cond_false, Nat.reduceBEq, Option.getD, Option.map, prepD, prepOp, List.map, Option.bind, List.getElem?_toArray, List.getElem?_cons_succ, List.getElem?_cons_zero] <;> rfl⟩
theorem L62_3_eq : (D62 3).toList.map (prepOp (D62 3)) = L62_3.1 := L62_3.2
theorem P62_3_eq : drawPlan (D62 3) = (some []) := by kernel_rfl
noncomputable def L62_4 : {l : List MOp // (D62 4).toList.map (prepOp (D62 4)) = l} := ⟨_, by simp only [D62, drawIn, Tryz.f62, drawOf, cond_true, cond_false, Nat.reduceBEq, Option.getD, Option.map, prepD, prepOp, List.map, Option.bind, List.getElem?_toArray, List.getElem?_cons_succ, List.getElem?_cons_zero] <;> rfl⟩
theorem L62_4_eq : (D62 4).toList.map (prepOp (D62 4)) = L62_4.1 := L62_4.2
theorem P62_4_eq : drawPlan (D62 4) = (some []) := by kernel_rfl
noncomputable def L62_11 : {l : List MOp // (D62 11).toList.map (prepOp (D62 11)) = l} := ⟨_, by simp only [D62, drawIn, Tryz.f62, drawOf, cond_true, cond_false, Nat.reduceBEq, Option.getD, Option.map, prepD, prepOp, List.map, Option.bind, List.getElem?_toArray, List.getElem?_cons_succ, List.getElem?_cons_zero] <;> rfl⟩
theorem L62_11_eq : (D62 11).toList.map (prepOp (D62 11)) = L62_11.1 := L62_11.2
theorem P62_11_eq : drawPlan (D62 11) = (some []) := by kernel_rfl
noncomputable def S62 : {x : SC // Tryz.f62.body.map (prepD D62) = some x} := ⟨_, by simp only [Tryz.f62, Option.map, prepD, prepOp, List.map, Option.bind, List.getElem?_toArray, List.getElem?_cons_succ, List.getElem?_cons_zero] <;> rfl⟩
theorem S62_eq : Tryz.f62.body.map prep = some S62.1 := by kernel_rfl
def N62 : Nat := 87
def R62 : List ResultVar := [(.tmp 2), (.tmp 3)]
theorem B62 : bodyT Tryz.prog 62 = true := by kernel_rfl
noncomputable def D63 := drawIn Tryz.f63
noncomputable def L63_34 : {l : List MOp // (D63 34).toList.map (prepOp (D63 34)) = l} := ⟨_, by simp only [D63, drawIn, Tryz.f63, drawOf, cond_true, cond_false, Nat.reduceBEq, Option.getD, Option.map, prepD, prepOp, List.map, Option.bind, List.getElem?_toArray, List.getElem?_cons_succ, List.getElem?_cons_zero] <;> rfl⟩
theorem L63_34_eq : (D63 34).toList.map (prepOp (D63 34)) = L63_34.1 := L63_34.2
theorem P63_34_eq : drawPlan (D63 34) = (some [(4, 7)]) := by kernel_rfl
noncomputable def S63 : {x : SC // Tryz.f63.body.map (prepD D63) = some x} := ⟨_, by simp only [Tryz.f63, Option.map, prepD, prepOp, List.map, Option.bind, List.getElem?_toArray, List.getElem?_cons_succ, List.getElem?_cons_zero] <;> rfl⟩
theorem S63_eq : Tryz.f63.body.map prep = some S63.1 := by kernel_rfl
def N63 : Nat := 197
def R63 : List ResultVar := [(.cell 4 39)]
theorem B63 : bodyT Tryz.prog 63 = true := by kernel_rfl
noncomputable def S87 : {x : SC // Tryz.f87.body.map (prepD fun _ => #[]) = some x} := ⟨_, by simp only [Tryz.f87, Option.map, prepD, prepOp, List.map, Option.bind, List.getElem?_toArray, List.getElem?_cons_succ, List.getElem?_cons_zero] <;> rfl⟩
theorem S87_eq : Tryz.f87.body.map prep = some S87.1 := by kernel_rfl
def N87 : Nat := 97
def R87 : List ResultVar := []
theorem B87 : bodyT Tryz.prog 87 = true := by kernel_rfl
noncomputable def S91 : {x : SC // Tryz.f91.body.map (prepD fun _ => #[]) = some x} := ⟨_, by simp only [Tryz.f91, Option.map, prepD, prepOp, List.map, Option.bind, List.getElem?_toArray, List.getElem?_cons_succ, List.getElem?_cons_zero] <;> rfl⟩
theorem S91_eq : Tryz.f91.body.map prep = some S91.1 := by kernel_rfl
def N91 : Nat := 70
def R91 : List ResultVar := [(.cell 4 138), (.tmp 5)]
theorem B91 : bodyT Tryz.prog 91 = true := by kernel_rfl
noncomputable def D115 := drawIn Tryz.f115
noncomputable def L115_9 : {l : List MOp // (D115 9).toList.map (prepOp (D115 9)) = l} := ⟨_, by simp only [D115, drawIn, Tryz.f115, drawOf, cond_true, cond_false, Nat.reduceBEq, Option.getD, Option.map, prepD, prepOp, List.map, Option.bind, List.getElem?_toArray, List.getElem?_cons_succ, List.getElem?_cons_zero] <;> rfl⟩
theorem L115_9_eq : (D115 9).toList.map (prepOp (D115 9)) = L115_9.1 := L115_9.2
theorem P115_9_eq : drawPlan (D115 9) = (some []) := by kernel_rfl
noncomputable def S115 : {x : SC // Tryz.f115.body.map (prepD D115) = some x} := ⟨_, by simp only [Tryz.f115, Option.map, prepD, prepOp, List.map, Option.bind, List.getElem?_toArray, List.getElem?_cons_succ, List.getElem?_cons_zero] <;> rfl⟩
theorem S115_eq : Tryz.f115.body.map prep = some S115.1 := by kernel_rfl
def N115 : Nat := 83
def R115 : List ResultVar := [(.cell 4 59), (.tmp 5), (.tmp 6)]
theorem B115 : bodyT Tryz.prog 115 = true := by kernel_rfl
noncomputable def S128 : {x : SC // Tryz.f128.body.map (prepD fun _ => #[]) = some x} := ⟨_, by simp only [Tryz.f128, Option.map, prepD, prepOp, List.map, Option.bind, List.getElem?_toArray, List.getElem?_cons_succ, List.getElem?_cons_zero] <;> rfl⟩
theorem S128_eq : Tryz.f128.body.map prep = some S128.1 := by kernel_rfl
def N128 : Nat := 48
def R128 : List ResultVar := [(.tmp 2), (.tmp 3)]
theorem B128 : bodyT Tryz.prog 128 = true := by kernel_rfl
noncomputable def S112 : {x : SC // Tryz.f112.body.map (prepD fun _ => #[]) = some x} := ⟨_, by simp only [Tryz.f112, Option.map, prepD, prepOp, List.map, Option.bind, List.getElem?_toArray, List.getElem?_cons_succ, List.getElem?_cons_zero] <;> rfl⟩
theorem S112_eq : Tryz.f112.body.map prep = some S112.1 := by kernel_rfl
def N112 : Nat := 85
def R112 : List ResultVar := [(.tmp 4), (.tmp 5), (.tmp 6)]
theorem B112 : bodyT Tryz.prog 112 = true := by kernel_rfl
theorem T21 : (zeroA Tryz.prog 39 = (some (.agg [(.int .i64 0), (.str []), (.str []), .nils, (.int .i64 0), (.int .i64 0)]))) ∧ (zeroA Tryz.prog 4 = (some (.bool false))) ∧ (zeroA Tryz.prog 24 = (some (.int .i64 0))) ∧ (aggT Tryz.prog 29 = (some false)) ∧ (szT Tryz.prog 29 = (some 1)) ∧ (ptrT Tryz.prog 29 = (some 54)) ∧ (szT Tryz.prog 54 = (some 12)) ∧ (fieldT Tryz.prog 54 2 = (some (2, 51))) ∧ (aggT Tryz.prog 51 = (some true)) ∧ (szT Tryz.prog 51 = (some 3)) ∧ (fieldT Tryz.prog 51 1 = (some (1, 3))) ∧ (aggT Tryz.prog 3 = (some false)) ∧ (szT Tryz.prog 3 = (some 1)) ∧ (layT Tryz.prog 39 = (some ([(.int .i64 0), (.str []), (.str []), .nils, (.int .i64 0), (.int .i64 0)], [(0, 1), (1, 1), (2, 1), (3, 1), (4, 1), (5, 1)]))) ∧ (szT Tryz.prog 39 = (some 6)) ∧ (szT Tryz.prog 4 = (some 1)) ∧ (szT Tryz.prog 24 = (some 1)) ∧ (fieldT Tryz.prog 54 7 = (some (11, 24))) ∧ (aggT Tryz.prog 24 = (some false)) ∧ (fieldT Tryz.prog 54 6 = (some (10, 52))) ∧ (aggT Tryz.prog 52 = (some false)) ∧ (szT Tryz.prog 52 = (some 1)) ∧ (ptrT Tryz.prog 52 = (some 39)) ∧ (aggT Tryz.prog 39 = (some true)) ∧ (aggT Tryz.prog 4 = (some false)) ∧ (zeroA Tryz.prog 51 = (some (.agg [(.int .i64 0), (.int .i64 0), (.int .i64 0)]))) ∧ (fieldT Tryz.prog 51 2 = (some (2, 3))) ∧ (fieldT Tryz.prog 39 4 = (some (4, 3))) ∧ (fieldT Tryz.prog 39 5 = (some (5, 3))) ∧ (fieldT Tryz.prog 54 1 = (some (1, 3))) := by and_intros <;> kernel_rfl
theorem T33 : (ifaceT Tryz.prog 20 = (some true)) ∧ (ifaceT Tryz.prog 78 = (some false)) ∧ (zeroA Tryz.prog 78 = (some (.agg [(.int .i64 0), (.int .i64 0)]))) ∧ (szT Tryz.prog 78 = (some 2)) ∧ (aggT Tryz.prog 29 = (some false)) ∧ (szT Tryz.prog 29 = (some 1)) ∧ (fieldT Tryz.prog 54 3 = (some (5, 51))) ∧ (aggT Tryz.prog 51 = (some true)) ∧ (szT Tryz.prog 51 = (some 3)) ∧ (fieldT Tryz.prog 51 0 = (some (0, 3))) ∧ (aggT Tryz.prog 3 = (some false)) ∧ (szT Tryz.prog 3 = (some 1)) ∧ (layT Tryz.prog 78 = (some ([(.int .i64 0), (.int .i64 0)], [(0, 1), (1, 1)]))) ∧ (fieldT Tryz.prog 78 0 = (some (0, 3))) ∧ (fieldT Tryz.prog 78 1 = (some (1, 24))) ∧ (aggT Tryz.prog 24 = (some false)) ∧ (szT Tryz.prog 24 = (some 1)) ∧ (fieldT Tryz.prog 54 2 = (some (2, 51))) ∧ (fieldT Tryz.prog 54 7 = (some (11, 24))) ∧ (layT Tryz.prog 39 = (some ([(.int .i64 0), (.str []), (.str []), .nils, (.int .i64 0), (.int .i64 0)], [(0, 1), (1, 1), (2, 1), (3, 1), (4, 1), (5, 1)]))) ∧ (szT Tryz.prog 39 = (some 6)) ∧ (szT Tryz.prog 4 = (some 1)) := by and_intros <;> kernel_rfl
theorem T19 : (ptrT Tryz.prog 29 = (some 54)) ∧ (szT Tryz.prog 54 = (some 12)) ∧ (fieldT Tryz.prog 54 2 = (some (2, 51))) ∧ (aggT Tryz.prog 51 = (some true)) ∧ (szT Tryz.prog 51 = (some 3)) ∧ (fieldT Tryz.prog 51 1 = (some (1, 3))) ∧ (aggT Tryz.prog 3 = (some false)) ∧ (szT Tryz.prog 3 = (some 1)) ∧ (fieldT Tryz.prog 51 2 = (some (2, 3))) := by and_intros <;> kernel_rfl
theorem T34 : (zeroA Tryz.prog 51 = (some (.agg [(.int .i64 0), (.int .i64 0), (.int .i64 0)]))) ∧ (fieldT Tryz.prog 54 3 = (some (5, 51))) ∧ (aggT Tryz.prog 51 = (some true)) ∧ (szT Tryz.prog 51 = (some 3)) ∧ (fieldT Tryz.prog 51 0 = (some (0, 3))) ∧ (aggT Tryz.prog 3 = (some false)) ∧ (szT Tryz.prog 3 = (some 1)) ∧ (fieldT Tryz.prog 54 0 = (some (0, 9))) ∧ (aggT Tryz.prog 9 = (some false)) ∧ (szT Tryz.prog 9 = (some 1)) ∧ (strT Tryz.prog 9 = true) ∧ (elemT Tryz.prog 9 = none) ∧ (fieldT Tryz.prog 51 2 = (some (2, 3))) ∧ (fieldT Tryz.prog 51 1 = (some (1, 3))) := by and_intros <;> kernel_rfl
theorem T35 : (zeroA Tryz.prog 39 = (some (.agg [(.int .i64 0), (.str []), (.str []), .nils, (.int .i64 0), (.int .i64 0)]))) ∧ (fieldT Tryz.prog 54 0 = (some (0, 9))) ∧ (aggT Tryz.prog 9 = (some false)) ∧ (szT Tryz.prog 9 = (some 1)) ∧ (fieldT Tryz.prog 54 1 = (some (1, 3))) ∧ (aggT Tryz.prog 3 = (some false)) ∧ (szT Tryz.prog 3 = (some 1)) ∧ (layT Tryz.prog 78 = (some ([(.int .i64 0), (.int .i64 0)], [(0, 1), (1, 1)]))) ∧ (ifaceT Tryz.prog 78 = (some false)) ∧ (strT Tryz.prog 9 = true) ∧ (elemT Tryz.prog 9 = none) ∧ (mapT Tryz.prog 9 = none) ∧ (layT Tryz.prog 39 = (some ([(.int .i64 0), (.str []), (.str []), .nils, (.int .i64 0), (.int .i64 0)], [(0, 1), (1, 1), (2, 1), (3, 1), (4, 1), (5, 1)]))) ∧ (szT Tryz.prog 39 = (some 6)) ∧ (fieldT Tryz.prog 54 4 = (some (8, 45))) ∧ (aggT Tryz.prog 45 = (some false)) ∧ (szT Tryz.prog 45 = (some 1)) ∧ (strT Tryz.prog 45 = false) ∧ (elemT Tryz.prog 45 = (some 9)) ∧ (mapT Tryz.prog 45 = none) ∧ (fieldT Tryz.prog 54 5 = (some (9, 4))) ∧ (aggT Tryz.prog 4 = (some false)) ∧ (szT Tryz.prog 4 = (some 1)) ∧ (aggT Tryz.prog 39 = (some true)) := by and_intros <;> kernel_rfl
theorem T62 : (zeroA Tryz.prog 90 = (some (.agg [.nilp, .nils]))) ∧ (fieldT Tryz.prog 54 1 = (some (1, 3))) ∧ (aggT Tryz.prog 3 = (some false)) ∧ (szT Tryz.prog 3 = (some 1)) ∧ (fieldT Tryz.prog 54 0 = (some (0, 9))) ∧ (aggT Tryz.prog 9 = (some false)) ∧ (szT Tryz.prog 9 = (some 1)) ∧ (strT Tryz.prog 9 = true) ∧ (elemT Tryz.prog 9 = none) ∧ (mapT Tryz.prog 9 = none) ∧ (fieldT Tryz.prog 54 4 = (some (8, 45))) ∧ (aggT Tryz.prog 45 = (some false)) ∧ (szT Tryz.prog 45 = (some 1)) ∧ (strT Tryz.prog 45 = false) ∧ (elemT Tryz.prog 45 = (some 9)) ∧ (mapT Tryz.prog 45 = none) ∧ (layT Tryz.prog 78 = (some ([(.int .i64 0), (.int .i64 0)], [(0, 1), (1, 1)]))) ∧ (ifaceT Tryz.prog 78 = (some false)) := by and_intros <;> kernel_rfl
theorem T63 : (zeroA Tryz.prog 39 = (some (.agg [(.int .i64 0), (.str []), (.str []), .nils, (.int .i64 0), (.int .i64 0)]))) ∧ (fieldT Tryz.prog 54 0 = (some (0, 9))) ∧ (aggT Tryz.prog 9 = (some false)) ∧ (szT Tryz.prog 9 = (some 1)) ∧ (fieldT Tryz.prog 54 1 = (some (1, 3))) ∧ (aggT Tryz.prog 3 = (some false)) ∧ (szT Tryz.prog 3 = (some 1)) ∧ (layT Tryz.prog 39 = (some ([(.int .i64 0), (.str []), (.str []), .nils, (.int .i64 0), (.int .i64 0)], [(0, 1), (1, 1), (2, 1), (3, 1), (4, 1), (5, 1)]))) ∧ (szT Tryz.prog 39 = (some 6)) ∧ (fieldT Tryz.prog 54 4 = (some (8, 45))) ∧ (aggT Tryz.prog 45 = (some false)) ∧ (szT Tryz.prog 45 = (some 1)) ∧ (strT Tryz.prog 45 = false) ∧ (elemT Tryz.prog 45 = (some 9)) ∧ (mapT Tryz.prog 45 = none) ∧ (layT Tryz.prog 78 = (some ([(.int .i64 0), (.int .i64 0)], [(0, 1), (1, 1)]))) ∧ (ifaceT Tryz.prog 78 = (some false)) ∧ (zeroA Tryz.prog 138 = (some (.agg [(.str []), .nils, (.bool false), (.int .i64 0)]))) ∧ (szT Tryz.prog 138 = (some 4)) ∧ (fieldT Tryz.prog 54 5 = (some (9, 4))) ∧ (aggT Tryz.prog 4 = (some false)) ∧ (szT Tryz.prog 4 = (some 1)) ∧ (fieldT Tryz.prog 138 1 = (some (1, 37))) ∧ (aggT Tryz.prog 37 = (some false)) ∧ (szT Tryz.prog 37 = (some 1)) ∧ (strT Tryz.prog 37 = false) ∧ (elemT Tryz.prog 37 = (some 59)) ∧ (mapT Tryz.prog 37 = none) ∧ (szT Tryz.prog 59 = (some 2)) ∧ (aggT Tryz.prog 59 = (some true)) ∧ (zeroA Tryz.prog 59 = (some (.agg [(.str []), (.str [])]))) ∧ (fieldT Tryz.prog 59 0 = (some (0, 9))) ∧ (mapT Tryz.prog 141 = (some (9, 3))) ∧ (intT Tryz.prog 9 = none) ∧ (strT Tryz.prog 9 = true) ∧ (boolT Tryz.prog 9 = false) ∧ (zeroA Tryz.prog 3 = (some (.int .i64 0))) ∧ (fieldT Tryz.prog 138 3 = (some (3, 3))) ∧ (fieldT Tryz.prog 138 2 = (some (2, 4))) ∧ (fieldT Tryz.prog 138 0 = (some (0, 9))) ∧ (fieldT Tryz.prog 54 6 = (some (10, 52))) ∧ (aggT Tryz.prog 52 = (some false)) ∧ (szT Tryz.prog 52 = (some 1)) ∧ (zeroA Tryz.prog 9 = (some (.str []))) ∧ (rowT Tryz.prog 45 = (some (9, (1, false)))) ∧ (aggT Tryz.prog 39 = (some true)) := by and_intros <;> kernel_rfl
theorem T87 : (fieldT Tryz.prog 54 0 = (some (0, 9))) ∧ (aggT Tryz.prog 9 = (some false)) ∧ (szT Tryz.prog 9 = (some 1)) ∧ (strT Tryz.prog 9 = true) ∧ (elemT Tryz.prog 9 = none) ∧ (fieldT Tryz.prog 54 1 = (some (1, 3))) ∧ (aggT Tryz.prog 3 = (some false)) ∧ (szT Tryz.prog 3 = (some 1)) ∧ (fieldT Tryz.prog 54 4 = (some (8, 45))) ∧ (aggT Tryz.prog 45 = (some false)) ∧ (szT Tryz.prog 45 = (some 1)) ∧ (strT Tryz.prog 45 = false) ∧ (elemT Tryz.prog 45 = (some 9)) ∧ (mapT Tryz.prog 45 = none) ∧ (layT Tryz.prog 78 = (some ([(.int .i64 0), (.int .i64 0)], [(0, 1), (1, 1)]))) ∧ (ifaceT Tryz.prog 78 = (some false)) := by and_intros <;> kernel_rfl
theorem T91 : (zeroA Tryz.prog 138 = (some (.agg [(.str []), .nils, (.bool false), (.int .i64 0)]))) ∧ (strT Tryz.prog 9 = true) ∧ (elemT Tryz.prog 9 = none) ∧ (fieldT Tryz.prog 138 0 = (some (0, 9))) ∧ (aggT Tryz.prog 9 = (some false)) ∧ (szT Tryz.prog 9 = (some 1)) ∧ (layT Tryz.prog 138 = (some ([(.str []), .nils, (.bool false), (.int .i64 0)], [(0, 1), (1, 1), (2, 1), (3, 1)]))) ∧ (szT Tryz.prog 138 = (some 4)) ∧ (fieldT Tryz.prog 138 3 = (some (3, 3))) ∧ (aggT Tryz.prog 3 = (some false)) ∧ (szT Tryz.prog 3 = (some 1)) ∧ (aggT Tryz.prog 138 = (some true)) ∧ (fieldT Tryz.prog 138 2 = (some (2, 4))) ∧ (aggT Tryz.prog 4 = (some false)) ∧ (szT Tryz.prog 4 = (some 1)) ∧ (zeroA Tryz.prog 59 = (some (.agg [(.str []), (.str [])]))) ∧ (szT Tryz.prog 59 = (some 2)) ∧ (fieldT Tryz.prog 138 1 = (some (1, 37))) ∧ (aggT Tryz.prog 37 = (some false)) ∧ (szT Tryz.prog 37 = (some 1)) ∧ (aggT Tryz.prog 59 = (some true)) ∧ (elemT Tryz.prog 37 = (some 59)) ∧ (rowT Tryz.prog 37 = (some (59, (2, false)))) ∧ (strT Tryz.prog 37 = false) := by and_intros <;> kernel_rfl
theorem T115 : (zeroA Tryz.prog 59 = (some (.agg [(.str []), (.str [])]))) ∧ (strT Tryz.prog 9 = true) ∧ (elemT Tryz.prog 9 = none) ∧ (fieldT Tryz.prog 59 0 = (some (0, 9))) ∧ (aggT Tryz.prog 9 = (some false)) ∧ (szT Tryz.prog 9 = (some 1)) ∧ (layT Tryz.prog 59 = (some ([(.str []), (.str [])], [(0, 1), (1, 1)]))) ∧ (szT Tryz.prog 59 = (some 2)) ∧ (mapT Tryz.prog 9 = none) ∧ (fieldT Tryz.prog 59 1 = (some (1, 9))) ∧ (aggT Tryz.prog 59 = (some true)) := by and_intros <;> kernel_rfl
theorem T128 : (zeroA Tryz.prog 90 = (some (.agg [.nilp, .nils]))) ∧ (strT Tryz.prog 9 = true) ∧ (elemT Tryz.prog 9 = none) ∧ (mapT Tryz.prog 9 = none) := by and_intros <;> kernel_rfl
theorem T112 : (strT Tryz.prog 9 = true) ∧ (elemT Tryz.prog 9 = none) ∧ (mapT Tryz.prog 9 = none) ∧ (ifaceT Tryz.prog 93 = (some true)) ∧ (hasT Tryz.prog 116 = true) ∧ (intT Tryz.prog 3 = (some .i64)) ∧ (strT Tryz.prog 3 = false) ∧ (elemT Tryz.prog 3 = none) ∧ (elemT Tryz.prog 116 = none) ∧ (elemT Tryz.prog 33 = (some 3)) ∧ (zeroA Tryz.prog 3 = (some (.int .i64 0))) ∧ (szT Tryz.prog 3 = (some 1)) := by and_intros <;> kernel_rfl
end Go.Ab
