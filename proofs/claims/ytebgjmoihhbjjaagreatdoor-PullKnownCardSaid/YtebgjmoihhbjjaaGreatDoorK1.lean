/- The examples of PullKnown, computed. -/
import Derived.Test.YtebgjmoihhbjjaaGreatDoorW25
import Derived.KernelRfl
set_option linter.all false
namespace Go.Ab
open Go Go.Lib Go.Proofs

def knownA : List UInt8 := [60, 63, 120, 109, 108, 32, 118, 101, 114, 115, 105, 111, 110, 61, 34, 49, 46, 48, 34, 63, 62, 10, 60, 33, 45, 45, 99, 45, 45, 62, 60, 97, 47, 62]
def knownEv : List Ev := [⟨3, [], [99], [], 2, 1⟩, ⟨0, [97], [], [], 2, 9⟩, ⟨1, [97], [], [], 2, 9⟩]
set_option maxRecDepth 100000 in
theorem knownA_eq : all2S knownA = (knownEv, 0, 0, 0) := by kernel_rfl
set_option maxRecDepth 100000 in
theorem known0 : all2S [60, 97, 47, 62, 60, 98, 47, 62] = ([], 1, 5, 5) := by kernel_rfl
set_option maxRecDepth 100000 in
theorem known1 : all2S [60, 97, 62] = ([], 1, 4, 110) := by kernel_rfl
set_option maxRecDepth 100000 in
theorem known2 : all2S [] = ([], 1, 1, 110) := by kernel_rfl
set_option maxRecDepth 100000 in
theorem known3 : all2S [60, 97, 32, 98, 61, 34, 49, 34, 32, 98, 61, 34, 50, 34, 47, 62] = ([], 1, 1, 4) := by kernel_rfl
set_option maxRecDepth 100000 in
theorem known4 : all2S [60, 97, 32, 98, 61, 49, 47, 62] = ([], 1, 1, 5) := by kernel_rfl
set_option maxRecDepth 100000 in
theorem known5 : all2S [60, 97, 62, 38, 120, 59, 60, 47, 97, 62] = ([], 1, 4, 5) := by kernel_rfl
set_option maxRecDepth 100000 in
theorem known6 : all2S [60, 97, 62, 120, 93, 93, 62, 60, 47, 97, 62] = ([], 1, 5, 5) := by kernel_rfl
set_option maxRecDepth 100000 in
theorem known7 : all2S [60, 97, 47, 62, 120] = ([], 1, 5, 5) := by kernel_rfl
set_option maxRecDepth 100000 in
theorem known8 : all2S [60, 33, 68, 79, 67, 84, 89, 80, 69, 32, 97, 62, 60, 97, 47, 62] = ([], 1, 1, 5) := by kernel_rfl
set_option maxRecDepth 100000 in
theorem known9 : all2S [60, 47, 97, 62] = ([], 1, 1, 110) := by kernel_rfl
set_option maxRecDepth 100000 in
theorem known10 : all2S [32, 60, 63, 120, 109, 108, 32, 120, 63, 62, 60, 97, 47, 62] = ([], 1, 2, 5) := by kernel_rfl
set_option maxRecDepth 100000 in
theorem known11 : all2S [60, 97, 62, 60, 33, 45, 45, 120, 45, 45, 121, 45, 45, 62, 60, 47, 97, 62] = ([], 1, 4, 5) := by kernel_rfl
/-- The wrong documents: text, column, error. -/
def knownT : List (List UInt8 × Nat × Nat) := [([60, 97, 47, 62, 60, 98, 47, 62], 5, 5), ([60, 97, 62], 4, 110), ([], 1, 110), ([60, 97, 32, 98, 61, 34, 49, 34, 32, 98, 61, 34, 50, 34, 47, 62], 1, 4), ([60, 97, 32, 98, 61, 49, 47, 62], 1, 5), ([60, 97, 62, 38, 120, 59, 60, 47, 97, 62], 4, 5), ([60, 97, 62, 120, 93, 93, 62, 60, 47, 97, 62], 5, 5), ([60, 97, 47, 62, 120], 5, 5), ([60, 33, 68, 79, 67, 84, 89, 80, 69, 32, 97, 62, 60, 97, 47, 62], 1, 5), ([60, 47, 97, 62], 1, 110), ([32, 60, 63, 120, 109, 108, 32, 120, 63, 62, 60, 97, 47, 62], 2, 5), ([60, 97, 62, 60, 33, 45, 45, 120, 45, 45, 121, 45, 45, 62, 60, 47, 97, 62], 4, 5)]
theorem knownT_all : ∀ x ∈ knownT, all2S x.1 = ([], 1, x.2.1, x.2.2) := by
  intro x hx
  simp only [knownT, List.mem_cons, List.not_mem_nil, or_false] at hx
  rcases hx with rfl | rfl | rfl | rfl | rfl | rfl | rfl | rfl | rfl | rfl | rfl | rfl
  · exact known0
  · exact known1
  · exact known2
  · exact known3
  · exact known4
  · exact known5
  · exact known6
  · exact known7
  · exact known8
  · exact known9
  · exact known10
  · exact known11
def knownC (l : List (List UInt8 × Nat × Nat)) : List AV := l.flatMap fun x => [.str x.1, .int .i64 x.2.1, .int .i64 x.2.2]
theorem knownC_len : ∀ l, (knownC l).length = l.length * 3
  | [] => rfl
  | a :: l => by
    have := knownC_len l
    simp only [knownC, List.flatMap_cons, List.length_append, List.length_cons, List.length_nil] at this ⊢
    omega
theorem knownC_at : ∀ (l : List (List UInt8 × Nat × Nat)) (i : Nat) (h : i < l.length), ((knownC l).drop (i * 3)).take 3 = [.str l[i].1, .int .i64 l[i].2.1, .int .i64 l[i].2.2]
  | [], i, h => by simp at h
  | a :: l, 0, _ => rfl
  | a :: l, i + 1, h => by
    have := knownC_at l i (by simpa using h)
    have e : (i + 1) * 3 = i * 3 + 1 + 1 + 1 := by omega
    simp only [knownC, List.flatMap_cons, e, List.cons_append, List.nil_append, List.drop_succ_cons, List.getElem_cons_succ] at this ⊢
    exact this
end Go.Ab
