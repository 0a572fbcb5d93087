/- The chapter's examples, computed. -/
import Derived.Test.YtebgjmoihhbjjaaGreatDoorW22
import Derived.KernelRfl
set_option linter.all false
namespace Go.Ab
open Go Go.Lib Go.Proofs

def worksA : List UInt8 := [60, 97, 32, 120, 61, 39, 49, 38, 108, 116, 59, 39, 62, 98, 60, 33, 91, 67, 68, 65, 84, 65, 91, 60, 93, 93, 62, 38, 35, 54, 53, 59, 60, 47, 97, 62]
def worksB : List UInt8 := [60, 97, 62, 60, 98, 62, 60, 47, 97, 62]
def worksEv : List Ev := [⟨0, [97], [], [([120], [49, 60])], 1, 1⟩, ⟨2, [], [98, 60, 65], [], 1, 14⟩, ⟨1, [97], [], [], 1, 33⟩]
set_option maxRecDepth 100000 in
theorem worksA_eq : all2S worksA = (worksEv, 0, 0, 0) := by kernel_rfl
set_option maxRecDepth 100000 in
theorem worksB_eq : all2S worksB = ([], 1, 7, 110) := by kernel_rfl
end Go.Ab
