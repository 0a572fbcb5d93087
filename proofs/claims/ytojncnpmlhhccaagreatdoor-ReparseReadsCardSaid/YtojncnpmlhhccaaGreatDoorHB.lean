/- ReparseLong: the limits of texts and documents: the plain law. The examples of the chapter, evaluated. -/
import Derived.Test.YtojncnpmlhhccaaGreatDoorHA
import Derived.Lib.Repeat
import Derived.KernelRfl
set_option linter.all false
namespace Go.Ab
open Go Go.Lib
end Go.Ab
namespace Go.Ab
open Go Go.Lib
def hexA:List UInt8:=[60,112,32,105,100,61,34,97,38,113,117,111,116,59,34,62,49,32,38,108,116,59,32,50,60,98,114,62,60,47,112,62]
def hexB:List UInt8:=[60,115,99,114,105,112,116,62,97,32,60,32,98,32,38,38,32,99,60,47,115,99,114,105,112,116,62]
def hexC:List UInt8:=[60,112,62,97]
def ndsA:List Nd:=[⟨0,[],[],-1⟩,⟨1,[112],[],0⟩,⟨2,[105,100],[97,34],1⟩,⟨3,[],[49,32,60,32,50],1⟩,⟨1,[98,114],[],1⟩]
def ndsB:List Nd:=[⟨0,[],[],-1⟩,⟨1,[115,99,114,105,112,116],[],0⟩,⟨3,[],[97,32,60,32,98,32,38,38,32,99],1⟩]
theorem hexA_eq:htmlS hexA = .ok ndsA:=by kernel_rfl
theorem hexB_eq:htmlS hexB = .ok ndsB:=by kernel_rfl
theorem hexC_eq:htmlS hexC = .error 110:=by kernel_rfl
end Go.Ab
