/- tree's parts of the document, and its children axis, walked. -/
import Derived.Test.YtojncnpmlhhccaaGreatDoorPLA
set_option linter.all false
namespace Go.Ab
open Go Go.Lib Go.Proofs
end Go.Ab
