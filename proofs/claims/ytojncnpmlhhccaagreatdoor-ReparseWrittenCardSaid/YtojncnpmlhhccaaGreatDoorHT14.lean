/- ReparseLong, walked. -/
import Derived.Test.YtojncnpmlhhccaaGreatDoorHTD
set_option linter.all false
namespace Go.Ab
open Go Go.Lib Go.Proofs
end Go.Ab
