/- The reference chiselref43 on lists of bytes; its values, attributes and start tags are the program's. The reference's pieces are those of the program, and so are its events. The events of the reference chiselref43 are those of the program. -/
import Derived.Test.YtojncnpmlhhccaaGreatDoorHA
import Derived.Test.YtojncnpmlhhccaaGreatDoorRB
set_option linter.all false
namespace Go.Ab
open Go Go.Lib
/-! Cutting at a byte. -/
end Go.Ab
namespace Go.Ab
open Go Go.Lib
end Go.Ab
namespace Go.Ab
open Go Go.Lib
end Go.Ab
