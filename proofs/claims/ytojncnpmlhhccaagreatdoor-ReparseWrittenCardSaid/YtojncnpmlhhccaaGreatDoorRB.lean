/- The reference's name: walked; and what it finds. The reference's form, From, inside, lower: walked. The reference's Ref: walked. The reference's references are the program's. The reference's value: walked; it is the program's. The reference's attribute: walked. -/
import Derived.Test.YtojncnpmlhhccaaGreatDoorRA
set_option linter.all false
namespace Go.Ab
open Go Go.Lib Go.Proofs
end Go.Ab
namespace Go.Ab
open Go Go.Lib Go.Proofs
end Go.Ab
namespace Go.Ab
open Go Go.Lib Go.Proofs
end Go.Ab
namespace Go.Ab
open Go Go.Lib Go.Proofs
end Go.Ab
namespace Go.Ab
open Go Go.Lib Go.Proofs
end Go.Ab
namespace Go.Ab
open Go Go.Lib Go.Proofs
end Go.Ab
