/- ReparseParts, walked. -/
import Derived.Test.YtojncnpmlhhccaaGreatDoorPX0
import Derived.Test.YtojncnpmlhhccaaGreatDoorPX1
import Derived.Test.YtojncnpmlhhccaaGreatDoorHT14
set_option linter.all false
namespace Go.Ab
open Go Go.Lib Go.Proofs
theorem works_pure {G:Nat→Option (List AV)} (E:Env G) (B:EnvB G) (P:EnvP G) (X:EnvH G) (T:EnvT G):PureCall Tryz.prog G 8 [] (.bool true):=fun H=>
 ACalls.keep (hl_works_ok E B P X T H)
end Go.Ab
