/- Nothing of this seat. -/
import Derived.Test.YtojncnpmlhhccaaGreatDoorProg
import Derived.Test.YtojncnpmlhhccaaGreatDoorAbC
namespace Go.Ab
end Go.Ab
