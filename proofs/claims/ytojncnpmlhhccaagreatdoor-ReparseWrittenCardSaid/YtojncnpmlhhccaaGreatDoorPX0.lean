/- The texts of a tree have as many bytes as were counted; its string value. -/
import Derived.Test.YtojncnpmlhhccaaGreatDoorPLA
set_option linter.all false
namespace Go.Ab
open Go Go.Lib Go.Proofs
theorem kind_at {l:List Nd} {k:Nat} (h:k<l.length):(ndsH l)[k*4+0]?=some (.int .i64 (l.getD k nd0).kind):=by
 have:=ndsH_get l k 0 h (by omega)
 rw[nd_getD h]
 exact this
end Go.Ab
