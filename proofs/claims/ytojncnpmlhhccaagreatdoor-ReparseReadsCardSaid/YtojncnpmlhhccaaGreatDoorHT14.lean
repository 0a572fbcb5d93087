/- ReparseLong, walked. -/
import Derived.Test.YtojncnpmlhhccaaGreatDoorHTD
set_option linter.all false
namespace Go.Ab
open Go Go.Lib Go.Proofs
theorem foldT_ok:∀(l:List Ev) {t t':TSt},TOk t→foldT l t = .ok t'→TOk t'
 | [],t,t',h,e=>by cases e;exact h
 | x::l,t,t',h,e=>by
  simp only[foldT]at e
  split at e
  ·cases e
  ·rename_i t1 h1
   exact foldT_ok l (h.event h1).1 e
theorem buildS_len {l:List Ev} {m:List Nd} (h:buildS l = .ok m):m.length≤65536:=by
 unfold buildS at h
 split at h
 ·cases h
 ·rename_i t ht
  have:=(foldT_ok l TOk.init ht).len
  split at h
  ·cases h
  ·cases h
   exact this
end Go.Ab
