/- Steps through a text that is known. -/
import Derived.Test.YtebgjmoihhbjjaaGreatDoorE1
import Derived.Lib.Repeat
import Derived.KernelRfl
set_option linter.all false
namespace Go.Ab
open Go Go.Lib
theorem drop_one {s t:List UInt8} {i:Nat} {b:UInt8} (h:s.drop i=b::t):i<s.length∧s.drop (i+1)=t∧s.getD i 0=b:=by
 have hi:i<s.length:=by
  rcases Nat.lt_or_ge i s.length with h1 | h1
  ·exact h1
  ·rw[List.drop_eq_nil_of_le h1]at h;cases h
 rw[List.drop_eq_getElem_cons hi,List.cons.injEq]at h
 refine⟨hi,h.2,?_⟩
 rw[List.getD_eq_getElem?_getD,List.getElem?_eq_getElem hi,Option.getD_some,h.1]
theorem untilN_at {s:List UInt8} {i:Nat} {st:List UInt8} {a b:UInt8} {t:List UInt8} (h:s.drop i=a::b::t) (ha:isW a=false∧Lib.indexByte st a<0) (hb:isW b=true∨¬Lib.indexByte st b<0):untilN s i st=i+1:=by
 unfold untilN
 rw[h]
 have h1:(!isW a&&decide (Lib.indexByte st a<0))=true:=by simp[ha]
 have h2:(!isW b&&decide (Lib.indexByte st b<0))=false:=by
  rcases hb with hb | hb<;>simp[hb]
 simp[List.takeWhile_cons,h1,h2]
theorem skipN_at {s:List UInt8} {i:Nat} {a:UInt8} {t:List UInt8} (h:s.drop i=a::t) (ha:isW a=false):skipN s i=i:=by
 unfold skipN
 rw[h]
 simp[List.takeWhile_cons,ha]
theorem name_at {s:List UInt8} {i:Nat} {a:UInt8} {t:List UInt8} (h:s.drop i=a::t):(s.take (i+1)).drop i=[a]:=by
 rw[List.drop_take,h]
 simp
theorem all_next {s:List UInt8} {q q':Par} {x:Ev} (hi:q.p.i≤s.length) (h:nextS s q=((x,true,0),q')) (l:List Ev):allL s q l=allL s q' (l++[x]):=by
 rw[allL_step l hi,h]
 simp
end Go.Ab
