/- ReparseLong: the limits of texts and documents: the plain law. The examples of the chapter, evaluated. -/
import Derived.Test.YtojncnpmlhhccaaGreatDoorHA
import Derived.Lib.Repeat
set_option linter.all false
namespace Go.Ab
open Go Go.Lib
theorem rawNow_no {h:HSt} (hl:∀x,h.l.getLast?=some x→x.kind≠0∨isRawS x.name=false):rawNow h=false:=by
 unfold rawNow
 split
 ·rfl
 ·rename_i x hx
  rcases hl x hx with h1 | h1
  ·simp[h1]
  ·simp[h1]
theorem pre1 (p b:UInt8) (t:List UInt8):[p].isPrefixOf (b::t)=(p==b):=by simp[List.isPrefixOf]
theorem cut_here {p:UInt8} (a t:List UInt8) (h:∀x∈a,x≠p):Lib.cut (a++p::t) [p]=(a,t,true):=by
 have hi:Lib.index (a++p::t) [p]=(a.length:Int):=by
  rcases Lib.index_spec (a++p::t) [p]with ⟨e1,e2⟩ | ⟨m,e1,e2,e3,e4⟩
  ·exfalso
   have:=e2 a.length (by simp)
   unfold Lib.occAt at this
   rw[List.drop_left]at this
   simp at this
  ·rw[e1]
   congr 1
   rcases Nat.lt_trichotomy m a.length with h1 | h1 | h1
   ·exfalso
    unfold Lib.occAt at e3
    rw[List.drop_append_of_le_length (by omega),List.drop_eq_getElem_cons h1,List.cons_append,pre1,beq_iff_eq]at e3
    exact h _ (List.getElem_mem h1) e3.symm
   ·exact h1
   ·exfalso
    have:=e4 a.length h1
    unfold Lib.occAt at this
    rw[List.drop_left]at this
    simp at this
 unfold Lib.cut
 rw[hi,if_pos (by omega)]
 simp
theorem cut_not {p:UInt8} (a:List UInt8) (h:∀x∈a,x≠p):Lib.cut a [p]=(a,[],false):=by
 have hi:Lib.index a [p]<0:=by
  rcases Lib.index_spec a [p]with ⟨e1,e2⟩ | ⟨m,e1,e2,e3,e4⟩
  ·omega
  ·exfalso
   unfold Lib.occAt at e3
   by_cases hm:m<a.length
   ·rw[List.drop_eq_getElem_cons hm,pre1,beq_iff_eq]at e3
    exact h _ (List.getElem_mem hm) e3.symm
   ·rw[List.drop_eq_nil_of_le (by omega)]at e3
    simp at e3
 unfold Lib.cut
 rw[if_neg (by omega)]
theorem isText_cons {b:UInt8} (l:List UInt8) (h:b.toNat<128):isTextS (b::l)=(isCharS b.toNat&&isTextS l):=by
 rw[isTextS_step (by simp)]
 have hd:dec (b::l)=(b.toNat,1):=dec_ascii h
 unfold headTextS
 rw[hd]
 have e:((b.toNat==65533):Bool)=false:=by simp;omega
 simp[e]
theorem trim_no {s:List UInt8} (h:Lib.hasPrefix s sDoct=false):Lib.trimPrefix s sDoct=s:=by
 unfold Lib.trimPrefix
 rw[h]
 rfl
end Go.Ab
namespace Go.Ab
open Go Go.Lib
def hexA:List UInt8:=[60,112,32,105,100,61,34,97,38,113,117,111,116,59,34,62,49,32,38,108,116,59,32,50,60,98,114,62,60,47,112,62]
def hexB:List UInt8:=[60,115,99,114,105,112,116,62,97,32,60,32,98,32,38,38,32,99,60,47,115,99,114,105,112,116,62]
def hexC:List UInt8:=[60,112,62,97]
def ndsA:List Nd:=[⟨0,[],[],-1⟩,⟨1,[112],[],0⟩,⟨2,[105,100],[97,34],1⟩,⟨3,[],[49,32,60,32,50],1⟩,⟨1,[98,114],[],1⟩]
def ndsB:List Nd:=[⟨0,[],[],-1⟩,⟨1,[115,99,114,105,112,116],[],0⟩,⟨3,[],[97,32,60,32,98,32,38,38,32,99],1⟩]
theorem hexA_eq:htmlS hexA = .ok ndsA:=by kernel_rfl
theorem hexB_eq:htmlS hexB = .ok ndsB:=by kernel_rfl
theorem hexC_eq:htmlS hexC = .error 110:=by kernel_rfl
end Go.Ab
