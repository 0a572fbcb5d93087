/- strings.EqualFold against "xml": where a byte is none of ASCII the code behind its label is walked. -/
import Derived.Test.YtojncnpmlhhccaaGreatDoorW29
import Derived.ScopeJumps
import Derived.WalkMore
set_option linter.all false
namespace Go.Ab
open Go Go.Lib Go.Proofs Go.RowKit
structure FoldT (G:Nat→Option (List AV)):Prop where
theorem BDec:bodyT Tryz.prog 146=true:=by kernel_rfl
def foldN:Nat:=123
def foldR:List ResultVar:=[(.tmp 4)]
theorem foldTy:(strT Tryz.prog 9=true)∧(elemT Tryz.prog 9=none)∧(mapT Tryz.prog 9=none):=⟨by kernel_rfl,by kernel_rfl,by kernel_rfl⟩
theorem get_of {C:Ctx} {l:List Value} {n:Nat} {x:AV} {v:Value} (h:l[n]?=some v) (hx:VR C x v):∀y,l[n]?=some y→VR C x y:=by
 intro y hy
 rw[h]at hy
 cases hy
 exact hx
theorem fold_env {C:Ctx} {s t:List UInt8} {l:List Value} {i:Nat} (hl:l.length=123) (h0:l[0]?=some (.string ⟨s.toArray⟩)) (h1:l[1]?=some (.string ⟨t.toArray⟩)) (h5:l[5]?=some (.int .i64 i)) :
  VRs C ([.str s,.str t,.und,.und,.und,.int .i64 i]++List.replicate 117 .und) l:=by
 refine⟨by simp[hl],fun j x y hx hy=>?_⟩
 match j,hx with
 | 0,hx=>rw[h0]at hy;simp at hx;subst hx;cases hy;exact .str _
 | 1,hx=>rw[h1]at hy;simp at hx;subst hx;cases hy;exact .str _
 | 2,hx=>simp at hx;subst hx;exact .und _
 | 3,hx=>simp at hx;subst hx;exact .und _
 | 4,hx=>simp at hx;subst hx;exact .und _
 | 5,hx=>rw[h5]at hy;simp at hx;subst hx;cases hy;exact .int _ _
 | k+6,hx=>
  have hx':(List.replicate 117 AV.und)[k]?=some x:=hx
  rw[(List.mem_replicate.1 (List.mem_of_getElem? hx')).2]
  exact .und _
theorem xml_cases {i:Nat} (hi:i<([120,109,108]:List UInt8).length):∃c t',([120,109,108]:List UInt8).drop i=c::t'∧(c.toNat=120∨c.toNat=109∨c.toNat=108):=by
 match i,hi with
 | 0,_=>exact⟨_,_,rfl,by decide⟩
 | 1,_=>exact⟨_,_,rfl,by decide⟩
 | 2,_=>exact⟨_,_,rfl,by decide⟩
end Go.Ab
