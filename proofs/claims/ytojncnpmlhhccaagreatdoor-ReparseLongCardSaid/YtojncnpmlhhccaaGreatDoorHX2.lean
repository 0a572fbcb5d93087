/- What the walks of reparse and tree ask of the library, paid by its contracts. -/
import Derived.Test.YtojncnpmlhhccaaGreatDoorW27
import Derived.Test.YtojncnpmlhhccaaGreatDoorHX0
import Derived.Test.YtojncnpmlhhccaaGreatDoorHT14
set_option linter.all false
namespace Go.Ab
open Go Go.Lib Go.Proofs Go.RowKit
def CaseG (G:Nat→Option (List AV)):Prop:=∀(C:Ctx) (w:World),Rel G C w→CaseVar 3 caseA w
theorem has_ab {G:Nat→Option (List AV)} (g:Glob G) (s p:List UInt8) (hs:s.length≤1000000000):PureCall Tryz.prog G 84 [.str s,.str p] (.bool (Lib.contains s p)):=
 PureCall.shelf (vs:=[.string ⟨s.toArray⟩,.string ⟨p.toArray⟩]) rfl (fun C => .bool _) fun C w R=>by
  obtain⟨m,hm⟩:=g.maxlen C w R
  exact(Tryz.strings_Contains ⟨s.toArray⟩ ⟨p.toArray⟩ m w (by rw[size_of];omega) hm).mono fun e w' ⟨h1,h2⟩=>⟨by simpa using h1,h2▸Below.refl _ _⟩
theorem trim_ab (G:Nat→Option (List AV)) (s p:List UInt8):PureCall Tryz.prog G 12 [.str s,.str p] (.str (Lib.trimPrefix s p)):=
 PureCall.shelf (vs:=[.string ⟨s.toArray⟩,.string ⟨p.toArray⟩]) rfl (fun C => .str _) fun C w R=>
  (Tryz.strings_TrimPrefix ⟨s.toArray⟩ ⟨p.toArray⟩ w).mono fun e w' ⟨h1,h2⟩=>⟨by simpa using h1,h2▸Below.refl _ _⟩
theorem suf_ab (G:Nat→Option (List AV)) (s p:List UInt8) (hs:s.length≤1000000000):PureCall Tryz.prog G 88 [.str s,.str p] (.bool (Lib.hasSuffix s p)):=
 PureCall.shelf (vs:=[.string ⟨s.toArray⟩,.string ⟨p.toArray⟩]) rfl (fun C => .bool _) fun C w R=>
  (Tryz.strings_HasSuffix ⟨s.toArray⟩ ⟨p.toArray⟩ w (by rw[size_of];omega)).mono fun e w' ⟨h1,h2⟩=>⟨by simpa using h1,h2▸Below.refl _ _⟩
theorem low_ab {G:Nat→Option (List AV)} (g:Glob G) (k:CaseG G) (s:List UInt8) (hs:s.length≤1000000000):PureCall Tryz.prog G 89 [.str s] (.str (Lib.toLowerD s)):=
 PureCall.shelf (vs:=[.string ⟨s.toArray⟩]) rfl (fun C => .str _) fun C w R=>
  (Tryz.strings_ToLower_any ⟨s.toArray⟩ w (by rw[size_of];omega) (k C w R) (g.tabs C w R)).mono fun e w' ⟨h1,h2⟩=>⟨by simpa using h1,h2⟩
theorem any2_ab (G:Nat→Option (List AV)) (s:List UInt8) (hs:s.length≤1):PureCall Tryz.prog G 85 [.str s,.str [32,9,13,10]] (.bool (Lib.containsAny s [32,9,13,10])):=by
 have hp:∀b∈([32,9,13,10]:List UInt8),b.toNat<128:=by decide
 by_cases ha:∀b∈s,b.toNat<128
 ·refine PureCall.shelf (vs:=[.string ⟨s.toArray⟩,.string ⟨#[32,9,13,10]⟩]) rfl (fun C => .bool _) fun C w R=>?_
  refine(Tryz.strings_ContainsAny_laid ⟨s.toArray⟩ ⟨#[32,9,13,10]⟩ w (by rw[size_of];omega) (by decide) (fun j b hb=>ha b (List.mem_of_getElem? (by simpa using hb))) (fun j b hb=>hp b (List.mem_of_getElem? (by simpa using hb)))).mono fun e w' ⟨h1,h2⟩=>⟨by simpa using h1,h2⟩
 ·match s,hs,ha with
  | [],_,ha=>exact absurd (fun b hb=>by cases hb) ha
  | [b],_,ha=>
   have hb:128≤b.toNat:=by
    refine Nat.le_of_not_lt fun h=>ha fun x hx=>?_
    simp only[List.mem_singleton]at hx
    rw[hx];exact h
   have hno:Lib.containsAny [b] [32,9,13,10]=false:=by
    have:Lib.indexAny [b] [32,9,13,10] = -1:=Lib.indexAny_none fun j x hj hx=>by
     cases j with
     | zero=>
      simp only[List.getElem?_cons_zero,Option.some.injEq]at hx
      subst hx
      refine Bool.eq_false_iff.2 fun h=>?_
      have:=hp b (by simpa using h)
      omega
     | succ j=>simp at hx
    unfold Lib.containsAny
    rw[this]
    rfl
   rw[hno]
   exact containsAnyHi_ok G b hb
  | _::_::_,hs,_=>simp at hs
theorem rep_ab (G:Nat→Option (List AV)):Rep G:=fun s c h hc=>
 PureCall.shelf (vs:=[.string ⟨s.toArray⟩,.int .i64 c]) rfl (fun C => .str _) fun C w R=>
  (Tryz.strings_Repeat ⟨s.toArray⟩ c w (by omega) (by rw[size_of];exact h)).mono fun e w' ⟨h1,h2⟩=>⟨by simpa using h1,h2⟩
theorem repB:bodyT Tryz.prog 16=true:=by kernel_rfl
theorem theEnvH {G:Nat→Option (List AV)} (g:Glob G):EnvH G:={
 has:=has_ab g
 hasB:=by kernel_rfl
 trim:=trim_ab G
 trimB:=by kernel_rfl }
theorem theEnvT {G:Nat→Option (List AV)} (g:Glob G) (k:CaseG G):EnvT G:={
 suf:=suf_ab G
 sufB:=by kernel_rfl
 low:=low_ab g k
 lowB:=by kernel_rfl
 any:=any2_ab G
 anyB:=by kernel_rfl }
end Go.Ab
