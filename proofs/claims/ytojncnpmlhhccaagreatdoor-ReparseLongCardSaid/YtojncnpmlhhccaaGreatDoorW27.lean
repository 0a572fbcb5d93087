/- What the walks ask of the library, paid by its contracts. -/
import Derived.Test.YtojncnpmlhhccaaGreatDoorW26
import Derived.WalkSmall
set_option linter.all false
namespace Go.Ab
open Go Go.Lib Go.Proofs Go.RowKit
structure Glob (G:Nat→Option (List AV)):Prop where
 maxlen:∀(C:Ctx) (w:World),Rel G C w→∃m,w.cell? ⟨1,0,none⟩=some (.int .i64 m)
 tabs:∀(C:Ctx) (w:World),Rel G C w→Lib.Utf8Tabs 4 5 w
 errs:∀(C:Ctx) (w:World),Rel G C w→∃v,w.cell? ⟨6,0,none⟩=some v∧(v = .nilIface∨∃te pe,v = .iface te pe)
 errr:∀(C:Ctx) (w:World),Rel G C w→∃v,w.cell? ⟨7,0,none⟩=some v∧(v = .nilIface∨∃te pe,v = .iface te pe)
theorem size_of (l:List UInt8):(⟨l.toArray⟩:ByteArray).size=l.length:=size_mk l
theorem hasPre_ab (G:Nat→Option (List AV)) (s p:List UInt8):PureCall Tryz.prog G 13 [.str s,.str p] (.bool (Lib.hasPrefix s p)):=
 PureCall.shelf (vs:=[.string ⟨s.toArray⟩,.string ⟨p.toArray⟩]) rfl (fun C => .bool _) fun C w R=>(Tryz.strings_HasPrefix ⟨s.toArray⟩ ⟨p.toArray⟩ w).mono fun e w' ⟨h1,h2⟩=>⟨by simpa using h1,h2▸Below.refl _ _⟩
theorem indexByte_ab (G:Nat→Option (List AV)) (s:List UInt8) (c:UInt8):PureCall Tryz.prog G 99 [.str s,.int .u8 c.toNat] (.int .i64 (Lib.indexByte s c)):=
 PureCall.shelf (vs:=[.string ⟨s.toArray⟩,.int .u8 c.toNat]) rfl (fun C => .int _ _) fun C w R=>(Tryz.strings_IndexByte ⟨s.toArray⟩ c.toNat w).mono fun e w' ⟨h1,h2⟩=>⟨by simpa using h1,h2▸Below.refl _ _⟩
theorem cutPre_ab (G:Nat→Option (List AV)) (s p:List UInt8):PureCall Tryz.prog G 97 [.str s,.str p] (.tup [.str (Lib.trimPrefix s p),.bool (Lib.hasPrefix s p)]):=
 PureCall.shelf (vs:=[.string ⟨s.toArray⟩,.string ⟨p.toArray⟩]) rfl (fun C=>VR.flats rfl C) fun C w R=>(Tryz.strings_CutPrefix ⟨s.toArray⟩ ⟨p.toArray⟩ w).mono fun e w' ⟨h1,h2⟩=>⟨by simpa using h1,h2▸Below.refl _ _⟩
theorem index_ab {G:Nat→Option (List AV)} (g:Glob G) (s p:List UInt8) (hs:s.length≤1000000000):PureCall Tryz.prog G 93 [.str s,.str p] (.int .i64 (Lib.index s p)):=
 PureCall.shelf (vs:=[.string ⟨s.toArray⟩,.string ⟨p.toArray⟩]) rfl (fun C => .int _ _) fun C w R=>by
  obtain⟨m,hm⟩:=g.maxlen C w R
  exact(Tryz.strings_Index ⟨s.toArray⟩ ⟨p.toArray⟩ m w (by rw[size_of];omega) hm).mono fun e w' ⟨h1,h2⟩=>⟨by simpa using h1,h2▸Below.refl _ _⟩
theorem cut_ab {G:Nat→Option (List AV)} (g:Glob G) (s p:List UInt8) (hs:s.length≤1000000000):PureCall Tryz.prog G 95 [.str s,.str p] (.tup [.str (Lib.cut s p).1,.str (Lib.cut s p).2.1,.bool (Lib.cut s p).2.2]):=
 PureCall.shelf (vs:=[.string ⟨s.toArray⟩,.string ⟨p.toArray⟩]) rfl (fun C=>VR.flats rfl C) fun C w R=>by
  obtain⟨m,hm⟩:=g.maxlen C w R
  exact(Tryz.strings_Cut ⟨s.toArray⟩ ⟨p.toArray⟩ m w (by rw[size_of];omega) hm).mono fun e w' ⟨h1,n,h2⟩=>⟨by simpa using h1,h2▸below_drewN (Below.refl _ _) n⟩
theorem dec_ab {G:Nat→Option (List AV)} (g:Glob G) (l:List UInt8) (hl:l≠[]):PureCall Tryz.prog G 146 [.str l] (.tup [.int .i32 ((dec l).1:Nat),.int .i64 ((dec l).2:Nat)]):=
 PureCall.shelf (vs:=[.string ⟨l.toArray⟩]) rfl (fun C=>VR.flats rfl C) fun C w R=>by
  have hd:Lib.decodeGo ⟨l.toArray⟩=dec l:=by
   have:l.length≠0:=fun h=>hl (List.length_eq_zero_iff.1 h)
   unfold Lib.decodeGo
   rw[size_of,if_neg this]
   rfl
  refine(Tryz.utf8_DecodeRuneInString ⟨l.toArray⟩ w (g.tabs C w R)).mono fun e w' ⟨h1,h2⟩=>⟨?_,h2⟩
  rw[hd]at h1
  exact h1
theorem countFrom_le (sub:List UInt8):∀(f:Nat) (s:List UInt8),Lib.countFrom sub f s≤f
 | 0,s=>by simp[Lib.countFrom]
 | f+1,s=>by
  unfold Lib.countFrom
  split
  ·omega
  ·have:=countFrom_le sub f (s.drop ((Lib.index s sub).toNat+sub.length))
   omega
theorem digit_ascii {base:Nat} {c:UInt8} {d:Nat} (h:digitS base c=some d):c.toNat<128∧c≠43∧c≠45∧c≠95:=by
 have hc:∀k:Nat,k<256→c=UInt8.ofNat k→c.toNat=k:=fun k hk e=>by rw[e];simp;omega
 unfold digitS at h
 split at h
 ·refine⟨by omega,fun e=>?_,fun e=>?_,fun e=>?_⟩<;>(subst e;simp at *)
 ·split at h
  ·refine⟨by omega,fun e=>?_,fun e=>?_,fun e=>?_⟩<;>(subst e;simp at *)
  ·split at h
   ·refine⟨by omega,fun e=>?_,fun e=>?_,fun e=>?_⟩<;>(subst e;simp at *)
   ·cases h
theorem parseF_digits {base:Nat}:∀(l:List UInt8) (n m:Nat),parseF base n l=some m→∀c,c∈l→c.toNat<128∧c≠43∧c≠45∧c≠95
 | [],n,m,h,c,hc=>by cases hc
 | d::l,n,m,h,c,hc=>by
  simp only[parseF]at h
  split at h
  ·cases h
  ·rename_i v hv
   split at h
   ·rcases List.mem_cons.1 hc with rfl | hc
    ·exact digit_ascii hv
    ·exact parseF_digits l _ m h c hc
   ·cases h
theorem any_ab (G:Nat→Option (List AV)) (l:List UInt8) (base n:Nat) (h:parseS base l=some n) (hl:l.length≤1000000000):PureCall Tryz.prog G 85 [.str l,.str [43,45,95]] (.bool false):=by
 have hd:∀c,c∈l→c.toNat<128∧c≠43∧c≠45∧c≠95:=by
  unfold parseS at h
  split at h
  ·cases h
  ·exact parseF_digits l 0 n h
 have hno:Lib.containsAny l [43,45,95]=false:=by
  have:Lib.indexAny l [43,45,95] = -1:=Lib.indexAny_none fun j b hj hb=>by
   have:=hd b (List.mem_of_getElem? hb)
   simp[this.2.1,this.2.2.1,this.2.2.2]
  unfold Lib.containsAny
  rw[this]
  rfl
 refine PureCall.shelf (vs:=[.string ⟨l.toArray⟩,.string ⟨#[43,45,95]⟩]) rfl (fun C => .bool _) fun C w R=>?_
 refine(Tryz.strings_ContainsAny_laid ⟨l.toArray⟩ ⟨#[43,45,95]⟩ w (by rw[size_of];omega) (by decide) (fun j b hb=>(hd b (List.mem_of_getElem? (by simpa using hb))).1) (fun j b hb=>?_)).mono fun e w' ⟨h1,h2⟩=>⟨?_,h2⟩
 ·have:b∈([43,45,95]:List UInt8):=List.mem_of_getElem? (by simpa using hb)
  simp at this
  rcases this with rfl | rfl | rfl<;>decide
 ·rw[h1]
  simp[hno]
end Go.Ab
