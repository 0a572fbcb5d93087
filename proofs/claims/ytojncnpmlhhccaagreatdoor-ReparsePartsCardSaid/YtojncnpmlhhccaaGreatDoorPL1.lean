/- Two HTML texts, one after the other: pieces. -/
import Derived.Test.YtojncnpmlhhccaaGreatDoorHC
set_option linter.all false
namespace Go.Ab
open Go Go.Lib
theorem prefix_app {p s:List UInt8} (r:List UInt8) (h:p.length≤s.length):Lib.hasPrefix (s++r) p=Lib.hasPrefix s p:=by
 unfold Lib.hasPrefix
 rw[Bool.eq_iff_iff,List.isPrefixOf_iff_prefix,List.isPrefixOf_iff_prefix]
 constructor
 ·intro h1
  exact List.prefix_of_prefix_length_le h1 (List.prefix_append s r) h
 ·intro h1
  exact h1.trans (List.prefix_append s r)
theorem prefix_app' {p s:List UInt8} (r:List UInt8) (h:Lib.hasPrefix s p=true):Lib.hasPrefix (s++r) p=true:=by
 unfold Lib.hasPrefix at h ⊢
 rw[List.isPrefixOf_iff_prefix]at h ⊢
 exact h.trans (List.prefix_append s r)
theorem index_app {p:List UInt8} (r:List UInt8) (hp:p≠[]):∀(s:List UInt8),0≤Lib.index s p→Lib.index (s++r) p=Lib.index s p
 | [],h=>by
  cases p with
  | nil=>exact absurd rfl hp
  | cons a t=>exact absurd h (by simp[Lib.index])
 | b::l,h=>by
  have hr:=Lib.index_room (b::l) p h
  have hpre:=prefix_app (p:=p) (s:=b::l) r (by omega)
  unfold Lib.hasPrefix at hpre
  rw[List.cons_append]at hpre ⊢
  unfold Lib.index at h ⊢
  rw[hpre]
  split
  ·rfl
  ·rename_i h0
   rw[if_neg h0]at h
   have h1:0≤Lib.index l p:=by
    by_cases h2:(Lib.index l p == -1)=true
    ·rw[if_pos h2]at h;exact absurd h (by decide)
    ·rw[if_neg h2]at h
     have:=Lib.index_ge l p
     have h3:Lib.index l p ≠ -1:=by simpa using h2
     omega
   rw[index_app r hp l h1]
theorem cut_app {p:List UInt8} (r:List UInt8) (hp:p≠[]) {s:List UInt8} (h:(Lib.cut s p).2.2=true):Lib.cut (s++r) p=((Lib.cut s p).1,(Lib.cut s p).2.1++r,true):=by
 unfold Lib.cut at h ⊢
 split at h
 ·rename_i hi
  have hr:=Lib.index_room s p hi
  rw[index_app r hp s hi,if_pos hi,if_pos hi]
  simp only
  rw[List.take_append_of_le_length (by omega),List.drop_append_of_le_length (by omega)]
 ·cases h
theorem trim_app {p s:List UInt8} (r:List UInt8) (h:Lib.hasPrefix s p=true):Lib.trimPrefix (s++r) p=Lib.trimPrefix s p++r:=by
 have:=hasPrefix_len h
 unfold Lib.trimPrefix
 rw[prefix_app' r h,h,if_pos rfl,if_pos rfl,List.drop_append_of_le_length (by omega)]
theorem nameS_head {c:UInt8} {l:List UInt8} (h:isNameS (c::l)=true):c≠47∧c≠33∧c≠63∧c≠60:=by
 unfold isNameS at h
 simp only[Bool.and_eq_true]at h
 have h2:=h.1.2
 unfold isPartS at h2
 simp only[Bool.and_eq_true,bne_iff_ne,ne_eq]at h2
 have hc:∃m,(Lib.cut (c::l) [58]).1=c::m:=by
  have hne:=h2.2
  unfold Lib.cut at hne ⊢
  split at hne
  ·rename_i hi
   rw[if_pos hi]
   simp only at hne ⊢
   cases hz:(Lib.index (c::l) [58]).toNat with
   | zero=>rw[hz]at hne;exact absurd rfl hne
   | succ n=>exact⟨_,rfl⟩
  ·rename_i hi
   rw[if_neg hi]
   exact⟨_,rfl⟩
 obtain⟨m,hm⟩:=hc
 rw[hm]at h2
 have h3:=h2.1
 simp only[List.length_cons,partF,Bool.and_eq_true]at h3
 have h4:=h3.1
 have key:∀d:UInt8,d.toNat<128→isLetterS d.toNat=false→c≠d:=by
  rintro d hd hl rfl
  rw[dec_ascii hd]at h4
  unfold partChar at h4
  rw[hl]at h4
  simp at h4
 exact⟨key 47 (by decide) (by decide),key 33 (by decide) (by decide),key 63 (by decide) (by decide),key 60 (by decide) (by decide)⟩
theorem upto_app {stop:List UInt8} (r:List UInt8):∀(s:List UInt8),uptoS s stop<s.length→uptoS (s++r) stop=uptoS s stop
 | [],h=>absurd h (by simp)
 | c::l,h=>by
  unfold uptoS at h ⊢
  rw[List.cons_append,List.takeWhile_cons,List.takeWhile_cons]at *
  split
  ·rename_i hc
   rw[if_pos hc]at h
   simp only[List.length_cons]at h ⊢
   have:=upto_app (stop:=stop) r l (by unfold uptoS;omega)
   unfold uptoS at this
   rw[this]
  ·rfl
theorem unescL_app (y:List UInt8):∀(n:Nat) (x acc:List UInt8),x.length≤n→(unescL x acc).2=true→unescL (x++y) acc=unescL y (unescL x acc).1
 | n,x,acc,hn,h=>by
  rw[unescL_step x acc]at h ⊢
  split at h
  ·rename_i h1
   split at h
   ·rename_i h2
    rw[if_pos h1,if_pos h2]
    have b1:=cut_found h1
    have b2:=cut_found h2.1
    simp only[List.length_cons,List.length_nil]at b1 b2
    cases n with
    | zero=>omega
    | succ n=>
     rw[unescL_step (x++y) acc,cut_app y (by simp) h1]
     simp only[if_true]
     rw[cut_app y (by simp) h2.1]
     simp only[true_and]
     rw[if_pos h2.2]
     exact unescL_app y n _ _ (by omega) h
   ·cases h
  ·rename_i h1
   rw[if_neg h1]
   simp only
   have h0:(Lib.cut x [38]).2.2=false:=by simpa using h1
   obtain⟨e1,e2⟩:=cut1_none 38 x h0
   have hx:∀c∈x,c≠38:=fun c hc2=>cut1_no 38 x c (by rw[e1];exact hc2)
   have hc:Lib.cut x [38]=(x,[],false):=Prod.ext e1 (Prod.ext e2 h0)
   rw[hc]
   simp only
   have hcy:Lib.cut (x++y) [38]=(x++(Lib.cut y [38]).1,(Lib.cut y [38]).2.1,(Lib.cut y [38]).2.2):=by
    clear h1 h hc hn h0 e1 e2
    induction x with
    | nil=>rfl
    | cons c x ih=>
     have hcc:=hx c (by simp)
     have:=ih (fun d hd=>hx d (by simp[hd]))
     rw[List.cons_append,cut1_cons,if_neg hcc,this]
     rfl
   rw[unescL_step (x++y) acc,unescL_step y (acc++x),hcy]
   simp only[List.append_assoc]
end Go.Ab
