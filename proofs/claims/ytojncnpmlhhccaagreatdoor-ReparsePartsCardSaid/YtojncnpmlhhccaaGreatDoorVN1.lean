/- Nodes that are alike; what stands ahead decides. -/
import Derived.Test.YtojncnpmlhhccaaGreatDoorQP1
set_option linter.all false
namespace Go.Ab
open Go Go.Lib
def Alike (l m:List Nd) (n:Nat):Prop:=∀k,k<n→(l.getD k nd0).kind=(m.getD k nd0).kind∧(l.getD k nd0).name=(m.getD k nd0).name∧(l.getD k nd0).up=(m.getD k nd0).up
theorem Alike.mono {l m:List Nd} {n k:Nat} (h:Alike l m n) (hk:k≤n):Alike l m k:=fun i hi=>h i (by omega)
theorem Alike.app {l:List Nd} (x:List Nd) {n:Nat} (hn:n≤l.length):Alike l (l++x) n:=fun k hk=>by rw[getD_app _ (by omega)];exact⟨rfl,rfl,rfl⟩
theorem upN_congr {l m:List Nd} {a:Nat}:∀(f i:Nat),UpOk l i→Alike l m (i+1)→upN l a f i=upN m a f i
 | 0,_,_,_=>rfl
 | f+1,i,h,he=>by
  simp only[upN]
  split
  ·rename_i ha
   have hi:=h i (by omega) (Nat.le_refl _)
   rw[(he i (by omega)).2.2]at hi ⊢
   exact upN_congr f _ (fun k k1 k2=>h k k1 (by omega)) (he.mono (by omega))
  ·rfl
theorem aboveN_congr {l m:List Nd} {a i:Nat} (h:UpOk l i) (he:Alike l m (i+1)):aboveN l a i=aboveN m a i:=by
 unfold aboveN
 rw[upN_congr i i h he]
theorem lastN_congr {l m:List Nd} {u:Nat}:∀(i:Nat),Alike l m i→lastN l u i=lastN m u i
 | 0,_=>rfl
 | i+1,he=>by
  simp only[lastN]
  rw[(he i (by omega)).2.2,lastN_congr i (he.mono (by omega))]
theorem lastN_up {l:List Nd} {u:Nat}:∀(i:Nat),lastN l u i≠0→(l.getD (lastN l u i) nd0).up=(u:Int)
 | 0,h=>absurd rfl h
 | i+1,h=>by
  simp only[lastN]at h ⊢
  split
  ·rename_i h1;exact h1.2
  ·rename_i h1
   rw[if_neg h1]at h
   exact lastN_up i h
theorem lastN_none {l:List Nd} {u:Nat}:∀(i:Nat),(∀k,1≤k→k<i→(l.getD k nd0).up≠(u:Int))→lastN l u i=0
 | 0,_=>rfl
 | i+1,h=>by
  rw[lastN,if_neg (fun hh=>h i hh.1 (by omega) hh.2)]
  exact lastN_none i fun k k1 k2=>h k k1 (by omega)
theorem names_take {l m:List Nd} {i:Nat} (he:Alike l m i) (hl:i≤l.length) (hm:i≤m.length):(l.take i).map (·.name)=(m.take i).map (·.name):=by
 apply List.ext_getElem
 ·simp only[List.length_map,List.length_take];omega
 ·intro k h1 h2
  simp only[List.length_map,List.length_take]at h1 h2
  have:=(he k (by omega)).2.1
  rw[nd_getD (by omega),nd_getD (by omega)]at this
  simpa using this
theorem any_names (l:List Nd) (s:List UInt8):(l.any fun y=>y.name==s)=(l.map (·.name)).any fun n=>n==s:=by
 rw[List.any_map];rfl
theorem placedN_congr {l m:List Nd} {i b:Nat} (he:Alike l m (i+1)) (hl:i<l.length) (hm:i<m.length) (hu:(l.getD i nd0).up.toNat≤i) (hb:b≤i):placedN l i b=placedN m i b:=by
 unfold placedN
 obtain⟨e1,e2,e3⟩:=he i (by omega)
 rw[e3]at hu
 have ep:=(he _ (show(m.getD i nd0).up.toNat<i+1 by omega)).1
 have eb:=(he b (by omega)).1
 rw[e1,e2,e3,ep,eb,any_names,any_names,List.map_drop,List.map_drop,names_take (he.mono (by omega)) (by omega) (by omega)]
theorem aboveN_self (l:List Nd) (a:Nat):aboveN l a a=true:=by
 unfold aboveN
 rw[upN_end (by omega)]
 simp
theorem aboveN_step {l:List Nd} {a i:Nat} (h:UpOk l i) (ha:a<i):aboveN l a i=aboveN l a (l.getD i nd0).up.toNat:=by
 unfold aboveN
 rw[upN_step h ha]
theorem upN_le {l:List Nd} {a:Nat}:∀(f i:Nat),UpOk l i→upN l a f i≤i
 | 0,i,_=>Nat.le_refl _
 | f+1,i,h=>by
  simp only[upN]
  split
  ·have hi:=h i (by omega) (Nat.le_refl _)
   have:=upN_le (a:=a) f _ (show UpOk l (l.getD i nd0).up.toNat from fun k k1 k2=>h k k1 (by omega))
   omega
  ·exact Nat.le_refl _
theorem aboveN_le {l:List Nd} {a i:Nat} (h:UpOk l i) (ha:aboveN l a i=true):a≤i:=by
 unfold aboveN at ha
 rw[beq_iff_eq]at ha
 have:=upN_le (a:=a) i i h
 omega
theorem aboveN_trans {l:List Nd} {a b:Nat}:∀(n c:Nat),c≤n→UpOk l c→aboveN l a b=true→aboveN l b c=true→aboveN l a c=true
 | n,c,hn,hc,h1,h2=>by
  have hbc:=aboveN_le hc h2
  rcases Nat.lt_or_ge b c with hlt | hge
  ·have hab:=aboveN_le (show UpOk l b from fun k k1 k2=>hc k k1 (by omega)) h1
   have hi:=hc c (by omega) (Nat.le_refl _)
   rw[aboveN_step hc hlt]at h2
   rw[aboveN_step hc (by omega)]
   cases n with
   | zero=>omega
   | succ n=>exact aboveN_trans n _ (by omega) (fun k k1 k2=>hc k k1 (by omega)) h1 h2
  ·have:b=c:=by omega
   subst this
   exact h1
theorem aboveN_up {l:List Nd} {i:Nat} (h:UpOk l i) (hi:0<i):aboveN l (l.getD i nd0).up.toNat i=true:=by
 have:=h i hi (Nat.le_refl _)
 rw[aboveN_step h (by omega)]
 exact aboveN_self _ _
structure NodeOk (l:List Nd) (i:Nat):Prop where
 kind:(l.getD i nd0).kind≤5
 allowed:allowedS (l.getD i nd0).kind (l.getD i nd0).name (l.getD i nd0).text=true
 bound:(l.getD i nd0).name.length≤1000000000∧(l.getD i nd0).text.length≤1000000000
 above:0<i→aboveN l (l.getD i nd0).up.toNat (i-1)=true
 doc:0<i→(l.getD i nd0).kind≠0
 placed:0<i→placedN l i (lastN l (l.getD i nd0).up.toNat i)=true
 deep:0<i→(l.getD i nd0).kind≠2→depN l i i≤200
theorem NodeOk.congr {l m:List Nd} {i:Nat} (h:NodeOk l i) (hu:UpOk l i) (he:Alike l m (i+1)) (hl:i<l.length) (hm:i<m.length)
  (ha:allowedS (m.getD i nd0).kind (m.getD i nd0).name (m.getD i nd0).text=true) (hb:(m.getD i nd0).text.length≤1000000000):NodeOk m i:=by
 obtain⟨e1,e2,e3⟩:=he i (by omega)
 refine⟨e1▸h.kind,ha,⟨e2▸h.bound.1,hb⟩,fun h0=>?_,fun h0=>e1▸h.doc h0,fun h0=>?_,fun h0 hk=>?_⟩
 ·have:=h.above h0
  rw[aboveN_congr (fun k k1 k2=>hu k k1 (by omega)) (he.mono (by omega)),e3]at this
  exact this
 ·have hi:=hu i h0 (Nat.le_refl _)
  have hlt:=lastN_lt l (l.getD i nd0).up.toNat i
  have:=h.placed h0
  rw[placedN_congr he hl hm (by omega) (by omega),lastN_congr i (he.mono (by omega)),e3]at this
  exact this
 ·have:=h.deep h0 (e1▸hk)
  rw[depN_congr i i hu (fun k hk=>(he k (by omega)).2.2)]at this
  exact this
structure VOk (t:TSt):Prop where
 d:DOk t
 nodes:∀i,i<t.l.length→NodeOk t.l i
 opk:((t.l.getD t.op nd0).kind=0∧t.op=0)∨(t.l.getD t.op nd0).kind=1
 opab:aboveN t.l t.op (t.l.length-1)=true
 l1:∀p,p<t.op→aboveN t.l p t.op=true→(t.l.getD (lastN t.l p t.l.length) nd0).kind≠3
 l2:(t.l.getD (lastN t.l t.op t.l.length) nd0).kind=3→lastN t.l t.op t.l.length=t.l.length-1
theorem VOk.init:VOk t0T:=by
 refine⟨DOk.init,fun i hi=>?_,.inl ⟨rfl,rfl⟩,by decide,fun p hp=>absurd hp (Nat.not_lt_zero _),by decide⟩
 have:i=0:=by simp[t0T]at hi;exact hi
 subst this
 exact⟨by decide,by decide,by decide,fun h=>absurd h (by decide),fun h=>absurd h (by decide),fun h=>absurd h (by decide),fun h=>absurd h (by decide)⟩
theorem VOk.add {t t':TSt} {kind:Nat} {name text:List UInt8} (h:VOk t) (e:t.add kind name text = .ok t') (hk:1≤kind∧kind≤5) (ha:allowedS kind name text=true) (hn:name.length≤10000000)
  (hp:placedN (t.l++[⟨kind,name,text,t.op⟩]) t.l.length (lastN t.l t.op t.l.length)=true):VOk t':=by
 obtain⟨hd,hl,ho,hdeep⟩:=h.d.add e
 have hg:(kind≠2→t.deep<200)∧t.bytes+text.length≤1048576:=by
  unfold TSt.add at e
  split at e
  ·cases e
  ·rename_i hh
   refine⟨fun h2=>?_,by omega⟩
   have:¬(kind≠2∧200≤t.deep):=fun x=>hh (.inr (.inl x))
   omega
 have hop:=h.d.op
 generalize hx:(⟨kind,name,text,t.op⟩:Nd)=x at hl hp
 have hal:Alike t.l t'.l t.l.length:=by rw[hl];exact Alike.app _ (Nat.le_refl _)
 have hlen:t'.l.length=t.l.length+1:=by rw[hl];simp
 have hend:t'.l.getD t.l.length nd0=x:=by rw[hl,getD_end]
 have hup:x.up=t.op:=by rw[←hx]
 have hat:∀k,k<t.l.length→t'.l.getD k nd0=t.l.getD k nd0:=fun k hk=>by rw[hl,getD_app _ hk]
 have huo:∀i,i<t.l.length→UpOk t.l i:=fun i hi=>h.d.upOk hi
 have huo':UpOk t'.l t.l.length:=hd.upOk (by omega)
 have hln:=lastN_lt t.l t.op t.l.length
 refine⟨hd,fun i hi=>?_,?_,?_,fun p hp1 hp2=>?_,fun _=>?_⟩
 ·rcases Nat.lt_or_ge i t.l.length with hlt | hge
  ·have:=h.nodes i hlt
   exact this.congr (huo i hlt) (hal.mono hlt) hlt hi (by rw[hat i hlt];exact this.allowed) (by rw[hat i hlt];exact this.bound.2)
  ·have:i=t.l.length:=by omega
   subst this
   refine⟨?_,?_,?_,fun _=>?_,fun _=>?_,fun _=>?_,fun _ h2=>?_⟩
   ·rw[hend,←hx];exact hk.2
   ·rw[hend,←hx];exact ha
   ·rw[hend,←hx];exact⟨by simp only;omega,by simp only;omega⟩
   ·rw[hend,hup,Int.toNat_natCast,←aboveN_congr (huo _ (by omega)) (hal.mono (by omega))];exact h.opab
   ·rw[hend,←hx];simp only;omega
   ·rw[hend,hup,Int.toNat_natCast,←lastN_congr _ hal,hl];exact hp
   ·rw[hend,←hx]at h2
    have:=hg.1 h2
    rw[depN_step huo' (by omega),hend,hup,Int.toNat_natCast,←depN_congr _ _ (huo _ hop) (fun k hk=>(hal k (by omega)).2.2)]
    have h3:=h.d.deep
    omega
 ·rw[ho,hat _ hop];exact h.opk
 ·rw[ho,hlen,Nat.add_sub_cancel,aboveN_step huo' hop,hend,hup,Int.toNat_natCast]
  exact aboveN_self _ _
 ·rw[ho]at hp1 hp2
  rw[←aboveN_congr (huo _ hop) (hal.mono (by omega))]at hp2
  have hq:=h.l1 p hp1 hp2
  have hlp:=lastN_lt t.l p t.l.length
  have e1:lastN t'.l p t'.l.length=lastN t.l p t.l.length:=by
   rw[hlen,lastN,if_neg (by rw[hend,hup];omega),←lastN_congr _ hal]
  rw[e1,hat _ (by omega)]
  exact hq
 ·rw[ho,hlen,lastN,if_pos ⟨by omega,by rw[hend,hup]⟩]
  omega
end Go.Ab
