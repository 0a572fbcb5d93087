/- What the reference's Build computes is what tree.Build computes. Nodes that are alike; what stands ahead decides. Trees that are built are valid. -/
import Derived.Test.YtojncnpmlhhccaaGreatDoorHT9
import Derived.Test.YtojncnpmlhhccaaGreatDoorRA
set_option linter.all false
namespace Go.Ab
open Go Go.Lib
theorem dupT_nodup:∀(l seen:List (List UInt8 × List UInt8)),dupT seen l=false↔((l.map (·.1)).Nodup∧∀a∈l,∀b∈seen,b.1≠a.1)
 | [],seen=>by simp[dupT]
 | a::l,seen=>by
  rw[dupT,Bool.or_eq_false_iff,dupT_nodup l (seen++[a])]
  simp only[List.map_cons,List.nodup_cons,List.any_eq_false,beq_iff_eq,List.mem_append,List.mem_singleton,List.mem_cons,List.mem_map,not_exists,not_and,List.not_mem_nil,or_false]
  constructor
  ·rintro⟨h1,h2,h3⟩
   refine⟨⟨fun b hb e=>h3 b hb a (.inr rfl) e.symm,h2⟩,?_⟩
   rintro b (rfl | hb) c hc
   ·exact h1 c hc
   ·exact h3 b hb c (.inl hc)
  ·rintro⟨⟨h1,h2⟩,h3⟩
   refine⟨fun b hb=>h3 a (.inl rfl) b hb,h2,?_⟩
   rintro b hb c (hc | rfl)
   ·exact h3 b (.inr hb) c hc
   ·exact fun e=>h1 b hb e.symm
structure DOk (t:TSt):Prop where
 up:∀k,0<k→k<t.l.length→0≤(t.l.getD k nd0).up∧(t.l.getD k nd0).up<k
 op:t.op<t.l.length
 root:t.l.getD 0 nd0=nd0
 len:t.l.length≤65536
 bytes:t.bytes≤1048576
 deep:t.deep=(depN t.l t.op t.op:Int)
theorem DOk.upOk {t:TSt} (h:DOk t) {i:Nat} (hi:i<t.l.length):UpOk t.l i:=fun k k1 k2=>h.up k k1 (by omega)
theorem depN_congr {l m:List Nd}:∀(f i:Nat),UpOk l i→(∀k,k≤i→(l.getD k nd0).up=(m.getD k nd0).up)→depN l f i=depN m f i
 | 0,_,_,_=>rfl
 | f+1,i,h,he=>by
  simp only[depN]
  split
  ·rfl
  ·have hi:=h i (by omega) (Nat.le_refl _)
   rw[he i (Nat.le_refl _)]at hi ⊢
   rw[depN_congr f (m.getD i nd0).up.toNat (fun k k1 k2=>h k k1 (by omega)) (fun k hk=>he k (by omega))]
theorem getD_app {l:List Nd} (m:List Nd) {k:Nat} (h:k<l.length):(l++m).getD k nd0=l.getD k nd0:=by
 rw[List.getD_eq_getElem?_getD,List.getD_eq_getElem?_getD,List.getElem?_append_left h]
theorem getD_end (l:List Nd) (x:Nd):(l++[x]).getD l.length nd0=x:=by
 rw[List.getD_eq_getElem?_getD,List.getElem?_append_right (Nat.le_refl _)]
 simp
theorem DOk.add {t t':TSt} {kind:Nat} {name text:List UInt8} (h:DOk t) (e:t.add kind name text = .ok t'):DOk t'∧t'.l=t.l++[⟨kind,name,text,t.op⟩]∧t'.op=t.op∧t'.deep=t.deep:=by
 unfold TSt.add at e
 split at e
 ·cases e
 rename_i hn
 cases e
 have hop:=h.op
 refine⟨⟨fun k k1 k2=>?_,?_,?_,?_,?_,?_⟩,rfl,rfl,rfl⟩
 ·simp only[List.length_append,List.length_singleton]at k2
  simp only
  by_cases hk:k<t.l.length
  ·rw[getD_app _ hk];exact h.up k k1 hk
  ·have:k=t.l.length:=by omega
   subst this
   rw[getD_end]
   simp only
   omega
 ·simp only[List.length_append,List.length_singleton];omega
 ·simp only;rw[getD_app _ (by omega)];exact h.root
 ·simp only[List.length_append,List.length_singleton];omega
 ·simp only;omega
 ·simp only
  rw[h.deep]
  congr 1
  exact depN_congr _ _ (h.upOk hop) fun k hk=>by rw[getD_app _ (by omega)]
theorem DOk.attrs:∀(l:List (List UInt8 × List UInt8)) {t t':TSt},DOk t→attrsT l t = .ok t'→DOk t'
 | [],t,t',h,e=>by cases e;exact h
 | a::l,t,t',h,e=>by
  simp only[attrsT]at e
  split at e
  ·cases e
  ·rename_i t1 h1
   exact DOk.attrs l (h.add h1).1 e
theorem DOk.begun {t t':TSt} {name:List UInt8} (h:DOk t) (e:t.add 1 name [] = .ok t'):DOk { t' with op:=t.l.length,deep:=t.deep+1 }:=by
 obtain⟨h1,h2,h3,h4⟩:=h.add e
 have hop:=h.op
 have hl:t'.l.length=t.l.length+1:=by rw[h2];simp
 refine⟨h1.up,by simp only;omega,h1.root,h1.len,h1.bytes,?_⟩
 simp only
 rw[h.deep]
 have hu:(t'.l.getD t.l.length nd0).up=t.op:=by rw[h2,getD_end]
 have hst:=depN_step (l:=t'.l) (i:=t.l.length) (h1.upOk (by omega)) (by omega)
 rw[hst,hu,Int.toNat_natCast]
 have:depN t'.l t.op t.op=depN t.l t.op t.op:=by
  rw[h2]
  exact(depN_congr _ _ (h.upOk hop) fun k hk=>by rw[getD_app _ (by omega)]).symm
 rw[this]
 omega
theorem DOk.event {t t':TSt} {x:Ev} (h:DOk t) (e:eventT t x = .ok t'):DOk t':=by
 have hop:=h.op
 have oth:∀k n s,otherT t k n s = .ok t'→DOk t':=fun k n s e=>by
  unfold otherT at e
  split at e
  ·cases e
  ·exact(h.add e).1
 unfold eventT at e
 split at e
 ·unfold startT at e
  split at e
  ·cases e
  split at e
  ·cases e
  split at e
  ·cases e
  split at e
  ·cases e
  ·rename_i t1 h1
   exact DOk.attrs _ (h.begun h1) e
 ·unfold endT at e
  split at e
  ·cases e
  split at e
  ·cases e
  rename_i hk
  cases e
  have hkind:t.cur.kind=1:=by
   by_cases hh:t.cur.kind=1
   ·exact hh
   ·exact absurd (.inl hh) hk
  have h0:0<t.op:=by
   rcases Nat.eq_zero_or_pos t.op with h0 | h0
   ·unfold TSt.cur at hkind
    rw[h0,h.root]at hkind
    cases hkind
   ·exact h0
  have hb:=h.up t.op h0 hop
  have hc:t.cur=t.l.getD t.op nd0:=rfl
  refine⟨h.up,by simp only;rw[hc];omega,h.root,h.len,h.bytes,?_⟩
  simp only
  rw[h.deep,depN_step (h.upOk hop) h0,hc]
  omega
 ·unfold textT at e
  split at e
  ·cases e
  split at e
  ·cases e;exact h
  split at e
  ·split at e
   ·cases e
   ·rename_i h3 hbyt
    cases e
    obtain⟨D,x0,hD⟩:∃D x0,t.l=D++[x0]:=by
     rcases List.eq_nil_or_concat t.l with h0 | ⟨D,x0,h0⟩
     ·rw[h0]at hop;simp at hop
     ·exact⟨D,x0,by rw[h0,List.concat_eq_append]⟩
    have hlast:t.last=x0:=by unfold TSt.last;rw[hD];simp
    have hdl:t.l.dropLast=D:=by rw[hD];simp
    have hlen:t.l.length=D.length+1:=by rw[hD];simp
    have hup:∀k,((D++[{ x0 with text:=x0.text++x.text }]).getD k nd0).up=(t.l.getD k nd0).up:=fun k=>by
     rw[hD]
     by_cases hk:k<D.length
     ·rw[getD_app _ hk,getD_app _ hk]
     ·by_cases hk2:k=D.length
      ·subst hk2;rw[getD_end,getD_end]
      ·rw[List.getD_eq_getElem?_getD,List.getD_eq_getElem?_getD,List.getElem?_eq_none (by simp;omega),List.getElem?_eq_none (by simp;omega)]
    rw[hlast]at h3 ⊢
    rw[hdl]
    refine⟨fun k k1 k2=>?_,?_,?_,?_,?_,?_⟩
    ·simp only[List.length_append,List.length_singleton]at k2
     simp only
     rw[hup]
     exact h.up k k1 (by omega)
    ·simp only[List.length_append,List.length_singleton];omega
    ·simp only
     have hr:=h.root
     rw[hD]at hr
     cases D with
     | nil=>
      simp at hr
      subst hr
      exact absurd h3.1 (by decide)
     | cons y D=>simpa using hr
    ·have:=h.len
     simp only[List.length_append,List.length_singleton];omega
    ·simp only;omega
    ·simp only
     rw[h.deep]
     congr 1
     exact depN_congr _ _ (h.upOk hop) fun k hk=>(hup k).symm
  ·exact(h.add e).1
 ·exact oth _ _ _ e
 ·exact oth _ _ _ e
 ·cases e
theorem DOk.init:DOk t0T:=⟨fun k k1 k2=>by simp[t0T]at k2;omega,by decide,rfl,by decide,by decide,rfl⟩
end Go.Ab
namespace Go.Ab
open Go Go.Lib
def Alike (l m:List Nd) (n:Nat):Prop:=∀k,k<n→(l.getD k nd0).kind=(m.getD k nd0).kind∧(l.getD k nd0).name=(m.getD k nd0).name∧(l.getD k nd0).up=(m.getD k nd0).up
theorem Alike.mono {l m:List Nd} {n k:Nat} (h:Alike l m n) (hk:k≤n):Alike l m k:=fun i hi=>h i (by omega)
theorem Alike.app {l:List Nd} (x:List Nd) {n:Nat} (hn:n≤l.length):Alike l (l++x) n:=fun k hk=>by rw[getD_app _ (by omega)];exact⟨rfl,rfl,rfl⟩
theorem upN_congr {l m:List Nd} {a:Nat}:∀(f i:Nat),UpOk l i→Alike l m (i+1)→upN l a f i=upN m a f i
 | 0,_,_,_=>rfl
 | f+1,i,h,he=>by
  simp only[upN]
  split
  ·rename_i ha
   have hi:=h i (by omega) (Nat.le_refl _)
   rw[(he i (by omega)).2.2]at hi ⊢
   exact upN_congr f _ (fun k k1 k2=>h k k1 (by omega)) (he.mono (by omega))
  ·rfl
theorem aboveN_congr {l m:List Nd} {a i:Nat} (h:UpOk l i) (he:Alike l m (i+1)):aboveN l a i=aboveN m a i:=by
 unfold aboveN
 rw[upN_congr i i h he]
theorem lastN_congr {l m:List Nd} {u:Nat}:∀(i:Nat),Alike l m i→lastN l u i=lastN m u i
 | 0,_=>rfl
 | i+1,he=>by
  simp only[lastN]
  rw[(he i (by omega)).2.2,lastN_congr i (he.mono (by omega))]
theorem lastN_up {l:List Nd} {u:Nat}:∀(i:Nat),lastN l u i≠0→(l.getD (lastN l u i) nd0).up=(u:Int)
 | 0,h=>absurd rfl h
 | i+1,h=>by
  simp only[lastN]at h ⊢
  split
  ·rename_i h1;exact h1.2
  ·rename_i h1
   rw[if_neg h1]at h
   exact lastN_up i h
theorem lastN_none {l:List Nd} {u:Nat}:∀(i:Nat),(∀k,1≤k→k<i→(l.getD k nd0).up≠(u:Int))→lastN l u i=0
 | 0,_=>rfl
 | i+1,h=>by
  rw[lastN,if_neg (fun hh=>h i hh.1 (by omega) hh.2)]
  exact lastN_none i fun k k1 k2=>h k k1 (by omega)
theorem names_take {l m:List Nd} {i:Nat} (he:Alike l m i) (hl:i≤l.length) (hm:i≤m.length):(l.take i).map (·.name)=(m.take i).map (·.name):=by
 apply List.ext_getElem
 ·simp only[List.length_map,List.length_take];omega
 ·intro k h1 h2
  simp only[List.length_map,List.length_take]at h1 h2
  have:=(he k (by omega)).2.1
  rw[nd_getD (by omega),nd_getD (by omega)]at this
  simpa using this
theorem any_names (l:List Nd) (s:List UInt8):(l.any fun y=>y.name==s)=(l.map (·.name)).any fun n=>n==s:=by
 rw[List.any_map];rfl
theorem placedN_congr {l m:List Nd} {i b:Nat} (he:Alike l m (i+1)) (hl:i<l.length) (hm:i<m.length) (hu:(l.getD i nd0).up.toNat≤i) (hb:b≤i):placedN l i b=placedN m i b:=by
 unfold placedN
 obtain⟨e1,e2,e3⟩:=he i (by omega)
 rw[e3]at hu
 have ep:=(he _ (show(m.getD i nd0).up.toNat<i+1 by omega)).1
 have eb:=(he b (by omega)).1
 rw[e1,e2,e3,ep,eb,any_names,any_names,List.map_drop,List.map_drop,names_take (he.mono (by omega)) (by omega) (by omega)]
theorem aboveN_self (l:List Nd) (a:Nat):aboveN l a a=true:=by
 unfold aboveN
 rw[upN_end (by omega)]
 simp
theorem aboveN_step {l:List Nd} {a i:Nat} (h:UpOk l i) (ha:a<i):aboveN l a i=aboveN l a (l.getD i nd0).up.toNat:=by
 unfold aboveN
 rw[upN_step h ha]
theorem upN_le {l:List Nd} {a:Nat}:∀(f i:Nat),UpOk l i→upN l a f i≤i
 | 0,i,_=>Nat.le_refl _
 | f+1,i,h=>by
  simp only[upN]
  split
  ·have hi:=h i (by omega) (Nat.le_refl _)
   have:=upN_le (a:=a) f _ (show UpOk l (l.getD i nd0).up.toNat from fun k k1 k2=>h k k1 (by omega))
   omega
  ·exact Nat.le_refl _
theorem aboveN_le {l:List Nd} {a i:Nat} (h:UpOk l i) (ha:aboveN l a i=true):a≤i:=by
 unfold aboveN at ha
 rw[beq_iff_eq]at ha
 have:=upN_le (a:=a) i i h
 omega
theorem aboveN_trans {l:List Nd} {a b:Nat}:∀(n c:Nat),c≤n→UpOk l c→aboveN l a b=true→aboveN l b c=true→aboveN l a c=true
 | n,c,hn,hc,h1,h2=>by
  have hbc:=aboveN_le hc h2
  rcases Nat.lt_or_ge b c with hlt | hge
  ·have hab:=aboveN_le (show UpOk l b from fun k k1 k2=>hc k k1 (by omega)) h1
   have hi:=hc c (by omega) (Nat.le_refl _)
   rw[aboveN_step hc hlt]at h2
   rw[aboveN_step hc (by omega)]
   cases n with
   | zero=>omega
   | succ n=>exact aboveN_trans n _ (by omega) (fun k k1 k2=>hc k k1 (by omega)) h1 h2
  ·have:b=c:=by omega
   subst this
   exact h1
theorem aboveN_up {l:List Nd} {i:Nat} (h:UpOk l i) (hi:0<i):aboveN l (l.getD i nd0).up.toNat i=true:=by
 have:=h i hi (Nat.le_refl _)
 rw[aboveN_step h (by omega)]
 exact aboveN_self _ _
structure NodeOk (l:List Nd) (i:Nat):Prop where
 kind:(l.getD i nd0).kind≤5
 allowed:allowedS (l.getD i nd0).kind (l.getD i nd0).name (l.getD i nd0).text=true
 bound:(l.getD i nd0).name.length≤1000000000∧(l.getD i nd0).text.length≤1000000000
 above:0<i→aboveN l (l.getD i nd0).up.toNat (i-1)=true
 doc:0<i→(l.getD i nd0).kind≠0
 placed:0<i→placedN l i (lastN l (l.getD i nd0).up.toNat i)=true
 deep:0<i→(l.getD i nd0).kind≠2→depN l i i≤200
theorem NodeOk.congr {l m:List Nd} {i:Nat} (h:NodeOk l i) (hu:UpOk l i) (he:Alike l m (i+1)) (hl:i<l.length) (hm:i<m.length)
  (ha:allowedS (m.getD i nd0).kind (m.getD i nd0).name (m.getD i nd0).text=true) (hb:(m.getD i nd0).text.length≤1000000000):NodeOk m i:=by
 obtain⟨e1,e2,e3⟩:=he i (by omega)
 refine⟨e1▸h.kind,ha,⟨e2▸h.bound.1,hb⟩,fun h0=>?_,fun h0=>e1▸h.doc h0,fun h0=>?_,fun h0 hk=>?_⟩
 ·have:=h.above h0
  rw[aboveN_congr (fun k k1 k2=>hu k k1 (by omega)) (he.mono (by omega)),e3]at this
  exact this
 ·have hi:=hu i h0 (Nat.le_refl _)
  have hlt:=lastN_lt l (l.getD i nd0).up.toNat i
  have:=h.placed h0
  rw[placedN_congr he hl hm (by omega) (by omega),lastN_congr i (he.mono (by omega)),e3]at this
  exact this
 ·have:=h.deep h0 (e1▸hk)
  rw[depN_congr i i hu (fun k hk=>(he k (by omega)).2.2)]at this
  exact this
structure VOk (t:TSt):Prop where
 d:DOk t
 nodes:∀i,i<t.l.length→NodeOk t.l i
 opk:((t.l.getD t.op nd0).kind=0∧t.op=0)∨(t.l.getD t.op nd0).kind=1
 opab:aboveN t.l t.op (t.l.length-1)=true
 l1:∀p,p<t.op→aboveN t.l p t.op=true→(t.l.getD (lastN t.l p t.l.length) nd0).kind≠3
 l2:(t.l.getD (lastN t.l t.op t.l.length) nd0).kind=3→lastN t.l t.op t.l.length=t.l.length-1
theorem VOk.init:VOk t0T:=by
 refine⟨DOk.init,fun i hi=>?_,.inl ⟨rfl,rfl⟩,by decide,fun p hp=>absurd hp (Nat.not_lt_zero _),by decide⟩
 have:i=0:=by simp[t0T]at hi;exact hi
 subst this
 exact⟨by decide,by decide,by decide,fun h=>absurd h (by decide),fun h=>absurd h (by decide),fun h=>absurd h (by decide),fun h=>absurd h (by decide)⟩
theorem VOk.add {t t':TSt} {kind:Nat} {name text:List UInt8} (h:VOk t) (e:t.add kind name text = .ok t') (hk:1≤kind∧kind≤5) (ha:allowedS kind name text=true) (hn:name.length≤10000000)
  (hp:placedN (t.l++[⟨kind,name,text,t.op⟩]) t.l.length (lastN t.l t.op t.l.length)=true):VOk t':=by
 obtain⟨hd,hl,ho,hdeep⟩:=h.d.add e
 have hg:(kind≠2→t.deep<200)∧t.bytes+text.length≤1048576:=by
  unfold TSt.add at e
  split at e
  ·cases e
  ·rename_i hh
   refine⟨fun h2=>?_,by omega⟩
   have:¬(kind≠2∧200≤t.deep):=fun x=>hh (.inr (.inl x))
   omega
 have hop:=h.d.op
 generalize hx:(⟨kind,name,text,t.op⟩:Nd)=x at hl hp
 have hal:Alike t.l t'.l t.l.length:=by rw[hl];exact Alike.app _ (Nat.le_refl _)
 have hlen:t'.l.length=t.l.length+1:=by rw[hl];simp
 have hend:t'.l.getD t.l.length nd0=x:=by rw[hl,getD_end]
 have hup:x.up=t.op:=by rw[←hx]
 have hat:∀k,k<t.l.length→t'.l.getD k nd0=t.l.getD k nd0:=fun k hk=>by rw[hl,getD_app _ hk]
 have huo:∀i,i<t.l.length→UpOk t.l i:=fun i hi=>h.d.upOk hi
 have huo':UpOk t'.l t.l.length:=hd.upOk (by omega)
 have hln:=lastN_lt t.l t.op t.l.length
 refine⟨hd,fun i hi=>?_,?_,?_,fun p hp1 hp2=>?_,fun _=>?_⟩
 ·rcases Nat.lt_or_ge i t.l.length with hlt | hge
  ·have:=h.nodes i hlt
   exact this.congr (huo i hlt) (hal.mono hlt) hlt hi (by rw[hat i hlt];exact this.allowed) (by rw[hat i hlt];exact this.bound.2)
  ·have:i=t.l.length:=by omega
   subst this
   refine⟨?_,?_,?_,fun _=>?_,fun _=>?_,fun _=>?_,fun _ h2=>?_⟩
   ·rw[hend,←hx];exact hk.2
   ·rw[hend,←hx];exact ha
   ·rw[hend,←hx];exact⟨by simp only;omega,by simp only;omega⟩
   ·rw[hend,hup,Int.toNat_natCast,←aboveN_congr (huo _ (by omega)) (hal.mono (by omega))];exact h.opab
   ·rw[hend,←hx];simp only;omega
   ·rw[hend,hup,Int.toNat_natCast,←lastN_congr _ hal,hl];exact hp
   ·rw[hend,←hx]at h2
    have:=hg.1 h2
    rw[depN_step huo' (by omega),hend,hup,Int.toNat_natCast,←depN_congr _ _ (huo _ hop) (fun k hk=>(hal k (by omega)).2.2)]
    have h3:=h.d.deep
    omega
 ·rw[ho,hat _ hop];exact h.opk
 ·rw[ho,hlen,Nat.add_sub_cancel,aboveN_step huo' hop,hend,hup,Int.toNat_natCast]
  exact aboveN_self _ _
 ·rw[ho]at hp1 hp2
  rw[←aboveN_congr (huo _ hop) (hal.mono (by omega))]at hp2
  have hq:=h.l1 p hp1 hp2
  have hlp:=lastN_lt t.l p t.l.length
  have e1:lastN t'.l p t'.l.length=lastN t.l p t.l.length:=by
   rw[hlen,lastN,if_neg (by rw[hend,hup];omega),←lastN_congr _ hal]
  rw[e1,hat _ (by omega)]
  exact hq
 ·rw[ho,hlen,lastN,if_pos ⟨by omega,by rw[hend,hup]⟩]
  omega
end Go.Ab
namespace Go.Ab
open Go Go.Lib
theorem dec_bad (t:List UInt8):dec (239::191::189::t)=(65533,3):=by
 have h:=nextR_prefix (l:=239::191::189::t) (by simp[Lib.hasPrefix,List.isPrefixOf])
 have h2:=(nextR_high (b:=239) (191::189::t) (by decide)).2 (by rw[h];decide) (by rw[h];decide)
 rw[h2.1,h]
theorem isTextS_cat (b:List UInt8) (hb:isTextS b=true):∀(n:Nat) (l:List UInt8),l.length≤n→isTextS l=true→isTextS (l++b)=true
 | _,[],_,_=>hb
 | 0,_::_,h,_=>absurd h (by simp)
 | n+1,h::t,hn,hl=>by
  have hne:h::t≠[]:=by simp
  have hp:=dec_pos hne
  rw[isTextS_step hne,Bool.and_eq_true]at hl
  have hd:dec (h::(t++b))=dec (h::t):=by
   by_cases hh:h.toNat<128
   ·rw[dec_ascii hh,dec_ascii hh]
   ·rcases dec_split t (b:=h) (by omega)with h1 | ⟨c,m,rfl,_,_,_,h3⟩
    ·exfalso
     have h4:=hl.1
     unfold headTextS at h4
     rw[h1]at h4
     simp only[Bool.and_eq_true,Bool.or_eq_true,Bool.not_eq_true']at h4
     rcases h4.2 with h5 | h5
     ·exact absurd h5 (by decide)
     ·match t,h5 with
      | [],h5=>simp[Lib.hasPrefix,List.isPrefixOf]at h5
      | [_],h5=>simp[Lib.hasPrefix,List.isPrefixOf]at h5
      | x::y::t,h5=>
       simp[Lib.hasPrefix,List.isPrefixOf]at h5
       obtain⟨rfl,rfl,rfl⟩:=h5
       have h6:dec (239::191::189::t)=(65533,3):=dec_bad t
       rw[h6]at h1
       exact absurd h1 (by decide)
    ·rw[List.append_assoc,h3]
  have hpre:headTextS (h::(t++b))=headTextS (h::t)∨headTextS (h::(t++b))=true:=by
   unfold headTextS at hl ⊢
   rw[hd]
   simp only[Bool.and_eq_true]at hl
   right
   rw[hl.1.1,Bool.true_and]
   rcases Bool.or_eq_true _ _ |>.mp hl.1.2 with h1 | h1
   ·rw[h1];rfl
   ·have:Lib.hasPrefix (h::(t++b)) [239,191,189]=true:=by
     unfold Lib.hasPrefix at h1 ⊢
     rw[List.isPrefixOf_iff_prefix]at h1 ⊢
     exact h1.trans (List.prefix_append (h::t) b)
    rw[this,Bool.or_true]
  have hhead:headTextS (h::(t++b))=true:=hpre.elim (fun e=>e.trans hl.1) id
  show isTextS (h::(t++b))=true
  have hdr:(h::(t++b)).drop (dec (h::t)).2=(h::t).drop (dec (h::t)).2++b:=by
   have:=List.drop_append_of_le_length (l₂:=b) (dec_le hne)
   simpa using this
  rw[isTextS_step (by simp),hhead,hd,hdr,isTextS_cat b hb n _ (by simp only[List.length_drop,List.length_cons]at hn ⊢;omega) hl.2]
  rfl
theorem placed_other {l:List Nd} {i b:Nat} (h1:(l.getD (l.getD i nd0).up.toNat nd0).kind=0∨(l.getD (l.getD i nd0).up.toNat nd0).kind=1) (h2:(l.getD i nd0).kind≠2) (h3:(l.getD i nd0).kind=3→b≠0→(l.getD b nd0).kind≠3):placedN l i b=true:=by
 unfold placedN
 rw[if_neg (by omega)]
 split
 ·rfl
 ·rename_i hb
  try rw[if_neg h2]
  by_cases hk:(l.getD i nd0).kind=3
  ·have:=h3 hk hb
   rw[hk];simpa using this
  ·rw[show((l.getD i nd0).kind != 3)=true from bne_iff_ne.2 hk]
   rfl
theorem VOk.par {t:TSt} (h:VOk t):(t.l.getD t.op nd0).kind=0∨(t.l.getD t.op nd0).kind=1:=h.opk.imp (·.1) id
theorem VOk.add2 {t t':TSt} {kind:Nat} {name text:List UInt8} (h:VOk t) (e:t.add kind name text = .ok t') (hk:1≤kind∧kind≤5) (h2:kind≠2) (ha:allowedS kind name text=true) (hn:name.length≤10000000)
  (h3:kind=3→lastN t.l t.op t.l.length≠0→(t.l.getD (lastN t.l t.op t.l.length) nd0).kind≠3):VOk t':=by
 refine h.add e hk ha hn (placed_other ?_ ?_ ?_)
 ·rw[getD_end,Int.toNat_natCast,getD_app _ h.d.op];exact h.par
 ·rw[getD_end];exact h2
 ·rw[getD_end]
  intro hk3 hb
  have:=lastN_lt t.l t.op t.l.length
  rw[getD_app _ (by have:=h.d.op;omega)]
  exact h3 hk3 hb
theorem VOk.begun {t t':TSt} {name:List UInt8} (h:VOk t) (e:t.add 1 name [] = .ok t') (ha:allowedS 1 name []=true) (hn:name.length≤10000000):VOk { t' with op:=t.l.length,deep:=t.deep+1 }:=by
 have h1:=h.add2 e ⟨by omega,by omega⟩ (by omega) ha hn (fun h3=>absurd h3 (by decide))
 obtain⟨hd,hl,ho,hdeep⟩:=h.d.add e
 have hop:=h.d.op
 have hlen:t'.l.length=t.l.length+1:=by rw[hl];simp
 have hend:t'.l.getD t.l.length nd0=⟨1,name,[],t.op⟩:=by rw[hl,getD_end]
 have huo':UpOk t'.l t.l.length:=hd.upOk (by omega)
 have hz:lastN t'.l t.l.length (t.l.length+1)=0:=lastN_none _ fun k k1 k2=>by
  have:=huo' k (by omega) (by omega)
  omega
 refine⟨h.d.begun e,h1.nodes,.inr ?_,?_,fun p hp1 hp2=>?_,?_⟩
 ·simp only;rw[hend]
 ·simp only;rw[hlen,Nat.add_sub_cancel];exact aboveN_self _ _
 ·simp only at hp1 hp2 ⊢
  rw[aboveN_step huo' hp1,hend,Int.toNat_natCast]at hp2
  rcases Nat.lt_or_ge p t.op with hlt | hge
  ·exact h1.l1 p (by rw[ho];exact hlt) (by rw[ho];exact hp2)
  ·have:=aboveN_le (fun k k1 k2=>huo' k k1 (by omega)) hp2
   have:p=t.op:=by omega
   subst this
   rw[hlen,lastN,if_pos ⟨by omega,by rw[hend]⟩,hend]
   simp
 ·simp only
  rw[hlen,hz]
  intro h3
  rw[h1.d.root]at h3
  exact absurd h3 (by decide)
theorem VOk.attrs (base:List Nd) (el:Nd) (hel:el.kind=1):∀(l seen:List (List UInt8 × List UInt8)) {t t':TSt},VOk t→t.op=base.length→t.l=base++el::seen.map (fun a=>⟨2,a.1,a.2,(base.length:Int)⟩) →
  dupT seen l=false→(∀a∈l,allowedS 2 a.1 a.2=true∧a.1.length≤10000000)→attrsT l t = .ok t'→VOk t'
 | [],_,t,t',h,_,_,_,_,e=>by cases e;exact h
 | a::l,seen,t,t',h,ho,hl,hdup,hal,e=>by
  simp only[attrsT]at e
  split at e
  ·cases e
  rename_i t1 h1
  have ha:=hal a (by simp)
  rw[dupT,Bool.or_eq_false_iff]at hdup
  obtain⟨hd,hl1,ho1,_⟩:=h.d.add h1
  have hlen:t.l.length=base.length+1+seen.length:=by rw[hl];simp;omega
  have hcur:t.l.getD base.length nd0=el:=by rw[hl];simp
  have hs:∀k,k<seen.length→t.l.getD (base.length+1+k) nd0=⟨2,(seen.getD k ([],[])).1,(seen.getD k ([],[])).2,(base.length:Int)⟩:=fun k hk=>by
   rw[hl,List.getD_eq_getElem?_getD,List.getElem?_append_right (by omega),show base.length+1+k-base.length=k+1 by omega,List.getElem?_cons_succ,List.getElem?_map,List.getElem?_eq_getElem hk,List.getD_eq_getElem?_getD,List.getElem?_eq_getElem hk]
   rfl
  have hp:placedN (t.l++[⟨2,a.1,a.2,t.op⟩]) t.l.length (lastN t.l t.op t.l.length)=true:=by
   unfold placedN
   rw[getD_end]
   simp only
   rw[Int.toNat_natCast,getD_app _ h.d.op,ho,hcur,if_neg (by omega)]
   split
   ·rfl
   ·rename_i hb
    simp only[if_true]
    have hbk:((t.l++[(⟨2,a.1,a.2,(base.length:Int)⟩:Nd)]).getD (lastN t.l base.length t.l.length) nd0).kind=2:=by
     have h4:=lastN_up _ hb
     have h5:=lastN_lt t.l base.length t.l.length
     rw[getD_app _ (by omega)]
     generalize lastN t.l base.length t.l.length=q at hb h4 h5
     have h6:base.length<q:=by
      have:=h.d.up q (by omega) (by omega)
      omega
     obtain⟨k,rfl⟩:∃k,q=base.length+1+k:=⟨q-(base.length+1),by omega⟩
     rw[hs k (by omega)]
    have hbk2:=hbk
    rw[hbk2]
    have htk:((t.l++[(⟨2,a.1,a.2,(base.length:Int)⟩:Nd)]).take t.l.length).drop (base.length+1)=seen.map (fun a=>⟨2,a.1,a.2,(base.length:Int)⟩):=by
     rw[List.take_left,hl,List.drop_append,List.drop_eq_nil_of_le (by omega),show base.length+1-base.length=1 by omega]
     rfl
    rw[htk,List.any_map]
    have:=hdup.1
    have e2:((fun y:Nd=>y.name==a.1) ∘ fun a:List UInt8 × List UInt8=>(⟨2,a.1,a.2,(base.length:Int)⟩:Nd))=fun b=>b.1==a.1:=rfl
    rw[e2,this]
    rfl
  have h2:=h.add h1 ⟨by omega,by omega⟩ ha.1 ha.2 hp
  refine VOk.attrs base el hel l (seen++[a]) h2 (ho1.trans ho) ?_ hdup.2 (fun b hb=>hal b (by simp[hb])) e
  rw[hl1,hl,ho]
  simp
theorem VOk.start {t t':TSt} {x:Ev} (h:VOk t) (hx:EvB 10000000 x) (e:startT t x = .ok t'):VOk t':=by
 unfold startT at e
 split at e
 ·cases e
 rename_i h1
 split at e
 ·cases e
 rename_i h2
 split at e
 ·cases e
 rename_i h3
 split at e
 ·cases e
 rename_i t1 h4
 have hl:=(h.d.add h4).2.1
 refine VOk.attrs t.l ⟨1,x.name,[],t.op⟩ rfl x.attrs [] (h.begun h4 (by simpa using h1) hx.1) rfl hl (by simpa using h3) (fun a ha=>⟨?_,(hx.2.2.2.1 a ha).1⟩) e
 have h5:(x.attrs.all fun a=>allowedS 2 a.1 a.2)=true:=by simpa using h2
 exact List.all_eq_true.1 h5 a ha
theorem VOk.end {t t':TSt} {x:Ev} (h:VOk t) (e:endT t x = .ok t'):VOk t':=by
 have hd:=DOk.event (x:=⟨1,x.name,[],[],0,0⟩) h.d (show eventT t ⟨1,x.name,[],[],0,0⟩ = .ok t' from e)
 unfold endT at e
 split at e
 ·cases e
 split at e
 ·cases e
 rename_i hk
 cases e
 have hc:t.cur=t.l.getD t.op nd0:=rfl
 have hk1:(t.l.getD t.op nd0).kind=1:=by rw[←hc];by_cases hh:t.cur.kind=1;exact hh;exact absurd (.inl hh) hk
 have hop:=h.d.op
 have h0:0<t.op:=by
  rcases Nat.eq_zero_or_pos t.op with h0 | h0
  ·rw[h0,h.d.root]at hk1;exact absurd hk1 (by decide)
  ·exact h0
 have hu:=h.d.upOk hop
 have hb:=hu t.op h0 (Nat.le_refl _)
 have hab:=aboveN_up hu h0
 rw[←hc]at hb hab
 refine⟨hd,h.nodes,?_,?_,fun p hp1 hp2=>?_,fun h3=>?_⟩
 ·simp only
  have hp:=(h.nodes t.op hop).placed h0
  unfold placedN at hp
  rw[←hc]at hp
  split at hp
  ·cases hp
  ·rename_i hh
   rw[hc,hk1]at hh
   by_cases hkp:(t.l.getD t.cur.up.toNat nd0).kind=1
   ·exact .inr hkp
   ·have hk0:(t.l.getD t.cur.up.toNat nd0).kind=0:=by
     rw[←hc]at hh
     omega
    rcases Nat.eq_zero_or_pos t.cur.up.toNat with hz | hz
    ·exact .inl ⟨hk0,hz⟩
    ·exact absurd hk0 ((h.nodes _ (by omega)).doc hz)
 ·simp only
  exact aboveN_trans _ _ (Nat.le_refl _) (h.d.upOk (by omega)) hab h.opab
 ·simp only at hp1 hp2 ⊢
  exact h.l1 p (by omega) (aboveN_trans _ _ (Nat.le_refl _) hu hp2 hab)
 ·simp only at h3
  exact absurd h3 (h.l1 _ (by omega) hab)
theorem VOk.text {t t':TSt} {x:Ev} (h:VOk t) (htx:TxOk t) (hx:EvB 10000000 x) (e:textT t x = .ok t'):VOk t':=by
 have hd:=DOk.event (x:=⟨2,[],x.text,[],0,0⟩) h.d (show eventT t ⟨2,[],x.text,[],0,0⟩ = .ok t' from e)
 have hop:=h.d.op
 unfold textT at e
 split at e
 ·cases e
 rename_i hit
 split at e
 ·cases e;exact h
 rename_i hne
 have hit:isTextS x.text=true:=by simpa using hit
 split at e
 ·rename_i h3
  split at e
  ·cases e
  rename_i hbyt
  cases e
  obtain⟨D,x0,hD⟩:∃D x0,t.l=D++[x0]:=by
   rcases List.eq_nil_or_concat t.l with h0 | ⟨D,x0,h0⟩
   ·rw[h0]at hop;simp at hop
   ·exact⟨D,x0,by rw[h0,List.concat_eq_append]⟩
  have hlast:t.last=x0:=by unfold TSt.last;rw[hD];simp
  have hdl:t.l.dropLast=D:=by rw[hD];simp
  have hlen:t.l.length=D.length+1:=by rw[hD];simp
  rw[hlast]at h3
  rw[hlast,hdl]at hd ⊢
  have hx0:t.l.getD D.length nd0=x0:=by rw[hD,getD_end]
  have hlt:D.length<t.l.length:=by omega
  have htl:x0.text.length≤t.bytes:=htx x0 (by rw[hD];simp)
  generalize hm:D++[{ x0 with text:=x0.text++x.text }]=m at hd ⊢
  have hmlen:m.length=t.l.length:=by rw[←hm,hlen];simp
  have hmat:∀k,k≠D.length→m.getD k nd0=t.l.getD k nd0:=fun k hk=>by
   rw[←hm,hD]
   by_cases hk2:k<D.length
   ·rw[getD_app _ hk2,getD_app _ hk2]
   ·rw[List.getD_eq_getElem?_getD,List.getD_eq_getElem?_getD,List.getElem?_eq_none (by simp;omega),List.getElem?_eq_none (by simp;omega)]
  have hmend:m.getD D.length nd0={ x0 with text:=x0.text++x.text }:=by rw[←hm,getD_end]
  have hal:Alike t.l m t.l.length:=fun k hk=>by
   by_cases hkd:k=D.length
   ·subst hkd;rw[hx0,hmend];exact⟨rfl,rfl,rfl⟩
   ·rw[hmat k hkd];exact⟨rfl,rfl,rfl⟩
  have huo:∀i,i<t.l.length→UpOk t.l i:=fun i hi=>h.d.upOk hi
  refine⟨hd,fun i hi=>?_,?_,?_,fun p hp1 hp2=>?_,fun h5=>?_⟩
  ·simp only at hi ⊢
   rw[hmlen]at hi
   have hok:=h.nodes i hi
   by_cases hid:i=D.length
   ·subst hid
    refine hok.congr (huo _ hi) (hal.mono hi) hi (by omega) ?_ ?_
    ·rw[hmend]
     have ha:=hok.allowed
     rw[hx0]at ha
     simp only
     rw[h3.1]at ha ⊢
     simp only[allowedS,Bool.and_eq_true,bne_iff_ne,ne_eq,beq_iff_eq]at ha ⊢
     refine⟨isTextS_cat _ hit _ _ (Nat.le_refl _) ha.1,ha.2.1,?_⟩
     intro h0
     exact ha.2.2 (List.append_eq_nil_iff.1 h0).1
    ·rw[hmend]
     simp only[List.length_append]
     omega
   ·exact hok.congr (huo _ hi) (hal.mono hi) hi (by omega) (by rw[hmat i hid];exact hok.allowed) (by rw[hmat i hid];exact hok.bound.2)
  ·simp only
   rw[←(hal _ hop).1]
   exact h.opk
  ·simp only
   rw[hmlen,←aboveN_congr (huo _ (by omega)) (hal.mono (by omega))]
   exact h.opab
  ·simp only at hp1 hp2 ⊢
   rw[←aboveN_congr (huo _ hop) (hal.mono (by omega))]at hp2
   have:=lastN_lt t.l p t.l.length
   rw[hmlen,←lastN_congr _ hal,←(hal _ (by omega)).1]
   exact h.l1 p hp1 hp2
  ·simp only at h5 ⊢
   have:=lastN_lt t.l t.op t.l.length
   rw[hmlen,←lastN_congr _ hal,←(hal _ (by omega)).1]at h5
   rw[hmlen,←lastN_congr _ hal]
   exact h.l2 h5
 ·rename_i h3
  refine h.add2 e ⟨by omega,by omega⟩ (by omega) ?_ (by simp) fun _ hb hk=>?_
  ·simp only[allowedS,hit,Bool.true_and,Bool.and_eq_true,bne_iff_ne,ne_eq,beq_iff_eq]
   exact⟨trivial,hne⟩
  ·have h6:=h.l2 hk
   have h7:=lastN_up _ hb
   rw[h6]at hk h7
   exact h3 ⟨hk,h7⟩
theorem VOk.event {t t':TSt} {x:Ev} (h:VOk t) (htx:TxOk t) (hx:EvB 10000000 x) (e:eventT t x = .ok t'):VOk t':=by
 have oth:∀k n s,4≤k∧k≤5→n.length≤10000000→otherT t k n s = .ok t'→VOk t':=fun k n s hk hn e=>by
  unfold otherT at e
  split at e
  ·cases e
  ·rename_i ha
   exact h.add2 e ⟨by omega,by omega⟩ (by omega) (by simpa using ha) hn (fun h3=>by omega)
 unfold eventT at e
 split at e
 ·exact h.start hx e
 ·exact h.end e
 ·exact h.text htx hx e
 ·exact oth _ _ _ ⟨by omega,by omega⟩ (by simp) e
 ·exact oth _ _ _ ⟨by omega,by omega⟩ hx.1 e
 ·cases e
theorem VOk.valid {t:TSt} (h:VOk t):ValidN t.l:=
 ⟨by have:=h.d.op;omega,h.d.len,by rw[h.d.root];rfl,fun i hi=>(h.nodes i hi).kind,fun i hi=>(h.nodes i hi).allowed,fun i hi=>(h.nodes i hi).bound,h.d.up,
  fun i h0 hi=>(h.nodes i hi).above h0,fun i h0 hi=>(h.nodes i hi).doc h0,fun i h0 hi=>(h.nodes i hi).placed h0,fun i h0 hi=>(h.nodes i hi).deep h0⟩
end Go.Ab
