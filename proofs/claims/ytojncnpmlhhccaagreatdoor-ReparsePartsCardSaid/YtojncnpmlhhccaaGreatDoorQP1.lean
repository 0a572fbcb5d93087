/- What the reference's Build computes is what tree.Build computes. -/
import Derived.Test.YtojncnpmlhhccaaGreatDoorHT9
import Derived.Test.YtojncnpmlhhccaaGreatDoorHTB
set_option linter.all false
namespace Go.Ab
open Go Go.Lib
def addR (t:TSt) (kind:Nat) (name text:List UInt8):Nat × TSt:=match t.add kind name text with
 | .error e=>(e,t)
 | .ok t'=>(0,t')
def attrsR:List (List UInt8 × List UInt8)→TSt→Nat × TSt
 | [],t=>(0,t)
 | a::l,t=>if(addR t 2 a.1 a.2).1=0 then attrsR l (addR t 2 a.1 a.2).2 else addR t 2 a.1 a.2
def beginR (t:TSt) (x:Ev):Nat × TSt:=
 if allowedS 1 x.name []=false then(1,t)
 else if(x.attrs.all fun a=>allowedS 2 a.1 a.2)=false then(1,t)
 else if ¬(x.attrs.map (·.1)).Nodup then(4,t)
 else if(addR t 1 x.name []).1≠0 then addR t 1 x.name []
 else attrsR x.attrs { (addR t 1 x.name []).2 with op:=t.l.length,deep:=t.deep+1 }
def closeR (t:TSt) (name:List UInt8):Nat × TSt:=
 if isNameS name=false then(1,t)
 else if t.cur.kind≠1∨t.cur.name≠name then(110,t)
 else(0,{ t with op:=t.cur.up.toNat,deep:=t.deep-1 })
def txtR (t:TSt) (text:List UInt8):Nat × TSt:=
 if isTextS text=false then(1,t)
 else if text=[]then(0,t)
 else if t.last.kind=3∧t.last.up=t.op then
  (if 1048576<t.bytes+text.length then(2,t)
  else(0,{ t with l:=t.l.dropLast++[{ t.last with text:=t.last.text++text }],bytes:=t.bytes+text.length }))
 else addR t 3 [] text
def othR (t:TSt) (kind:Nat) (name text:List UInt8):Nat × TSt:=
 if allowedS kind name text=false then(1,t)else addR t kind name text
def evR (t:TSt) (x:Ev):Nat × TSt:=
 match x.kind with
 | 0=>beginR t x
 | 1=>closeR t x.name
 | 2=>txtR t x.text
 | 3=>othR t 4 [] x.text
 | 4=>othR t 5 x.name x.text
 | _=>(1,t)
def SameR (p:Except Nat TSt) (q:Nat × TSt):Prop:=match p with
 | .error e=>q.1=e∧1≤e
 | .ok t'=>q=(0,t')
theorem addR_same (t:TSt) (kind:Nat) (name text:List UInt8):SameR (t.add kind name text) (addR t kind name text):=by
 unfold addR
 cases h:t.add kind name text with
 | error e=>
  refine⟨rfl,?_⟩
  unfold TSt.add at h
  split at h
  ·cases h;decide
  ·cases h
 | ok t'=>rfl
theorem attrsR_same:∀(l:List (List UInt8 × List UInt8)) (t:TSt),SameR (attrsT l t) (attrsR l t)
 | [],t=>rfl
 | a::l,t=>by
  have h:=addR_same t 2 a.1 a.2
  simp only[attrsT,attrsR]
  cases e:t.add 2 a.1 a.2 with
  | error n=>
   rw[e]at h
   simp only[SameR]at h ⊢
   rw[if_neg (by omega)]
   exact h
  | ok t'=>
   rw[e]at h
   simp only[SameR]at h
   rw[h,if_pos rfl]
   exact attrsR_same l t'
theorem dupT_nodup:∀(l seen:List (List UInt8 × List UInt8)),dupT seen l=false↔((l.map (·.1)).Nodup∧∀a∈l,∀b∈seen,b.1≠a.1)
 | [],seen=>by simp[dupT]
 | a::l,seen=>by
  rw[dupT,Bool.or_eq_false_iff,dupT_nodup l (seen++[a])]
  simp only[List.map_cons,List.nodup_cons,List.any_eq_false,beq_iff_eq,List.mem_append,List.mem_singleton,List.mem_cons,List.mem_map,not_exists,not_and,List.not_mem_nil,or_false]
  constructor
  ·rintro⟨h1,h2,h3⟩
   refine⟨⟨fun b hb e=>h3 b hb a (.inr rfl) e.symm,h2⟩,?_⟩
   rintro b (rfl | hb) c hc
   ·exact h1 c hc
   ·exact h3 b hb c (.inl hc)
  ·rintro⟨⟨h1,h2⟩,h3⟩
   refine⟨fun b hb=>h3 a (.inl rfl) b hb,h2,?_⟩
   rintro b hb c (hc | rfl)
   ·exact h3 b (.inr hb) c hc
   ·exact fun e=>h1 b hb e.symm
theorem evR_same (t:TSt) (x:Ev):SameR (eventT t x) (evR t x):=by
 have one:SameR (.error 1) (1,t):=⟨rfl,by decide⟩
 have oth:∀k n s,SameR (otherT t k n s) (othR t k n s):=fun k n s=>by
  unfold otherT othR
  split
  ·exact one
  ·exact addR_same t k n s
 match hk:x.kind with
 | 0=>
  simp only[eventT,evR,hk]
  unfold startT beginR
  split
  ·exact one
  split
  ·exact one
  have hd:dupT [] x.attrs=true↔¬(x.attrs.map (·.1)).Nodup:=by
   have:=dupT_nodup x.attrs []
   simp only[List.not_mem_nil,false_implies,implies_true,and_true]at this
   rw[←this]
   simp
  by_cases hn:dupT [] x.attrs=true
  ·rw[if_pos hn,if_pos (hd.1 hn)]
   exact⟨rfl,by decide⟩
  ·rw[if_neg hn,if_neg (fun h=>hn (hd.2 h))]
   have h:=addR_same t 1 x.name []
   cases e:t.add 1 x.name []with
   | error n=>
    rw[e]at h
    simp only[SameR]at h ⊢
    rw[if_pos (by omega)]
    exact h
   | ok t'=>
    rw[e]at h
    simp only[SameR]at h
    simp only
    rw[h,if_neg (by simp)]
    exact attrsR_same _ _
 | 1=>
  simp only[eventT,evR,hk]
  unfold endT closeR
  split
  ·exact one
  split
  ·exact⟨rfl,by decide⟩
  ·rfl
 | 2=>
  simp only[eventT,evR,hk]
  unfold textT txtR
  split
  ·exact one
  split
  ·rfl
  split
  ·split
   ·exact⟨rfl,by decide⟩
   ·rfl
  ·exact addR_same _ _ _ _
 | 3=>simp only[eventT,evR,hk];exact oth _ _ _
 | 4=>simp only[eventT,evR,hk];exact oth _ _ _
 | n+5=>simp only[eventT,evR,hk];exact one
structure DOk (t:TSt):Prop where
 up:∀k,0<k→k<t.l.length→0≤(t.l.getD k nd0).up∧(t.l.getD k nd0).up<k
 op:t.op<t.l.length
 root:t.l.getD 0 nd0=nd0
 len:t.l.length≤65536
 bytes:t.bytes≤1048576
 deep:t.deep=(depN t.l t.op t.op:Int)
theorem DOk.upOk {t:TSt} (h:DOk t) {i:Nat} (hi:i<t.l.length):UpOk t.l i:=fun k k1 k2=>h.up k k1 (by omega)
theorem depN_congr {l m:List Nd}:∀(f i:Nat),UpOk l i→(∀k,k≤i→(l.getD k nd0).up=(m.getD k nd0).up)→depN l f i=depN m f i
 | 0,_,_,_=>rfl
 | f+1,i,h,he=>by
  simp only[depN]
  split
  ·rfl
  ·have hi:=h i (by omega) (Nat.le_refl _)
   rw[he i (Nat.le_refl _)]at hi ⊢
   rw[depN_congr f (m.getD i nd0).up.toNat (fun k k1 k2=>h k k1 (by omega)) (fun k hk=>he k (by omega))]
theorem getD_app {l:List Nd} (m:List Nd) {k:Nat} (h:k<l.length):(l++m).getD k nd0=l.getD k nd0:=by
 rw[List.getD_eq_getElem?_getD,List.getD_eq_getElem?_getD,List.getElem?_append_left h]
theorem getD_end (l:List Nd) (x:Nd):(l++[x]).getD l.length nd0=x:=by
 rw[List.getD_eq_getElem?_getD,List.getElem?_append_right (Nat.le_refl _)]
 simp
theorem DOk.add {t t':TSt} {kind:Nat} {name text:List UInt8} (h:DOk t) (e:t.add kind name text = .ok t'):DOk t'∧t'.l=t.l++[⟨kind,name,text,t.op⟩]∧t'.op=t.op∧t'.deep=t.deep:=by
 unfold TSt.add at e
 split at e
 ·cases e
 rename_i hn
 cases e
 have hop:=h.op
 refine⟨⟨fun k k1 k2=>?_,?_,?_,?_,?_,?_⟩,rfl,rfl,rfl⟩
 ·simp only[List.length_append,List.length_singleton]at k2
  simp only
  by_cases hk:k<t.l.length
  ·rw[getD_app _ hk];exact h.up k k1 hk
  ·have:k=t.l.length:=by omega
   subst this
   rw[getD_end]
   simp only
   omega
 ·simp only[List.length_append,List.length_singleton];omega
 ·simp only;rw[getD_app _ (by omega)];exact h.root
 ·simp only[List.length_append,List.length_singleton];omega
 ·simp only;omega
 ·simp only
  rw[h.deep]
  congr 1
  exact depN_congr _ _ (h.upOk hop) fun k hk=>by rw[getD_app _ (by omega)]
theorem DOk.attrs:∀(l:List (List UInt8 × List UInt8)) {t t':TSt},DOk t→attrsT l t = .ok t'→DOk t'
 | [],t,t',h,e=>by cases e;exact h
 | a::l,t,t',h,e=>by
  simp only[attrsT]at e
  split at e
  ·cases e
  ·rename_i t1 h1
   exact DOk.attrs l (h.add h1).1 e
theorem DOk.begun {t t':TSt} {name:List UInt8} (h:DOk t) (e:t.add 1 name [] = .ok t'):DOk { t' with op:=t.l.length,deep:=t.deep+1 }:=by
 obtain⟨h1,h2,h3,h4⟩:=h.add e
 have hop:=h.op
 have hl:t'.l.length=t.l.length+1:=by rw[h2];simp
 refine⟨h1.up,by simp only;omega,h1.root,h1.len,h1.bytes,?_⟩
 simp only
 rw[h.deep]
 have hu:(t'.l.getD t.l.length nd0).up=t.op:=by rw[h2,getD_end]
 have hst:=depN_step (l:=t'.l) (i:=t.l.length) (h1.upOk (by omega)) (by omega)
 rw[hst,hu,Int.toNat_natCast]
 have:depN t'.l t.op t.op=depN t.l t.op t.op:=by
  rw[h2]
  exact(depN_congr _ _ (h.upOk hop) fun k hk=>by rw[getD_app _ (by omega)]).symm
 rw[this]
 omega
theorem DOk.event {t t':TSt} {x:Ev} (h:DOk t) (e:eventT t x = .ok t'):DOk t':=by
 have hop:=h.op
 have oth:∀k n s,otherT t k n s = .ok t'→DOk t':=fun k n s e=>by
  unfold otherT at e
  split at e
  ·cases e
  ·exact(h.add e).1
 unfold eventT at e
 split at e
 ·unfold startT at e
  split at e
  ·cases e
  split at e
  ·cases e
  split at e
  ·cases e
  split at e
  ·cases e
  ·rename_i t1 h1
   exact DOk.attrs _ (h.begun h1) e
 ·unfold endT at e
  split at e
  ·cases e
  split at e
  ·cases e
  rename_i hk
  cases e
  have hkind:t.cur.kind=1:=by
   by_cases hh:t.cur.kind=1
   ·exact hh
   ·exact absurd (.inl hh) hk
  have h0:0<t.op:=by
   rcases Nat.eq_zero_or_pos t.op with h0 | h0
   ·unfold TSt.cur at hkind
    rw[h0,h.root]at hkind
    cases hkind
   ·exact h0
  have hb:=h.up t.op h0 hop
  have hc:t.cur=t.l.getD t.op nd0:=rfl
  refine⟨h.up,by simp only;rw[hc];omega,h.root,h.len,h.bytes,?_⟩
  simp only
  rw[h.deep,depN_step (h.upOk hop) h0,hc]
  omega
 ·unfold textT at e
  split at e
  ·cases e
  split at e
  ·cases e;exact h
  split at e
  ·split at e
   ·cases e
   ·rename_i h3 hbyt
    cases e
    obtain⟨D,x0,hD⟩:∃D x0,t.l=D++[x0]:=by
     rcases List.eq_nil_or_concat t.l with h0 | ⟨D,x0,h0⟩
     ·rw[h0]at hop;simp at hop
     ·exact⟨D,x0,by rw[h0,List.concat_eq_append]⟩
    have hlast:t.last=x0:=by unfold TSt.last;rw[hD];simp
    have hdl:t.l.dropLast=D:=by rw[hD];simp
    have hlen:t.l.length=D.length+1:=by rw[hD];simp
    have hup:∀k,((D++[{ x0 with text:=x0.text++x.text }]).getD k nd0).up=(t.l.getD k nd0).up:=fun k=>by
     rw[hD]
     by_cases hk:k<D.length
     ·rw[getD_app _ hk,getD_app _ hk]
     ·by_cases hk2:k=D.length
      ·subst hk2;rw[getD_end,getD_end]
      ·rw[List.getD_eq_getElem?_getD,List.getD_eq_getElem?_getD,List.getElem?_eq_none (by simp;omega),List.getElem?_eq_none (by simp;omega)]
    rw[hlast]at h3 ⊢
    rw[hdl]
    refine⟨fun k k1 k2=>?_,?_,?_,?_,?_,?_⟩
    ·simp only[List.length_append,List.length_singleton]at k2
     simp only
     rw[hup]
     exact h.up k k1 (by omega)
    ·simp only[List.length_append,List.length_singleton];omega
    ·simp only
     have hr:=h.root
     rw[hD]at hr
     cases D with
     | nil=>
      simp at hr
      subst hr
      exact absurd h3.1 (by decide)
     | cons y D=>simpa using hr
    ·have:=h.len
     simp only[List.length_append,List.length_singleton];omega
    ·simp only;omega
    ·simp only
     rw[h.deep]
     congr 1
     exact depN_congr _ _ (h.upOk hop) fun k hk=>(hup k).symm
  ·exact(h.add e).1
 ·exact oth _ _ _ e
 ·exact oth _ _ _ e
 ·cases e
theorem DOk.init:DOk t0T:=⟨fun k k1 k2=>by simp[t0T]at k2;omega,by decide,rfl,by decide,by decide,rfl⟩
theorem readHL_EvB {N:Nat}:∀(n:Nat) (h:HSt) {l:List Ev},h.s.length≤n→readHL h = .ok l→(∀x∈h.l,EvB N x)→h.s.length≤N→(∀x∈l,EvB N x)∧l.length≤h.l.length+2*h.s.length
 | n,h,l,hn,e,hl,hN=>by
  rw[readHL_step]at e
  split at e
  ·split at e
   ·cases e;exact⟨hl,by omega⟩
   ·cases e
  ·rename_i hne
   split at e
   ·cases e
   ·rename_i h' he
    obtain⟨h1,h2,_⟩:=pieceHS_less hne he
    have hb:=pieceHS_EvB he
    cases n with
    | zero=>
     exfalso
     have:h.s=[]:=List.length_eq_zero_iff.1 (by omega)
     exact hne this
    | succ n=>
     obtain⟨g1,g2⟩:=readHL_EvB n h' (by omega) e (fun x hx=>by
      rcases hb x hx with hx | hx
      ·exact hl x hx
      ·exact hx.mono hN) (by omega)
     exact⟨g1,by omega⟩
theorem eventsHS_EvB {s:List UInt8} {l:List Ev} (e:eventsHS s = .ok l):(∀x∈l,EvB s.length x)∧l.length≤2*s.length:=by
 have hl:=Lib.trimPrefix_le s sDoct
 obtain⟨h1,h2⟩:=readHL_EvB (N:=s.length) _ ⟨Lib.trimPrefix s sDoct,[],[]⟩ (Nat.le_refl _) e (by simp) hl
 simp only[List.length_nil]at h2
 exact⟨h1,by omega⟩
end Go.Ab
