/- Two HTML texts, one after the other: pieces. Two HTML texts, one after the other: tags and pieces. Two HTML texts, one after the other: events. Texts that meet are one text in the tree; how many nodes and bytes a tree has. The tree of two texts, one after the other, out of their trees. Two HTML texts, one after the other: nodes and string value. -/
import Derived.Test.YtojncnpmlhhccaaGreatDoorHC
import Derived.Test.YtojncnpmlhhccaaGreatDoorVNA
import Derived.Test.YtojncnpmlhhccaaGreatDoorHTC
set_option linter.all false
namespace Go.Ab
open Go Go.Lib
end Go.Ab
namespace Go.Ab
open Go Go.Lib
end Go.Ab
namespace Go.Ab
open Go Go.Lib
def evT (x:List UInt8):Ev:=⟨2,[],x,[],0,0⟩
def Joined (la lb l:List Ev):Prop:=l=la++lb∨∃l0 x y l1,la=l0++[evT x]∧lb=evT y::l1∧l=l0++evT (x++y)::l1
end Go.Ab
namespace Go.Ab
open Go Go.Lib
theorem foldT_app:∀(l m:List Ev) (t:TSt),foldT (l++m) t=match foldT l t with | .error e => .error e | .ok t'=>foldT m t'
 | [],m,t=>rfl
 | x::l,m,t=>by
  simp only[List.cons_append,foldT]
  cases h:eventT t x with
  | error e=>rfl
  | ok t1=>exact foldT_app l m t1
def atrW (l:List (List UInt8 × List UInt8)):Nat:=(l.map fun a=>1+a.2.length).sum
def TSt.sz (t:TSt):Nat:=t.l.length+t.bytes
theorem sz_add {t t':TSt} {kind:Nat} {name text:List UInt8} (e:t.add kind name text = .ok t'):t'.sz=t.sz+1+text.length:=by
 unfold TSt.add at e
 split at e
 ·cases e
 ·cases e
  simp only[TSt.sz,List.length_append,List.length_singleton]
  omega
theorem sz_attrs:∀(l:List (List UInt8 × List UInt8)) {t t':TSt},attrsT l t = .ok t'→t'.sz=t.sz+atrW l
 | [],t,t',e=>by cases e;rfl
 | a::l,t,t',e=>by
  simp only[attrsT]at e
  split at e
  ·cases e
  ·rename_i t1 h1
   rw[sz_attrs l e,sz_add h1]
   simp only[atrW,List.map_cons,List.sum_cons]
   omega
end Go.Ab
namespace Go.Ab
open Go Go.Lib
def shU (m:Nat) (i:Int):Int:=if i≤0 then i else i+m
def shN (m:Nat) (x:Nd):Nd:={ x with up:=shU m x.up }
def shO (m k:Nat):Nat:=if k=0 then 0 else k+m
theorem shO_U (m k:Nat):((shO m k:Nat):Int)=shU m k:=by
 unfold shO shU
 by_cases h:k=0
 ·subst h;simp
 ·rw[if_neg h,if_neg (by omega)];simp
theorem shU_toNat {m:Nat} {i:Int} (h:0≤i):(shU m i).toNat=shO m i.toNat:=by
 obtain⟨k,rfl⟩:∃k:Nat,i=k:=⟨i.toNat,by omega⟩
 rw[←shO_U];simp
theorem shU_inj {m k:Nat} {i:Int} (hi:0≤i) (h:shU m i=((shO m k:Nat):Int)):i=k:=by
 unfold shU shO at h
 split at h<;>split at h<;>omega
def Fuse (t:TSt):Prop:=t.last.kind=3∧t.last.up=0
structure Glue (t s s':TSt) (d m:Nat) (B:List Nd):Prop where
 l:s'.l=B++(s.l.drop d).map (shN m)
 len:B.length=d+m
 d1:1≤d∧d≤s.l.length
 op:s'.op=shO m s.op
 opd:s.op=0∨d≤s.op
 deep:s'.deep=s.deep
 bytes:s'.bytes=t.bytes+s.bytes
 par:∀k,d≤k→k<s.l.length→(s.l.getD k nd0).up=0∨(d:Int)≤(s.l.getD k nd0).up
 kind:(d=1∧B=t.l∧(1<s.l.length→Fuse t→(s.l.getD 1 nd0).kind≠3)) ∨
  (d=2∧Fuse t∧(s.l.getD 1 nd0).kind=3∧(s.l.getD 1 nd0).up=0∧B=t.l.dropLast++[{ t.last with text:=t.last.text++(s.l.getD 1 nd0).text }])
theorem Glue.length {t s s':TSt} {d m:Nat} {B:List Nd} (h:Glue t s s' d m B):s'.l.length=s.l.length+m:=by
 have h1:=h.d1
 have h2:=h.len
 rw[h.l,List.length_append,List.length_map,List.length_drop]
 omega
theorem Glue.at {t s s':TSt} {d m:Nat} {B:List Nd} (h:Glue t s s' d m B) {k:Nat} (hd:d≤k) (hk:k<s.l.length):s'.l.getD (k+m) nd0=shN m (s.l.getD k nd0):=by
 have h2:=h.len
 rw[h.l,List.getD_eq_getElem?_getD,List.getElem?_append_right (by omega),h2,show k+m-(d+m)=k-d by omega,List.getElem?_map,List.getElem?_drop,show d+(k-d)=k by omega,List.getElem?_eq_getElem hk,nd_getD hk]
 rfl
theorem Glue.add {t s s' s1:TSt} {d m:Nat} {B:List Nd} {kind:Nat} {name text:List UInt8} (h:Glue t s s' d m B) (e:s.add kind name text = .ok s1) (hk:1<s.l.length∨kind≠3∨¬Fuse t) (hb:s1.sz≤20000) (hm:m≤20000) (ht:t.bytes≤20000) :
  ∃s1',s'.add kind name text = .ok s1'∧Glue t s1 s1' d m B:=by
 have hsz:=sz_add e
 have hl:=h.length
 have hd1:=h.d1
 have hbt:=h.bytes
 have hdp:=h.deep
 unfold TSt.add at e
 split at e
 ·cases e
 rename_i hg
 cases e
 simp only[TSt.sz,List.length_append,List.length_singleton]at hb
 refine⟨_,by unfold TSt.add;rw[if_neg (by rw[hl,hbt,hdp];omega)],?_⟩
 refine⟨?_,h.len,?_,h.op,h.opd,h.deep,?_,fun k h1 h2=>?_,?_⟩
 ·simp only
  rw[h.l,List.drop_append_of_le_length hd1.2,List.map_append,←List.append_assoc]
  congr 1
  simp only[List.map_cons,List.map_nil,shN,h.op,shO_U]
 ·simp only[List.length_append,List.length_singleton];omega
 ·simp only;omega
 ·simp only[List.length_append,List.length_singleton]at h2
  simp only
  by_cases hlt:k<s.l.length
  ·rw[getD_app _ hlt];exact h.par k h1 hlt
  ·have:k=s.l.length:=by omega
   subst this
   rw[getD_end]
   simp only
   have:=h.opd
   omega
 ·simp only
  rcases h.kind with ⟨k1,k2,k3⟩ | ⟨k1,k2,k3,k4,k5⟩
  ·left
   refine⟨k1,k2,fun _ hf=>?_⟩
   by_cases h1:1<s.l.length
   ·rw[getD_app _ h1];exact k3 h1 hf
   ·have:s.l.length=1:=by omega
    have e1:(s.l++[(⟨kind,name,text,s.op⟩:Nd)]).getD 1 nd0=⟨kind,name,text,s.op⟩:=by rw[←this,getD_end]
    rw[e1]
    rcases hk with hk | hk | hk
    ·exact absurd hk h1
    ·exact hk
    ·exact absurd hf hk
  ·right
   rw[getD_app _ (by omega)]
   exact⟨k1,k2,k3,k4,k5⟩
theorem Glue.attrs {t:TSt} {d m:Nat} {B:List Nd} (hm:m≤20000) (ht:t.bytes≤20000):∀(l:List (List UInt8 × List UInt8)) {s s' s1:TSt},Glue t s s' d m B→attrsT l s = .ok s1→1<s.l.length→s1.sz≤20000 →
  ∃s1',attrsT l s' = .ok s1'∧Glue t s1 s1' d m B
 | [],s,s',s1,h,e,_,_=>by cases e;exact⟨s',rfl,h⟩
 | a::l,s,s',s1,h,e,h1,hb=>by
  simp only[attrsT]at e ⊢
  cases ha:s.add 2 a.1 a.2 with
  | error c=>rw[ha]at e;cases e
  | ok s2=>
   rw[ha]at e
   have hsz:=sz_attrs l e
   obtain⟨s2',g1,g2⟩:=h.add ha (.inl h1) (by omega) hm ht
   rw[g1]
   have hl2:1<s2.l.length:=by
    unfold TSt.add at ha
    split at ha
    ·cases ha
    ·cases ha;simp only[List.length_append,List.length_singleton];omega
   exact Glue.attrs hm ht l g2 e hl2 hb
theorem Glue.start {t s s' s1:TSt} {d m:Nat} {B:List Nd} {x:Ev} (h:Glue t s s' d m B) (e:startT s x = .ok s1) (hb:s1.sz≤20000) (hm:m≤20000) (ht:t.bytes≤20000) :
  ∃s1',startT s' x = .ok s1'∧Glue t s1 s1' d m B:=by
 have hd1:=h.d1
 have hl:=h.length
 unfold startT at e ⊢
 split at e
 ·cases e
 rename_i h1
 split at e
 ·cases e
 rename_i h2
 split at e
 ·cases e
 rename_i h3
 rw[if_neg h1,if_neg h2,if_neg h3]
 cases ha:s.add 1 x.name []with
 | error c=>rw[ha]at e;cases e
 | ok s2=>
  rw[ha]at e
  simp only at e
  have hsz:=sz_attrs _ e
  have hsz2:({ s2 with op:=s.l.length,deep:=s.deep+1 }:TSt).sz=s2.sz:=rfl
  obtain⟨s2',g1,g2⟩:=h.add ha (.inr (.inl (by decide))) (by omega) hm ht
  rw[g1]
  simp only
  have hl2:s2.l.length=s.l.length+1:=by
   unfold TSt.add at ha
   split at ha
   ·cases ha
   ·cases ha;simp
  refine Glue.attrs hm ht _ ?_ e (by simp only;omega) hb
  refine⟨g2.l,g2.len,g2.d1,?_,.inr hd1.2,?_,g2.bytes,g2.par,g2.kind⟩
  ·simp only
   rw[hl]
   unfold shO
   rw[if_neg (by omega)]
  ·simp only
   rw[h.deep]
theorem Glue.end {t s s' s1:TSt} {d m:Nat} {B:List Nd} {x:Ev} (h:Glue t s s' d m B) (hd:DOk s) (e:endT s x = .ok s1) :
  ∃s1',endT s' x = .ok s1'∧Glue t s1 s1' d m B:=by
 unfold endT at e ⊢
 split at e
 ·cases e
 rename_i h1
 split at e
 ·cases e
 rename_i h2
 cases e
 rw[if_neg h1]
 have hop:=hd.op
 have h0:s.op≠0:=by
  intro h0
  have:s.cur=nd0:=by unfold TSt.cur;rw[h0,hd.root]
  rw[this]at h2
  exact h2 (.inl (by decide))
 have hge:d≤s.op:=h.opd.resolve_left h0
 have hcur:s'.cur=shN m s.cur:=by
  unfold TSt.cur
  rw[h.op,show shO m s.op=s.op+m from if_neg h0]
  exact h.at hge hop
 have hu:=hd.up s.op (by omega) hop
 have hpar:=h.par s.op hge hop
 have hcu:(s.l.getD s.op nd0)=s.cur:=rfl
 rw[hcu]at hu hpar
 rw[hcur,if_neg (show ¬((shN m s.cur).kind≠1∨(shN m s.cur).name≠x.name)from h2)]
 refine⟨_,rfl,⟨h.l,h.len,h.d1,?_,?_,?_,h.bytes,h.par,h.kind⟩⟩
 ·simp only[shN]
  exact shU_toNat hu.1
 ·simp only;omega
 ·simp only;rw[h.deep]
theorem last_end {t:TSt} {D:List Nd} {x:Nd} (h:t.l=D++[x]):t.last=x∧t.l.dropLast=D:=by
 constructor
 ·unfold TSt.last
  rw[h,List.length_append,List.length_singleton,Nat.add_sub_cancel,getD_end]
 ·rw[h,List.dropLast_concat]
theorem Glue.text {t s s' s1:TSt} {d m:Nat} {B:List Nd} {x:Ev} (h:Glue t s s' d m B) (hd:DOk s) (hdt:t.l.getD 0 nd0=nd0) (e:textT s x = .ok s1) (hb:s1.sz≤20000) (hm:m≤20000) (ht:t.bytes≤20000) :
  ∃s1' d' m' B',textT s' x = .ok s1'∧Glue t s1 s1' d' m' B'∧m'≤20000:=by
 have hd1:=h.d1
 have hl:=h.length
 have hlen:=h.len
 have hop:=hd.op
 have hbt:=h.bytes
 unfold textT at e ⊢
 split at e
 ·cases e
 rename_i h1
 rw[if_neg h1]
 split at e
 ·rename_i h2
  cases e
  rw[if_pos h2]
  exact⟨s',d,m,B,rfl,h,hm⟩
 rename_i h2
 rw[if_neg h2]
 obtain⟨D,x0,hD⟩:∃D x0,s.l=D++[x0]:=by
  rcases List.eq_nil_or_concat s.l with h0 | ⟨D,x0,h0⟩
  ·rw[h0]at hop;simp at hop
  ·exact⟨D,x0,by rw[h0,List.concat_eq_append]⟩
 obtain⟨hlast,hdrop⟩:=last_end hD
 have hDl:s.l.length=D.length+1:=by rw[hD];simp
 have hlast':d<s.l.length→s'.last=shN m x0:=fun hlt=>by
  have:=h.at (k:=D.length) (by omega) (by omega)
  unfold TSt.last
  rw[hl,show s.l.length+m-1=D.length+m by omega,this,hD,getD_end]
 split at e
 ·rename_i h3
  split at e
  ·cases e
  rename_i h4
  cases e
  rw[hlast]at h3 hb ⊢
  rw[hdrop]at hb ⊢
  simp only[TSt.sz,List.length_append,List.length_singleton]at hb
  by_cases hlt:d<s.l.length
  ·rw[hlast' hlt]
   have hcond:(shN m x0).kind=3∧(shN m x0).up=(s'.op:Int):=⟨h3.1,by rw[h.op,shO_U];simp only[shN];rw[h3.2]⟩
   rw[if_pos hcond,if_neg (by omega)]
   refine⟨_,d,m,B,rfl,⟨?_,hlen,?_,h.op,h.opd,h.deep,?_,fun k k1 k2=>?_,?_⟩,hm⟩
   ·simp only
    rw[h.l,hD,List.drop_append_of_le_length (by omega),List.map_append,←List.append_assoc,List.map_cons,List.map_nil,List.dropLast_concat]
    rw[List.drop_append_of_le_length (by omega),List.map_append,←List.append_assoc]
    rfl
   ·simp only[List.length_append,List.length_singleton];omega
   ·simp only;omega
   ·simp only[List.length_append,List.length_singleton]at k2
    simp only
    have hp:=h.par k k1 (by omega)
    rw[hD]at hp
    by_cases hk:k<D.length
    ·rw[getD_app _ hk]at hp ⊢;exact hp
    ·have:k=D.length:=by omega
     subst this
     rw[getD_end]at hp ⊢
     exact hp
   ·simp only
    have h1k:1<s.l.length→((D++[({ x0 with text:=x0.text++x.text }:Nd)]).getD 1 nd0).kind=(s.l.getD 1 nd0).kind:=fun h1l=>by
     rw[hD]
     by_cases hk:1<D.length
     ·rw[getD_app _ hk,getD_app _ hk]
     ·have:D.length=1:=by omega
      rw[←this,getD_end,getD_end]
    rcases h.kind with ⟨k1,k2,k3⟩ | ⟨k1,k2,k3,k4,k5⟩
    ·left
     refine⟨k1,k2,fun hh hf=>?_⟩
     simp only[List.length_append,List.length_singleton]at hh
     rw[h1k (by omega)]
     exact k3 (by omega) hf
    ·right
     rw[hD]at k3 k4 k5
     rw[getD_app _ (by omega)]at k3 k4 k5 ⊢
     exact⟨k1,k2,k3,k4,k5⟩
  ·have hde:d=s.l.length:=by omega
   rcases h.kind with ⟨k1,k2,k3⟩ | ⟨k1,k2,k3,k4,k5⟩
   ·exfalso
    have hr:=hd.root
    rw[hD]at hr
    have:D=[]:=List.length_eq_zero_iff.1 (by omega)
    rw[this]at hr
    simp at hr
    rw[hr]at h3
    exact absurd h3.1 (by decide)
   ·have hD1:D.length=1:=by omega
    have hn1:s.l.getD 1 nd0=x0:=by rw[hD,←hD1,getD_end]
    rw[hn1]at k3 k4 k5
    have hs':s'.l=t.l.dropLast++[{ t.last with text:=t.last.text++x0.text }]:=by
     rw[h.l,List.drop_eq_nil_of_le (by omega),k5];simp
    obtain⟨e1,e2⟩:=last_end hs'
    have hsop:s.op=0:=by have:=h.opd;omega
    have hcond:({ t.last with text:=t.last.text++x0.text }:Nd).kind=3∧({ t.last with text:=t.last.text++x0.text }:Nd).up=(s'.op:Int):=⟨k2.1,by
     rw[h.op,hsop];exact k2.2⟩
    rw[e1,if_pos hcond,if_neg (by omega),e2]
    have hnew:(D++[({ x0 with text:=x0.text++x.text }:Nd)]).getD 1 nd0={ x0 with text:=x0.text++x.text }:=by rw[←hD1,getD_end]
    refine⟨_,2,m,t.l.dropLast++[{ t.last with text:=t.last.text++x0.text++x.text }],rfl,⟨?_,?_,?_,h.op,.inl hsop,h.deep,?_,fun k q1 q2=>?_,?_⟩,hm⟩
    ·simp only
     rw[List.drop_eq_nil_of_le (by simp;omega)]
     simp
    ·rw[k5]at hlen
     simp only[List.length_append,List.length_singleton]at hlen ⊢
     omega
    ·simp only[List.length_append,List.length_singleton];omega
    ·simp only;omega
    ·simp only[List.length_append,List.length_singleton]at q2
     omega
    ·right
     simp only
     rw[hnew]
     refine⟨trivial,k2,k3,k4,?_⟩
     simp only[List.append_assoc]
 ·rename_i h3
  rw[hlast]at h3
  by_cases hlt:d<s.l.length
  ·rw[hlast' hlt]
   have hx0u:0≤x0.up:=by
    have:=hd.up D.length (by omega) (by omega)
    rw[hD,getD_end]at this
    exact this.1
   have hcond:¬((shN m x0).kind=3∧(shN m x0).up=(s'.op:Int)):=by
    rintro⟨q1,q2⟩
    refine h3 ⟨q1,?_⟩
    rw[h.op]at q2
    exact shU_inj hx0u q2
   rw[if_neg hcond]
   obtain⟨s1',g1,g2⟩:=h.add e (.inl (by omega)) hb hm ht
   exact⟨s1',d,m,B,g1,g2,hm⟩
  ·have hde:d=s.l.length:=by omega
   rcases h.kind with ⟨k1,k2,k3⟩ | ⟨k1,k2,k3,k4,k5⟩
   ·have hs':s'.l=t.l:=by rw[h.l,List.drop_eq_nil_of_le (by omega),k2];simp
    have hsop:s.op=0:=by omega
    have hs'op:s'.op=0:=by rw[h.op,hsop];rfl
    have hlt':s'.last=t.last:=by unfold TSt.last;rw[hs']
    by_cases hf:Fuse t
    ·rw[hlt',hs'op]
     have hcond:t.last.kind=3∧t.last.up=((0:Nat):Int):=hf
     have hsz:=sz_add e
     simp only[TSt.sz]at hsz hb
     rw[if_pos hcond,if_neg (by omega),hs']
     have htl:2≤t.l.length:=by
      rcases Nat.lt_or_ge t.l.length 2 with hlt2 | hge
      ·exfalso
       have:t.last=nd0:=by
        unfold TSt.last
        rw[show t.l.length-1=0 by omega]
        exact hdt
       have hf1:=hf.1
       rw[this]at hf1
       exact absurd hf1 (by decide)
      ·exact hge
     have hB:B.length=t.l.length:=by rw[k2]
     unfold TSt.add at e
     split at e
     ·cases e
     cases e
     have hD0:s.l.length=1:=by omega
     have hnew:(s.l++[(⟨3,[],x.text,s.op⟩:Nd)]).getD 1 nd0=⟨3,[],x.text,s.op⟩:=by rw[←hD0,getD_end]
     refine⟨_,2,m-1,t.l.dropLast++[{ t.last with text:=t.last.text++x.text }],rfl,⟨?_,?_,?_,?_,.inl hsop,h.deep,?_,fun k q1 q2=>?_,?_⟩,by omega⟩
     ·simp only
      rw[List.drop_eq_nil_of_le (by simp;omega)]
      simp
     ·simp only[List.length_append,List.length_dropLast,List.length_singleton]
      omega
     ·simp only[List.length_append,List.length_singleton];omega
     ·simp only;rw[hsop];rfl
     ·simp only;omega
     ·simp only[List.length_append,List.length_singleton]at q2
      omega
     ·right
      simp only
      rw[hnew]
      refine⟨trivial,hf,rfl,?_,rfl⟩
      simp only[hsop];rfl
    ·have hcond:¬(s'.last.kind=3∧s'.last.up=(s'.op:Int)):=by
      rw[hlt',hs'op]
      exact hf
     rw[if_neg hcond]
     obtain⟨s1',g1,g2⟩:=h.add e (.inr (.inr hf)) hb hm ht
     exact⟨s1',d,m,B,g1,g2,hm⟩
   ·exfalso
    have hD1:D.length=1:=by omega
    have hn1:s.l.getD 1 nd0=x0:=by rw[hD,←hD1,getD_end]
    rw[hn1]at k3 k4
    have hsop:s.op=0:=by have:=h.opd;omega
    exact h3 ⟨k3,by rw[hsop];exact k4⟩
theorem Glue.event {t s s' s1:TSt} {d m:Nat} {B:List Nd} {x:Ev} (h:Glue t s s' d m B) (hd:DOk s) (hdt:t.l.getD 0 nd0=nd0) (e:eventT s x = .ok s1) (hb:s1.sz≤20000) (hm:m≤20000) (ht:t.bytes≤20000) :
  ∃s1' d' m' B',eventT s' x = .ok s1'∧Glue t s1 s1' d' m' B'∧m'≤20000:=by
 have oth:∀k n w,k≠3→otherT s k n w = .ok s1→∃s1' d' m' B',otherT s' k n w = .ok s1'∧Glue t s1 s1' d' m' B'∧m'≤20000:=fun k n w hk e=>by
  unfold otherT at e ⊢
  split at e
  ·cases e
  ·rename_i h1
   rw[if_neg h1]
   obtain⟨s1',g1,g2⟩:=h.add e (.inr (.inl hk)) hb hm ht
   exact⟨s1',d,m,B,g1,g2,hm⟩
 unfold eventT at e ⊢
 split at e
 ·obtain⟨s1',g1,g2⟩:=h.start e hb hm ht
  exact⟨s1',d,m,B,g1,g2,hm⟩
 ·obtain⟨s1',g1,g2⟩:=h.end hd e
  exact⟨s1',d,m,B,g1,g2,hm⟩
 ·exact h.text hd hdt e hb hm ht
 ·exact oth _ _ _ (by decide) e
 ·exact oth _ _ _ (by decide) e
 ·cases e
theorem Glue.init {t:TSt} (hd:DOk t) (ho:t.op=0):Glue t t0T t 1 (t.l.length-1) t.l:=by
 have hop:=hd.op
 refine⟨by simp[t0T],by omega,by decide,ho,.inl rfl,?_,by simp[t0T],fun k k1 k2=>?_,.inl ⟨rfl,rfl,fun h=>?_⟩⟩
 ·rw[hd.deep,ho];rfl
 ·simp[t0T]at k2;omega
 ·simp[t0T]at h
end Go.Ab
namespace Go.Ab
open Go Go.Lib
end Go.Ab
