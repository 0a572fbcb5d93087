/- The texts of a tree have as many bytes as were counted; its string value. -/
import Derived.Test.YtojncnpmlhhccaaGreatDoorPL6
set_option linter.all false
namespace Go.Ab
open Go Go.Lib Go.Proofs
theorem sum_add {t t':TSt} {kind:Nat} {name text:List UInt8} (h:textSum t.l=t.bytes) (e:t.add kind name text = .ok t'):textSum t'.l=t'.bytes:=by
 unfold TSt.add at e
 split at e
 ·cases e
 ·cases e
  simp only[textSum_app,textSum,h]
  omega
theorem sum_attrs:∀(l:List (List UInt8 × List UInt8)) {t t':TSt},textSum t.l=t.bytes→attrsT l t = .ok t'→textSum t'.l=t'.bytes
 | [],t,t',h,e=>by cases e;exact h
 | a::l,t,t',h,e=>by
  simp only[attrsT]at e
  split at e
  ·cases e
  ·rename_i t1 h1
   exact sum_attrs l (sum_add h h1) e
theorem sum_event {t t':TSt} {x:Ev} (ht:1≤t.l.length) (h:textSum t.l=t.bytes) (e:eventT t x = .ok t'):textSum t'.l=t'.bytes:=by
 have oth:∀k n s,otherT t k n s = .ok t'→textSum t'.l=t'.bytes:=fun k n s e=>by
  unfold otherT at e
  split at e
  ·cases e
  ·exact sum_add h e
 unfold eventT at e
 split at e
 ·unfold startT at e
  split at e
  ·cases e
  split at e
  ·cases e
  split at e
  ·cases e
  split at e
  ·cases e
  ·rename_i t1 h1
   have h2:textSum t1.l=t1.bytes:=sum_add h h1
   exact sum_attrs (t:={ t1 with op:=t.l.length,deep:=t.deep+1 }) _ h2 e
 ·unfold endT at e
  split at e
  ·cases e
  split at e
  ·cases e
  ·cases e;exact h
 ·unfold textT at e
  split at e
  ·cases e
  split at e
  ·cases e;exact h
  split at e
  ·split at e
   ·cases e
   ·cases e
    obtain⟨D,x0,hD⟩:∃D x0,t.l=D++[x0]:=by
     rcases List.eq_nil_or_concat t.l with h0 | ⟨D,x0,h0⟩
     ·rw[h0]at ht;simp at ht
     ·exact⟨D,x0,by rw[h0,List.concat_eq_append]⟩
    obtain⟨e1,e2⟩:=last_end hD
    rw[hD,textSum_app]at h
    rw[e1,e2]
    simp only[textSum_app,textSum,List.length_append]at h ⊢
    omega
  ·exact sum_add h e
 ·exact oth _ _ _ e
 ·exact oth _ _ _ e
 ·cases e
theorem sum_evs:∀(l:List Ev) {t t':TSt},TOk t→textSum t.l=t.bytes→foldT l t = .ok t'→textSum t'.l=t'.bytes
 | [],t,t',_,h,e=>by cases e;exact h
 | x::l,t,t',hok,h,e=>by
  simp only[foldT]at e
  split at e
  ·cases e
  ·rename_i t1 h1
   exact sum_evs l (hok.event h1).1 (sum_event (by have:=hok.op;omega) h h1) e
theorem html_sum {s:List UInt8} {l:List Nd} (e:htmlS s = .ok l):textSum l≤1048576∧ValidN l∧l.getD 0 nd0=nd0:=by
 obtain⟨evs,t,h1,h2,h3,rfl,h5,h6,h7,h8⟩:=html_valid e
 have:=sum_evs evs TOk.init rfl h2
 have hb:=h5.d.bytes
 exact⟨by omega,h5.valid,h5.d.root⟩
theorem t_str_ok {G:Nat→Option (List AV)} (E:Env G) (X:EnvH G) (T:EnvT G) (B:EnvB G) {s:List UInt8} {l:List Nd} (e:htmlS s = .ok l) :
  PureCall Tryz.prog G 15 [.agg [.lst l.length (ndsH l)],.int .i64 0] (.str (txts (l.drop 1))):=by
 obtain⟨h1,h2,h3⟩:=html_sum e
 have:=t_Text_ok E X T B h2 (node:=0) h2.len0 (.inl (by rw[h3];rfl)) (by omega)
 rw[stop0 h2 _ _ (by have:=h2.len0;omega) (by omega),textTo_all]at this
 exact this
theorem kids_lt (l:List Nd):∀m,∀k∈kidsTo l m,k<m
 | 0,k,h=>by simp[kidsTo]at h
 | m+1,k,h=>by
  rw[kidsTo,List.mem_append]at h
  rcases h with h | h
  ·have:=kids_lt l m k h;omega
  ·split at h
   ·simp only[List.mem_singleton]at h;omega
   ·cases h
theorem last_at {l:List Nat} {a:Nat} (h:l.getLast?=some a):(intsA l)[l.length-1]?=some (.int .i64 a):=by
 rw[List.getLast?_eq_getElem?]at h
 rw[intsA,List.getElem?_map,h]
 rfl
theorem head_at {l:List Nat} {a:Nat} (h:l.head?=some a):(intsA l)[0]?=some (.int .i64 a):=by
 rw[List.head?_eq_getElem?]at h
 rw[intsA,List.getElem?_map,h]
 rfl
theorem kind_at {l:List Nd} {k:Nat} (h:k<l.length):(ndsH l)[k*4+0]?=some (.int .i64 (l.getD k nd0).kind):=by
 have:=ndsH_get l k 0 h (by omega)
 rw[nd_getD h]
 exact this
theorem meet_cases (t u:List Nd) :
  ((kidsTo t t.length).length=0∧meet t u=false) ∨
  (0<(kidsTo t t.length).length∧(kidsTo u u.length).length=0∧meet t u=false) ∨
  (0<(kidsTo t t.length).length∧0<(kidsTo u u.length).length∧∃a b,(intsA (kidsTo t t.length))[(kidsTo t t.length).length-1]?=some (.int .i64 (a:Nat))∧a<t.length∧(intsA (kidsTo u u.length))[0]?=some (.int .i64 (b:Nat))∧b<u.length ∧
   meet t u=((t.getD a nd0).kind==3&&(u.getD b nd0).kind==3)):=by
 unfold meet
 rcases Nat.eq_zero_or_pos (kidsTo t t.length).length with h0 | h0
 ·left
  refine⟨h0,?_⟩
  rw[List.length_eq_zero_iff.1 h0]
  rfl
 rcases Nat.eq_zero_or_pos (kidsTo u u.length).length with h1 | h1
 ·right;left
  refine⟨h0,h1,?_⟩
  rw[List.length_eq_zero_iff.1 h1]
  cases (kidsTo t t.length).getLast?<;>rfl
 right;right
 refine⟨h0,h1,?_⟩
 cases ha:(kidsTo t t.length).getLast? with
 | none=>rw[List.getLast?_eq_none_iff]at ha;rw[ha]at h0;exact absurd h0 (by decide)
 | some a=>
  cases hb:(kidsTo u u.length).head? with
  | none=>rw[List.head?_eq_none_iff]at hb;rw[hb]at h1;exact absurd h1 (by decide)
  | some b=>exact⟨a,b,last_at ha,kids_lt _ _ _ (List.mem_of_getLast? ha),head_at hb,kids_lt _ _ _ (List.mem_of_head? hb),rfl⟩
def Both (t u:List Nd) (a b:Nat):Prop:=0<(kidsTo t t.length).length∧0<(kidsTo u u.length).length∧(intsA (kidsTo t t.length))[(kidsTo t t.length).length-1]?=some (.int .i64 (a:Nat))∧a<t.length∧(intsA (kidsTo u u.length))[0]?=some (.int .i64 (b:Nat))∧b<u.length
theorem meet_cases5 (t u:List Nd) :
  ((kidsTo t t.length).length=0∧meet t u=false) ∨
  (0<(kidsTo t t.length).length∧(kidsTo u u.length).length=0∧meet t u=false) ∨
  (∃a b,Both t u a b∧(t.getD a nd0).kind≠3∧meet t u=false) ∨
  (∃a b,Both t u a b∧(t.getD a nd0).kind=3∧(u.getD b nd0).kind≠3∧meet t u=false) ∨
  (∃a b,Both t u a b∧(t.getD a nd0).kind=3∧(u.getD b nd0).kind=3∧meet t u=true):=by
 rcases meet_cases t u with h | h | ⟨m1,m3,a,b,g1,g2,g3,g4,m2⟩
 ·exact .inl h
 ·exact .inr (.inl h)
 right;right
 have hb:Both t u a b:=⟨m1,m3,g1,g2,g3,g4⟩
 by_cases u1:(t.getD a nd0).kind=3
 ·by_cases u2:(u.getD b nd0).kind=3
  ·exact .inr (.inr ⟨a,b,hb,u1,u2,by rw[m2,u1,u2];rfl⟩)
  ·refine .inr (.inl ⟨a,b,hb,u1,u2,?_⟩)
   rw[m2,show((u.getD b nd0).kind==3)=false from beq_eq_false_iff_ne.2 u2,Bool.and_false]
 ·refine .inl ⟨a,b,hb,u1,?_⟩
  rw[m2,show((t.getD a nd0).kind==3)=false from beq_eq_false_iff_ne.2 u1,Bool.false_and]
end Go.Ab
