/- The texts of a tree have as many bytes as were counted; its string value. -/
import Derived.Test.YtojncnpmlhhccaaGreatDoorPLA
set_option linter.all false
namespace Go.Ab
open Go Go.Lib Go.Proofs
theorem sum_add {t t':TSt} {kind:Nat} {name text:List UInt8} (h:textSum t.l=t.bytes) (e:t.add kind name text = .ok t'):textSum t'.l=t'.bytes:=by
 unfold TSt.add at e
 split at e
 ·cases e
 ·cases e
  simp only[textSum_app,textSum,h]
  omega
theorem sum_attrs:∀(l:List (List UInt8 × List UInt8)) {t t':TSt},textSum t.l=t.bytes→attrsT l t = .ok t'→textSum t'.l=t'.bytes
 | [],t,t',h,e=>by cases e;exact h
 | a::l,t,t',h,e=>by
  simp only[attrsT]at e
  split at e
  ·cases e
  ·rename_i t1 h1
   exact sum_attrs l (sum_add h h1) e
theorem sum_event {t t':TSt} {x:Ev} (ht:1≤t.l.length) (h:textSum t.l=t.bytes) (e:eventT t x = .ok t'):textSum t'.l=t'.bytes:=by
 have oth:∀k n s,otherT t k n s = .ok t'→textSum t'.l=t'.bytes:=fun k n s e=>by
  unfold otherT at e
  split at e
  ·cases e
  ·exact sum_add h e
 unfold eventT at e
 split at e
 ·unfold startT at e
  split at e
  ·cases e
  split at e
  ·cases e
  split at e
  ·cases e
  split at e
  ·cases e
  ·rename_i t1 h1
   have h2:textSum t1.l=t1.bytes:=sum_add h h1
   exact sum_attrs (t:={ t1 with op:=t.l.length,deep:=t.deep+1 }) _ h2 e
 ·unfold endT at e
  split at e
  ·cases e
  split at e
  ·cases e
  ·cases e;exact h
 ·unfold textT at e
  split at e
  ·cases e
  split at e
  ·cases e;exact h
  split at e
  ·split at e
   ·cases e
   ·cases e
    obtain⟨D,x0,hD⟩:∃D x0,t.l=D++[x0]:=by
     rcases List.eq_nil_or_concat t.l with h0 | ⟨D,x0,h0⟩
     ·rw[h0]at ht;simp at ht
     ·exact⟨D,x0,by rw[h0,List.concat_eq_append]⟩
    obtain⟨e1,e2⟩:=last_end hD
    rw[hD,textSum_app]at h
    rw[e1,e2]
    simp only[textSum_app,textSum,List.length_append]at h ⊢
    omega
  ·exact sum_add h e
 ·exact oth _ _ _ e
 ·exact oth _ _ _ e
 ·cases e
theorem sum_evs:∀(l:List Ev) {t t':TSt},TOk t→textSum t.l=t.bytes→foldT l t = .ok t'→textSum t'.l=t'.bytes
 | [],t,t',_,h,e=>by cases e;exact h
 | x::l,t,t',hok,h,e=>by
  simp only[foldT]at e
  split at e
  ·cases e
  ·rename_i t1 h1
   exact sum_evs l (hok.event h1).1 (sum_event (by have:=hok.op;omega) h h1) e
theorem html_sum {s:List UInt8} {l:List Nd} (e:htmlS s = .ok l):textSum l≤1048576∧ValidN l∧l.getD 0 nd0=nd0:=by
 obtain⟨evs,t,h1,h2,h3,rfl,h5,h6,h7,h8⟩:=html_valid e
 have:=sum_evs evs TOk.init rfl h2
 have hb:=h5.d.bytes
 exact⟨by omega,h5.valid,h5.d.root⟩
theorem kind_at {l:List Nd} {k:Nat} (h:k<l.length):(ndsH l)[k*4+0]?=some (.int .i64 (l.getD k nd0).kind):=by
 have:=ndsH_get l k 0 h (by omega)
 rw[nd_getD h]
 exact this
end Go.Ab
