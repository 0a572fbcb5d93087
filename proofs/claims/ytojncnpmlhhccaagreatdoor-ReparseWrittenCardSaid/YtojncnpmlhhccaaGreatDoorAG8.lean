/- A tree that was read is read again from what is written for it. -/
import Derived.Test.YtojncnpmlhhccaaGreatDoorAGA
import Derived.Test.YtojncnpmlhhccaaGreatDoorSW14
set_option linter.all false
namespace Go.Ab
open Go Go.Lib
def wrDoc (l:List Nd):List UInt8:=(kidsOf l 0).flatMap (wrN l l.length)
theorem isText_flat {α:Type} {g:α→List UInt8}:∀(xs:List α),(∀x∈xs,isTextS (g x)=true)→isTextS (xs.flatMap g)=true
 | [],_=>rfl
 | x::xs,h=>by
  rw[List.flatMap_cons]
  exact isText_app (h x (by simp)) (isText_flat xs fun y hy=>h y (by simp[hy]))
theorem text_atS {l:List Nd} (v:ValidN l) {k:Nat} (hk:k<l.length) (h2:(l.getD k nd0).kind=2):isTextS (atS l k)=true:=by
 have hall:=v.allowed k hk
 unfold allowedS at hall
 rw[h2]at hall
 simp only[Bool.and_eq_true]at hall
 unfold atS
 refine isText_app (isText_app (by kernel_rfl) (isText_name hall.2)) ?_
 split
 ·rfl
 ·exact isText_app (isText_app (by kernel_rfl) (isText_esc true _ _ (Nat.le_refl _) hall.1)) (by kernel_rfl)
theorem text_node {l:List Nd} (v:ValidN l):∀(f i:Nat),i<l.length→isTextS (wrN l f i)=true
 | 0,i,_=>rfl
 | f+1,i,hi=>by
  have hall:=v.allowed i hi
  have hkd:=v.kind i hi
  unfold allowedS at hall
  rcases(by omega:(l.getD i nd0).kind=0∨(l.getD i nd0).kind=2∨(l.getD i nd0).kind=1∨(l.getD i nd0).kind=3∨(l.getD i nd0).kind=4∨(l.getD i nd0).kind=5)with hk | hk | hk | hk | hk | hk
  ·simp only[wrN,hk];rfl
  ·simp only[wrN,hk];rfl
  ·rw[hk]at hall
   simp only[Bool.and_eq_true]at hall
   have hn:=isText_name hall.2.1
   simp only[wrN,hk]
   refine isText_app (isText_app (isText_app (isText_app (by kernel_rfl) hn) (isText_flat _ fun k hka=>?_)) (by kernel_rfl)) ?_
   ·have:=attsOf_lt hka
    exact text_atS v this.1 this.2.2.2
   ·split
    ·rfl
    ·refine isText_app (isText_flat _ fun k hkk=>text_node v f k (kidsOf_lt hkk).1) (isText_app (isText_app (by kernel_rfl) hn) (by kernel_rfl))
  ·simp only[wrN,hk]
   rw[Bool.and_eq_true]at hall
   split
   ·exact hall.1
   ·exact isText_esc false _ _ (Nat.le_refl _) hall.1
  ·simp only[wrN,hk]
   rw[Bool.and_eq_true]at hall
   exact isText_app (isText_app (by kernel_rfl) hall.1) (by kernel_rfl)
  ·simp only[wrN,hk]
   rw[hk]at hall
   simp only[Bool.and_eq_true]at hall
   refine isText_app (isText_app (isText_app (by kernel_rfl) (isText_name hall.2.1.1.1)) ?_) (by kernel_rfl)
   split
   ·rfl
   ·exact isText_app (by kernel_rfl) hall.1
theorem doc_end {l:List Nd} (v:ValidN l) {e:Nat} (he:SubE l 0 e):e=l.length:=by
 have:=he.le
 rcases Nat.eq_or_lt_of_le this with h | h
 ·exact h
 ·have:=he.out h
  have:=v.up e (by have:=he.lt;omega) h
  omega
theorem wr_cost {l:List Nd} (v:ValidN l):(wrDoc l).length≤2*nmSum l+6*textSum l+12*l.length:=by
 have hl:=v.len0
 obtain⟨e,he⟩:=SubE.ex (l:=l) (i:=0) (by omega)
 have hel:=doc_end v he
 subst hel
 obtain⟨m,m1,m2,m3,m4⟩:=atts_lie v (by omega) he
 have:=cost_kids v he (f:=l.length) (fun p e2 hb hp h2'=>by
  have hup:=hb.at_ hp
  have hlt:=hb.lt
  exact cost_node v l.length p e2 (by omega) (by omega) (by omega) hup.2 h2') m4
 unfold wrDoc
 rw[kidsOf_from v (by omega) he m1 m2 m3]
 have hc:costN l l.length=2*nmSum l+6*textSum l+12*l.length:=by
  unfold costN;rw[List.take_length];exact cost_all l
 omega
theorem wrDoc_pre {l:List Nd} (W:WrOk l) (hroot:l.getD 0 nd0=nd0):Lib.hasPrefix (wrDoc l) sDoct=false:=by
 have v:=W.v
 have hl:=v.len0
 unfold wrDoc
 cases hks:kidsOf l 0 with
 | nil=>rfl
 | cons k ks=>
  have hk:k∈kidsOf l 0:=by rw[hks];simp
  have hk2:=kidsOf_lt hk
  have hkd:=v.kind k hk2.1
  have hdoc:=v.doc k (by omega) hk2.1
  have hall:=v.allowed k hk2.1
  unfold allowedS at hall
  obtain⟨f,hf⟩:∃f,l.length=f+1:=⟨l.length-1,by omega⟩
  have hr:isRawS (l.getD (l.getD k nd0).up.toNat nd0).name=false:=by
   rw[hk2.2.2.1]
   show isRawS (l.getD 0 nd0).name=false
   rw[hroot];rfl
  rw[List.flatMap_cons]
  generalize ks.flatMap (wrN l l.length)=tl
  rw[hf]
  rcases(by omega:(l.getD k nd0).kind=1∨(l.getD k nd0).kind=3∨(l.getD k nd0).kind=4∨(l.getD k nd0).kind=5)with h | h | h | h
  ·rw[h]at hall
   simp only[Bool.and_eq_true]at hall
   have hno:=(name_ok hall.2.1).2.2.2.2.2.1
   have hne:=nameS_ne hall.2.1
   simp only[wrN,h]
   match hn:(l.getD k nd0).name,hne with
   | c::m,_=>
    have:=hno c (by rw[hn];simp)
    exact not_pre this
  ·rw[h]at hall
   simp only[Bool.and_eq_true,bne_iff_ne,ne_eq]at hall
   simp only[wrN,h,hr,Bool.false_eq_true,if_false]
   match ht:(l.getD k nd0).text,hall.2.2 with
   | c::m,_=>
    match hc:escS false (c::m)with
    | []=>
     have:=unesc_esc false (c::m)
     rw[hc]at this
     have:=congrArg (·.1) this
     cases this
    | d::q=>
     have:=(escS_no false (c::m) d (by rw[hc];simp)).1
     unfold Lib.hasPrefix sDoct
     rw[List.cons_append,List.isPrefixOf,beq_eq_false_iff_ne.2 (Ne.symm this),Bool.false_and]
  ·simp only[wrN,h]
   rfl
  ·simp only[wrN,h]
   exact not_pre (by decide)
theorem read_doc {l:List Nd} (W:WrOk l) (hroot:l.getD 0 nd0=nd0):eventsHS (wrDoc l) = .ok ((kidsOf l 0).flatMap (evN l l.length)):=by
 have v:=W.v
 have hl:=v.len0
 have hkid:∀k∈kidsOf l 0,RdN l l.length k∧(∃M x,evN l l.length k=M++[x]∧x.kind≠0)∧((l.getD k nd0).kind≠3→∃r,wrN l l.length k=60::r):=by
  intro k hk
  have hk2:=kidsOf_lt hk
  have hkd:=v.kind k hk2.1
  have hdoc:=v.doc k (by omega) hk2.1
  obtain⟨f,hf⟩:∃f,l.length=f+1:=⟨l.length-1,by omega⟩
  have hr:isRawS (l.getD (l.getD k nd0).up.toNat nd0).name=false:=by
   rw[hk2.2.2.1]
   show isRawS (l.getD 0 nd0).name=false
   rw[hroot];rfl
  refine⟨read_node W _ k hk2.2.1 hk2.1 (by omega) hk2.2.2.2 hr,?_,fun h3=>?_⟩
  ·rw[hf];exact ev_last (by omega)
  ·rw[hf];exact wr_head (by omega)
 have htrim:=wrDoc_pre W hroot
 unfold eventsHS
 rw[trim_no htrim]
 have hz:=read_kids (kidsOf l 0) [] [] [] hkid (W.adj 0 (by omega)) (.inl rfl) (fun x hx=>by cases hx)
 rw[List.append_nil,List.nil_append]at hz
 show readHL ⟨wrDoc l,[],[]⟩=_
 unfold wrDoc
 rw[hz,readHL_step,if_pos rfl,if_pos rfl]
end Go.Ab
