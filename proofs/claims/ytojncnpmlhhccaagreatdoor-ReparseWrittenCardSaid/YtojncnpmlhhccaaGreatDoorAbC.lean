/- A logic over the kit's 'Calls' and 'Code.wp': contracts of the library's shelf, read in it. A logic over the kit's 'Calls' and 'Code.wp': slices read otherwise: as lists once they are no longer written, by another number, or where there is none yet. A logic over the kit's 'Calls' and 'Code.wp': a deferred call, and the panic that it takes up. A logic over the kit's 'Calls' and 'Code.wp': strings.Builder, out of the shelf's contracts and beside them. A logic over the kit's 'Calls' and 'Code.wp': the walk's equations, one place at a time. A logic over the kit's 'Calls' and 'Code.wp': small helps for walks, and what is used of Go's decoder. A logic over the kit's 'Calls' and 'Code.wp': draw regions where a variable is made beside a call: at a number that was kept back. A deferred call that is laid behind any number of parts. -/
import Derived.Test.YtojncnpmlhhccaaGreatDoorAbB
import Derived.Below
import Derived.RecoverIn
import Derived.Shelf.Strings.Builder1
import Derived.Lib.IndexMore
import Derived.Lib.Strings
import Derived.Lib.RuneCount
import Derived.Lib.SpaceU
import Derived.Lib.TrimUEq
import Derived.Lib.TrimAscii
import Derived.Lib.MapLaws
set_option linter.all false
namespace Go.Ab
open Go Go.Lib Go.RowKit
section
variable {P:Program} {G:Nat→Option (List AV)}
theorem Rel.lt_of_glob {C:Ctx} {w:World} (R:Rel G C w) {c:Nat} {a:List Value} (h:C.I c=some a):c<w.heap.size:=by
 obtain⟨_,arr,e,fz,h1,_⟩:=R.imm c a h
 exact(Array.getElem?_eq_some_iff.1 h1).1
theorem Adv.below {C:Ctx} {w w':World} (B:Below w.heap.size w w'):Adv C w C w':=
 ⟨Nat.le_refl _,fun k _ hr=>⟨hr,SigLe.refl C k⟩,fun _ _ h=>h,fun _ h => .inr h,fun _ _ h => .inl h,fun c hc _=>B.block c hc,B.size,B.os,B.tape,B.output⟩
theorem Rel.below {C:Ctx} {w w':World} (R:Rel G C w) (B:Below w.heap.size w w'):Rel G C w':={
 pres k o hk:=⟨(R.pres k o hk).1,(R.pres k o hk).2.1,(R.pres k o hk).2.2.keep (Adv.below B) rfl (fun c cap hm=>B.block c (R.owned_lt ⟨k,o,cap,hk,hm⟩))⟩
 inj:=R.inj
 imm c a hc:=by
  have h:=R.imm c a hc
  rw[B.block c (R.lt_of_glob hc)]
  exact h
 glob:=R.glob }
theorem ACalls.of_calls {f:FuncId} {args:List AV} {H:AHeap} {v:AV}
  (h:∀(C:Ctx) (w:World) (args':Array Value),Rel G C w→VRs C args args'.toList→Calls P f args' w fun e w'=>(∃r,e = .returned r∧VR C v r)∧Below w.heap.size w w') :
  ACalls P G f args H fun r H'=>r = .ret v∧Keeps H H':=by
 intro C w args' R hH hv
 refine(h C w args' R hv).mono ?_
 rintro e w' ⟨⟨r,rfl,hr⟩,B⟩
 exact⟨.ret v,C,⟨rfl,by rw[←hH];exact Keeps.refl _⟩,hr,R.below B,Adv.below B⟩
def AV.flat:AV→Option Value
 | .bool b=>some (.bool b)
 | .int k n=>some (.int k n)
 | .str s=>some (.string ⟨s.toArray⟩)
 | _=>none
theorem AV.flat_eq {C:Ctx} {x:AV} {v y:Value} (hf:x.flat=some v) (h:VR C x y):y=v:=by
 cases x<;>simp only[AV.flat,Option.some.injEq,reduceCtorEq]at hf<;>(subst hf;cases h;rfl)
theorem AV.flat_vr {C:Ctx} {x:AV} {v:Value} (hf:x.flat=some v):VR C x v:=by
 cases x<;>simp only[AV.flat,Option.some.injEq,reduceCtorEq]at hf<;>(subst hf;constructor)
theorem flats_eq {C:Ctx}:∀{xs:List AV} {vs ys:List Value},xs.mapM AV.flat=some vs→VRs C xs ys→ys=vs
 | [],vs,ys,hf,h=>by
  simp only[List.mapM_nil,Option.pure_def,Option.some.injEq]at hf
  subst hf
  have:=h.1
  exact List.eq_nil_of_length_eq_zero this.symm
 | x::xs,vs,ys,hf,h=>by
  simp only[List.mapM_cons,Option.pure_def,Option.bind_eq_bind,Option.bind_eq_some_iff,Option.some.injEq]at hf
  obtain⟨v,hv,vs',hvs,rfl⟩:=hf
  match ys,h with
  | [],h=>have:=h.1;simp at this
  | y::ys,h=>
   rw[AV.flat_eq hv (h.2 0 x y rfl rfl),flats_eq (C:=C) (ys:=ys) hvs ⟨by have:=h.1;simpa using this,fun i a b ha hb=>h.2 (i+1) a b (by simpa using ha) (by simpa using hb)⟩]
theorem flats_vr {C:Ctx}:∀{xs:List AV} {vs:List Value},xs.mapM AV.flat=some vs→VRs C xs vs
 | [],vs,hf=>by
  simp only[List.mapM_nil,Option.pure_def,Option.some.injEq]at hf
  subst hf
  exact⟨rfl,fun i x y hx=>by simp at hx⟩
 | x::xs,vs,hf=>by
  simp only[List.mapM_cons,Option.pure_def,Option.bind_eq_bind,Option.bind_eq_some_iff,Option.some.injEq]at hf
  obtain⟨v,hv,vs',hvs,rfl⟩:=hf
  exact(flats_vr hvs).cons (AV.flat_vr hv)
theorem ACalls.shelf {f:FuncId} {args:List AV} {vs:List Value} {H:AHeap} {v:AV} {r:Value} (ha:args.mapM AV.flat=some vs) (hv:∀C,VR C v r)
  (h:∀(C:Ctx) (w:World),Rel G C w→Calls P f vs.toArray w fun e w'=>e = .returned r∧Below w.heap.size w w'):ACalls P G f args H fun r H'=>r = .ret v∧Keeps H H':=by
 refine ACalls.of_calls fun C w args' R hvs=>?_
 have e:=flats_eq ha hvs
 have e2:args'=vs.toArray:=by rw[←e]
 subst e2
 exact(h C w R).mono fun e w' ⟨he,hb⟩=>⟨⟨r,he,hv C⟩,hb⟩
theorem PureCall.shelf {f:FuncId} {args:List AV} {vs:List Value} {v:AV} {r:Value} (ha:args.mapM AV.flat=some vs) (hv:∀C,VR C v r)
  (h:∀(C:Ctx) (w:World),Rel G C w→Calls P f vs.toArray w fun e w'=>e = .returned r∧Below w.heap.size w w'):PureCall P G f args v:=fun _=>ACalls.shelf ha hv h
theorem VR.flat {x:AV} {v:Value} (h:x.flat=some v) (C:Ctx):VR C x v:=AV.flat_vr h
theorem VR.flats {xs:List AV} {vs:List Value} (h:xs.mapM AV.flat=some vs) (C:Ctx):VR C (.tup xs) (.tuple vs.toArray):=by
 have:=flats_vr (C:=C) h
 exact .tup xs _ (by simpa using this.1) fun i x y hx hy=>this.2 i x y hx (by simpa using hy)
end
end Go.Ab
namespace Go.Ab
open Go Go.Lib
inductive Tz (k:Nat) (f:Nat→Option AV) (g:Option AV):AV→AV→Prop where
 | und (x:AV):Tz k f g x .und
 | same (x:AV):Tz k f g x x
 | slc (len:Nat) (y:AV) (h:f len=some y):Tz k f g (.slc k len) y
 | nil (y:AV) (h:g=some y):Tz k f g .nils y
 | agg (xs ys:List AV) (hl:xs.length=ys.length) (h:∀(i:Nat) (x y:AV),xs[i]?=some x→ys[i]?=some y→Tz k f g x y):Tz k f g (.agg xs) (.agg ys)
 | tup (xs ys:List AV) (hl:xs.length=ys.length) (h:∀(i:Nat) (x y:AV),xs[i]?=some x→ys[i]?=some y→Tz k f g x y):Tz k f g (.tup xs) (.tup ys)
def Tzs (k:Nat) (f:Nat→Option AV) (g:Option AV):List AV→List AV→Prop
 | [],[]=>True
 | x::xs,y::ys=>Tz k f g x y∧Tzs k f g xs ys
 | _,_=>False
section
variable {k:Nat} {f:Nat→Option AV} {g:Option AV}
theorem Tzs.at:∀{xs ys:List AV},Tzs k f g xs ys→xs.length=ys.length∧∀(i:Nat) (x y:AV),xs[i]?=some x→ys[i]?=some y→Tz k f g x y
 | [],[],_=>⟨rfl,fun i x y hx=>by simp at hx⟩
 | x::xs,y::ys,h=>by
  obtain⟨h1,h2⟩:=Tzs.at h.2
  refine⟨by simp[h1],fun i a b ha hb=>?_⟩
  cases i with
  | zero=>simp only[List.getElem?_cons_zero,Option.some.injEq]at ha hb;subst ha;subst hb;exact h.1
  | succ i=>exact h2 i a b (by simpa using ha) (by simpa using hb)
 | [],_::_,h=>h.elim
 | _::_,[],h=>h.elim
theorem Tz.agg' {xs ys:List AV} (h:Tzs k f g xs ys):Tz k f g (.agg xs) (.agg ys) := .agg xs ys h.at.1 h.at.2
theorem Tz.tup' {xs ys:List AV} (h:Tzs k f g xs ys):Tz k f g (.tup xs) (.tup ys) := .tup xs ys h.at.1 h.at.2
theorem Tzs.refl:∀xs:List AV,Tzs k f g xs xs
 | []=>trivial
 | x::xs=>⟨.same x,Tzs.refl xs⟩
inductive OTz (k:Nat) (f:Nat→Option AV) (g:Option AV):AObj→AObj→Prop where
 | same (o:AObj):OTz k f g o o
 | cells (e:TypeId) (cs cs':List AV) (h:Tzs k f g cs cs'):OTz k f g (.cells e cs) (.cells e cs')
 | row (e:TypeId) (size:Nat) (cs cs':List AV) (h:Tzs k f g cs cs'):OTz k f g (.row e size cs) (.row e size cs')
theorem Tz.move {C C':Ctx} {w w':World} (A:Adv C w C' w') (hf:∀len y v,f len=some y→VR C (.slc k len) v→VR C' y v) (hg:∀y v,g=some y→VR C .nils v→VR C' y v) {x y:AV} (h:Tz k f g x y) :
  ∀v,VR C x v→VR C' y v:=by
 induction h with
 | und x=>exact fun v _ => .und v
 | same x=>exact fun v h=>h.mono A
 | slc len y h=>exact fun v hv=>hf len y v h hv
 | nil y h=>exact fun v hv=>hg y v h hv
 | agg xs ys hl h ih=>
  intro v hv
  cases hv with
  | agg _ vs hl' hv=>
   refine .agg ys vs (hl▸hl') fun i y z hy hz=>?_
   have:i<xs.length:=by rw[hl];exact(List.getElem?_eq_some_iff.1 hy).1
   exact ih i xs[i] y (List.getElem?_eq_getElem this) hy z (hv i _ z (List.getElem?_eq_getElem this) hz)
 | tup xs ys hl h ih=>
  intro v hv
  cases hv with
  | tup _ vs hl' hv=>
   refine .tup ys vs (hl▸hl') fun i y z hy hz=>?_
   have:i<xs.length:=by rw[hl];exact(List.getElem?_eq_some_iff.1 hy).1
   exact ih i xs[i] y (List.getElem?_eq_getElem this) hy z (hv i _ z (List.getElem?_eq_getElem this) hz)
theorem Tzs.move {C C':Ctx} (hv:∀{x y:AV},Tz k f g x y→∀v,VR C x v→VR C' y v) {xs ys:List AV} (h:Tzs k f g xs ys) {vs:List Value} (hx:VRs C xs vs):VRs C' ys vs:=by
 obtain⟨hl,hz⟩:=h.at
 refine⟨hl▸hx.1,fun i y v hy hvv=>?_⟩
 have:i<xs.length:=by rw[hl];exact(List.getElem?_eq_some_iff.1 hy).1
 exact hv (hz i xs[i] y (List.getElem?_eq_getElem this) hy) v (hx.2 i _ v (List.getElem?_eq_getElem this) hvv)
theorem OTz.move {C C':Ctx} {w:World} (A:Adv C w C' w) (hv:∀{x y:AV},Tz k f g x y→∀v,VR C x v→VR C' y v) {o o':AObj} (h:OTz k f g o o') {j:Nat} (hm:C'.μ j=C.μ j) (ho:ObjRel C w j o):ObjRel C' w j o':=by
 cases h with
 | same=>exact ho.keep A hm (fun _ _ _=>rfl)
 | cells e cs cs' h=>
  obtain⟨c,cap,arr,lo,hi,h1,⟨e',h2,h5⟩,h3,h4⟩:=ho
  obtain⟨hl,hz⟩:=h.at
  refine⟨c,cap,arr,lo,hi,hm.trans h1,⟨e',h2,fun he=>by rw[←hl];exact h5 he⟩,fun i y hy=>?_,h4⟩
  have:i<cs.length:=by rw[hl];exact(List.getElem?_eq_some_iff.1 hy).1
  obtain⟨v,hv1,hv2⟩:=h3 i cs[i] (List.getElem?_eq_getElem this)
  exact⟨v,hv1,hv (hz i _ y (List.getElem?_eq_getElem this) hy) v hv2⟩
 | row e size cs cs' h=>
  obtain⟨n,v,ys,hown,hys,hv'⟩:=ho
  exact⟨n,v,ys,hown,Tzs.move hv h hys,by rw[hm];exact hv'⟩
theorem OTz.sig {C:Ctx} {C':Ctx} {j:Nat} (hm:C'.μ j=C.μ j) (h:C'.H.get j=none∨∃o o',C.H.get j=some o∧C'.H.get j=some o'∧OTz k f g o o'):SigLe C C' j:=by
 unfold SigLe
 rcases h with h | ⟨o,o',h1,h2,h3⟩
 ·simp only[h]
  cases C.H.get j with
  | none=>trivial
  | some o=>cases o<;>first | exact .inl trivial | trivial
 ·simp only[h1,h2,hm,and_true]
  cases h3 with
  | same=>
   cases o with
   | row e size cs=>exact .inr ⟨_,_,rfl,rfl⟩
   | _=>simp
  | cells e cs cs' h=>simp
  | row e size cs cs' h=>exact .inr ⟨_,_,rfl,h.at.1.symm⟩
end
def HTz (k:Nat) (f:Nat→Option AV) (g:Option AV) (H H':AHeap) (but:Nat→Prop):Prop:=
 ∀j,but j∨H'.get j=none∨∃o o',H.get j=some o∧H'.get j=some o'∧OTz k f g o o'
theorem Rel.freeze {G:Nat→Option (List AV)} {C:Ctx} {w:World} (R:Rel G C w) {k:Nat} {e:TypeId} {size:Nat} {cs:List AV} (hk:C.H.get k=some (.row e size cs)) (hsz:0<size) (H':AHeap) (hn:C.H.next≤H'.next) (hk':H'.get k=none)
  (hs:HTz k (fun len=>some (.lst len cs)) none C.H H' (fun _=>False)):∃C',C'.H=H'∧Rel G C' w∧Adv C w C' w∧∀{x y},Tz k (fun len=>some (.lst len cs)) none x y→∀v,VR C x v→VR C' y v:=by
 obtain⟨_,_,n,v0,ys,hown,hys,hv⟩:=R.pres k _ hk
 have hsub:∀j o',H'.get j=some o'→j≠k∧∃o,C.H.get j=some o∧OTz k (fun len=>some (.lst len cs)) none o o':=fun j o' hj=>by
  refine⟨fun e=>(by subst e;rw[hk']at hj;cases hj),?_⟩
  rcases hs j with h | h | ⟨o,o2,h1,h2,h3⟩
  ·exact h.elim
  ·rw[h]at hj;cases hj
  ·rw[hj]at h2;cases h2;exact⟨o,h1,h3⟩
 cases hm:C.μ k with
 | none=>
  let C':Ctx:={ H:=H',μ:=C.μ,I:=C.I }
  have hown':∀b,C'.owns b→C.owns b:=fun b ⟨j,oj,cap',hj,hmj⟩=>by
   obtain⟨_,o,h1,_⟩:=hsub j oj hj
   exact⟨j,o,cap',h1,hmj⟩
  have A:Adv C w C' w:=by
   refine⟨hn,fun j hj hrj=>⟨rfl,OTz.sig (k:=k) (f:=fun len=>some (.lst len cs)) (g:=none) (C':=C') rfl ?_⟩,fun _ _ h=>h,fun b hb => .inr (hown' b hb),fun b a hb => .inl hb,fun _ _ _=>rfl,Nat.le_refl _,rfl,rfl,rfl⟩
   exact(hs j).resolve_left (fun h=>h)
  have hnil:v0 = .slice none 0 0∧cs=[]:=by
   simp only[hm]at hv
   subst hv
   refine⟨rfl,?_⟩
   rcases hown.2 with ⟨_,h⟩ | ⟨g,cap,cur,h,_⟩
   ·have h1:=hown.1
    rw[h]at h1
    have h2:=hys.1
    rw[h1]at h2
    exact List.eq_nil_of_length_eq_zero (by simpa using h2)
   ·cases h
  have hmv:∀{x y},Tz k (fun len=>some (.lst len cs)) none x y→∀v,VR C x v→VR C' y v:=fun h=>h.move A (fun len y v hy hx=>by
   cases hy
   cases hx with
   | slc _ _ a cap h=>
    obtain⟨_,_,h⟩:=h
    simp only[hk,hm]at h
    obtain⟨_,h1,h2⟩:=h
    cases h2
    rw[hnil.2]
    exact h1 ▸ .lstNil) (fun y v hy=>by cases hy)
  refine⟨C',rfl,⟨fun j oj hj=>?_,fun k1 k2 o1 o2 b cap1 cap2 hk1 hk2 hm1 hm2=>?_,fun b a hb=>?_,fun g cs hg=>?_⟩,A,hmv⟩
  ·obtain⟨_,o,h1,h2⟩:=hsub j oj hj
   have h:=R.pres j o h1
   exact⟨Nat.lt_of_lt_of_le h.1 hn,rfl,h2.move A hmv rfl h.2.2⟩
  ·obtain⟨_,p1,h1,_⟩:=hsub k1 o1 hk1
   obtain⟨_,p2,h2,_⟩:=hsub k2 o2 hk2
   exact R.inj k1 k2 p1 p2 b cap1 cap2 h1 h2 hm1 hm2
  ·obtain⟨h1,h2⟩:=R.imm b a hb
   exact⟨fun h=>h1 (hown' b h),h2⟩
  ·obtain⟨a,ha,hv⟩:=R.glob g cs hg
   exact⟨a,ha,hv.mono A⟩
 | some p=>
  obtain⟨c,cap⟩:=p
  simp only[hm]at hv
  subst hv
  rcases hown.2 with ⟨h,_⟩ | ⟨g,cap',cur,h,_,hcur,hncap,_,hcsz,htake⟩
  ·cases h
  cases h
  have howns:C.owns c:=⟨k,_,cap,hk,hm⟩
  have hIc:∀a,C.I c≠some a:=fun a ha=>(R.imm c a ha).1 howns
  let C':Ctx:={ H:=H',μ:=C.μ,I:=fun b=>if b=c then some cur.toList else C.I b }
  have hI:∀b a,C.I b=some a→C'.I b=some a:=fun b a ha=>by
   have:b≠c:=fun e=>by subst e;exact hIc a ha
   simp only[C',if_neg this];exact ha
  have hown':∀b,C'.owns b→C.owns b∧b≠c:=fun b ⟨j,oj,cap',hj,hmj⟩=>by
   obtain⟨h2,o,h1,_⟩:=hsub j oj hj
   refine⟨⟨j,o,cap',h1,hmj⟩,fun e=>?_⟩
   subst e
   exact h2 (R.inj j k o _ b cap' cap h1 hk hmj hm)
  have A:Adv C w C' w:=by
   refine⟨hn,fun j hj hrj=>⟨rfl,OTz.sig (k:=k) (f:=fun len=>some (.lst len cs)) (g:=none) (C':=C') rfl ?_⟩,hI,fun b hb => .inr (hown' b hb).1,fun b a hb=>?_,fun _ _ _=>rfl,Nat.le_refl _,rfl,rfl,rfl⟩
   ·exact(hs j).resolve_left (fun h=>h)
   ·by_cases hbc:b=c
    ·subst hbc;exact .inr (.inr howns)
    ·simp only[C',if_neg hbc]at hb;exact .inl hb
  have hcslen:cs.length=n*size:=by rw[hys.1,hown.1]
  have hmv:∀{x y},Tz k (fun len=>some (.lst len cs)) none x y→∀v,VR C x v→VR C' y v:=fun h=>h.move A (fun len y v hy hx=>by
   cases hy
   cases hx with
   | slc _ _ a cap0 h=>
    obtain⟨_,_,h⟩:=h
    simp only[hk,hm]at h
    obtain⟨h0,h1⟩:=h
    cases h1
    refine .lst len cs c 0 cap cur.toList (fun i=>ys.getD i undef) (by simp[C']) ?_ ?_ ?_
    ·rw[hcslen]at h0
     exact Nat.le_trans (Nat.le_of_mul_le_mul_right h0 hsz) hncap
    ·intro i x hx
     obtain⟨y,hy,_⟩:=VRs.get hys hx
     have hyi:i<ys.length:=(List.getElem?_eq_some_iff.1 hy).1
     rw[←htake,List.getElem?_take]at hy
     split at hy
     ·rw[Nat.zero_add,hy]
      have:ys[i]?=some y:=by rw[←htake,List.getElem?_take];rename_i hlt;rw[if_pos hlt];exact hy
      simp[List.getD,this]
     ·cases hy
    ·intro i x hx
     obtain⟨y,hy,hv⟩:=VRs.get hys hx
     simp only[List.getD,hy,Option.getD_some]
     exact hv.mono A) (fun y v hy=>by cases hy)
  refine⟨C',rfl,⟨fun j oj hj=>?_,fun k1 k2 o1 o2 b cap1 cap2 hk1 hk2 hm1 hm2=>?_,fun b a hb=>?_,fun g cs hg=>?_⟩,A,hmv⟩
  ·obtain⟨_,o,h1,h2⟩:=hsub j oj hj
   have h:=R.pres j o h1
   exact⟨Nat.lt_of_lt_of_le h.1 hn,rfl,h2.move A hmv rfl h.2.2⟩
  ·obtain⟨_,p1,h1,_⟩:=hsub k1 o1 hk1
   obtain⟨_,p2,h2,_⟩:=hsub k2 o2 hk2
   exact R.inj k1 k2 p1 p2 b cap1 cap2 h1 h2 hm1 hm2
  ·by_cases hbc:b=c
   ·subst hbc
    simp only[C',if_true,Option.some.injEq]at hb
    exact⟨fun h=>(hown' b h).2 rfl,cur,_,_,hcur,hb⟩
   ·simp only[C',if_neg hbc]at hb
    obtain⟨h1,h2⟩:=R.imm b a hb
    exact⟨fun h=>h1 (hown' b h).1,h2⟩
  ·obtain⟨a,ha,hv⟩:=R.glob g cs hg
   exact⟨a,hI g a ha,hv.mono A⟩
theorem Rel.renameAt {G:Nat→Option (List AV)} {C:Ctx} {w:World} (R:Rel G C w) {k:Nat} {e:TypeId} {size:Nat} {cs:List AV} (hk:C.H.get k=some (.row e size cs)) (H':AHeap) (m len:Nat) (hlen:len*size≤cs.length) (hsz:0<size)
  (hm':C.H.free m) (hnx:C.H.next≤H'.next) (hn:m<H'.next) (hk':H'.get k=none) (hmk:H'.get m=some (.row e size (cs.take (len*size))))
  (hs:HTz k (fun l=>if l=len then some (.slc m len)else none) none C.H H' (fun j=>j=m)) :
  ∃C',C'.H=H'∧Rel G C' w∧Adv C w C' w∧∀{x y},Tz k (fun l=>if l=len then some (.slc m len)else none) none x y→∀v,VR C x v→VR C' y v:=by
 obtain⟨hklt,_,n,v0,ys,hown,hys,hv⟩:=R.pres k _ hk
 let f:Nat→Option AV:=fun l=>if l=len then some (.slc m len)else none
 have hfr:=R.get_free hm'
 have hkm:m≠k:=fun e=>by
  rw[e,hk]at hfr
  rcases hfr with h | h<;>cases h
 have hlt:∀j,j<C.H.next→j≠m∨C.H.get j=some .held:=fun j hj=>by
  by_cases e:j=m
  ·subst e
   rcases hm' with h | h
   ·omega
   ·exact .inr h
  ·exact .inl e
 have hsub:∀j o',H'.get j=some o'→j≠m→j≠k∧∃o,C.H.get j=some o∧OTz k f none o o':=fun j o' hj hjm=>by
  refine⟨fun e=>(by subst e;rw[hk']at hj;cases hj),?_⟩
  rcases hs j with h | h | ⟨o,o2,h1,h2,h3⟩
  ·exact absurd h hjm
  ·rw[h]at hj;cases hj
  ·rw[hj]at h2;cases h2;exact⟨o,h1,h3⟩
 let C':Ctx:={ H:=H',μ:=upd C.μ m (C.μ k),I:=C.I }
 have hμ:∀j,j≠m→C'.μ j=C.μ j:=fun j hj=>upd_ne _ _ hj
 have hμm:C'.μ m=C.μ k:=upd_same _ _ _
 have hown':∀b,C'.owns b→C.owns b:=fun b ⟨j,oj,cap',hj,hmj⟩=>by
  by_cases hjm:j=m
  ·subst hjm
   rw[hμm]at hmj
   exact⟨k,_,cap',hk,hmj⟩
  ·obtain⟨_,o,h1,_⟩:=hsub j oj hj hjm
   rw[hμ j hjm]at hmj
   exact⟨j,o,cap',h1,hmj⟩
 have A:Adv C w C' w:=by
  refine⟨hnx,fun j hj hrj=>⟨rfl,?_⟩,fun _ _ h=>h,fun b hb => .inr (hown' b hb),fun b a hb => .inl hb,fun _ _ _=>rfl,Nat.le_refl _,rfl,rfl,rfl⟩
  rcases hlt j hj with hjm | hjh
  ·exact OTz.sig (k:=k) (f:=f) (g:=none) (C':=C') (hμ j hjm) ((hs j).resolve_left hjm)
  ·unfold SigLe;simp only[hjh]
 have htk:VRs C (cs.take (len*size)) (ys.take (len*size)):=by
  refine⟨by simp[hys.1],fun i x y hx hy=>?_⟩
  rw[List.getElem?_take]at hx hy
  split at hx
  ·rename_i h;rw[if_pos h]at hy;exact hys.2 i x y hx hy
  ·cases hx
 have hcslen:cs.length=n*size:=by rw[hys.1,hown.1]
 have hln:len≤n:=by rw[hcslen]at hlen;exact Nat.le_of_mul_le_mul_right hlen hsz
 have hobj:ObjRel C' w m (.row e size (cs.take (len*size))):=by
  rcases hown.2 with ⟨h1,h2⟩ | ⟨g,cap',cur,h,hg0,hcur,hncap,hcm,hcsz,htake⟩
  ·subst h2
   have:len=0:=by omega
   subst this
   cases hmk2:C.μ k with
   | some p=>simp only[hmk2]at hv;rw[hv]at h1;cases h1
   | none=>
    refine⟨0,.slice none 0 0,[],⟨by simp,.inl ⟨rfl,rfl⟩⟩,by simpa using htk.mono A,?_⟩
    rw[hμm,hmk2]
  ·cases hmk2:C.μ k with
   | none=>simp only[hmk2]at hv;rw[hv]at h;cases h
   | some p=>
    obtain⟨c,cap⟩:=p
    simp only[hmk2]at hv
    rw[hv]at h
    cases h
    refine⟨len,.slice (some ⟨g,0,none⟩) len cap',ys.take (len*size),⟨?_,.inr ⟨g,cap',cur,rfl,hg0,hcur,by omega,hcm,hcsz,?_⟩⟩,htk.mono A,?_⟩
    ·rw[List.length_take,←hys.1];omega
    ·rw[←htake,List.take_take]
     congr 1
     have:len*size≤n*size:=Nat.mul_le_mul_right _ hln
     omega
    ·rw[hμm,hmk2]
 have hmv:∀{x y},Tz k f none x y→∀v,VR C x v→VR C' y v:=fun h=>h.move A (fun l y v hy hx=>by
  simp only[f]at hy
  split at hy
  case isFalse=>cases hy
  rename_i hl
  subst hl
  cases hy
  cases hx with
  | slc _ _ a cap0 h=>
   obtain⟨_,_,h⟩:=h
   simp only[hk]at h
   refine .slc m l a cap0 ⟨hn,rfl,?_⟩
   have e:C'.H.get m=some (.row e size (cs.take (l*size))):=hmk
   simp only[e,hμm]
   exact⟨by rw[List.length_take];omega,h.2⟩) (fun y v hy=>by cases hy)
 refine⟨C',rfl,⟨fun j oj hj=>?_,fun k1 k2 o1 o2 b cap1 cap2 hk1 hk2 hm1 hm2=>?_,fun b a hb=>?_,fun g cs hg=>?_⟩,A,hmv⟩
 ·by_cases hjm:j=m
  ·subst hjm
   have hj':H'.get j=some oj:=hj
   rw[hmk]at hj'
   cases hj'
   exact⟨hn,rfl,hobj⟩
  ·obtain⟨_,o,h1,h2⟩:=hsub j oj hj hjm
   have h:=R.pres j o h1
   exact⟨show j<H'.next from Nat.lt_of_lt_of_le h.1 hnx,rfl,h2.move A hmv (hμ j hjm) h.2.2⟩
 ·by_cases h1m:k1=m<;>by_cases h2m:k2=m
  ·rw[h1m,h2m]
  ·obtain⟨hne,p2,h2,_⟩:=hsub k2 o2 hk2 h2m
   subst h1m
   rw[hμm]at hm1
   rw[hμ k2 h2m]at hm2
   exact absurd (R.inj k k2 _ p2 b cap1 cap2 hk h2 hm1 hm2).symm hne
  ·obtain⟨hne,p1,h1,_⟩:=hsub k1 o1 hk1 h1m
   subst h2m
   rw[hμm]at hm2
   rw[hμ k1 h1m]at hm1
   exact absurd (R.inj k1 k p1 _ b cap1 cap2 h1 hk hm1 hm2) hne
  ·obtain⟨_,p1,h1,_⟩:=hsub k1 o1 hk1 h1m
   obtain⟨_,p2,h2,_⟩:=hsub k2 o2 hk2 h2m
   rw[hμ k1 h1m]at hm1
   rw[hμ k2 h2m]at hm2
   exact R.inj k1 k2 p1 p2 b cap1 cap2 h1 h2 hm1 hm2
 ·obtain⟨h1,h2⟩:=R.imm b a hb
  exact⟨fun h=>h1 (hown' b h),h2⟩
 ·obtain⟨a,ha,hv⟩:=R.glob g cs hg
  exact⟨a,ha,hv.mono A⟩
theorem Rel.rename {G:Nat→Option (List AV)} {C:Ctx} {w:World} (R:Rel G C w) {k:Nat} {e:TypeId} {size:Nat} {cs:List AV} (hk:C.H.get k=some (.row e size cs)) (H':AHeap) (m len:Nat) (hlen:len*size≤cs.length) (hsz:0<size)
  (hm':C.H.next≤m) (hn:m<H'.next) (hk':H'.get k=none) (hmk:H'.get m=some (.row e size (cs.take (len*size))))
  (hs:HTz k (fun l=>if l=len then some (.slc m len)else none) none C.H H' (fun j=>j=m)) :
  ∃C',C'.H=H'∧Rel G C' w∧Adv C w C' w∧∀{x y},Tz k (fun l=>if l=len then some (.slc m len)else none) none x y→∀v,VR C x v→VR C' y v:=
 R.renameAt hk H' m len hlen hsz (.inl hm') (Nat.le_trans hm' (Nat.le_of_lt hn)) hn hk' hmk hs
theorem Rel.nilRow {G:Nat→Option (List AV)} {C:Ctx} {w:World} (R:Rel G C w) (H':AHeap) (m:Nat) (e:TypeId) (size:Nat) (hm':C.H.next≤m) (hn:m<H'.next) (hmk:H'.get m=some (.row e size []))
  (hs:HTz 0 (fun _=>none) (some (.slc m 0)) C.H H' (fun j=>j=m)) :
  ∃C',C'.H=H'∧Rel G C' w∧Adv C w C' w∧∀{x y},Tz 0 (fun _=>none) (some (.slc m 0)) x y→∀v,VR C x v→VR C' y v:=by
 have hsub:∀j o',H'.get j=some o'→j≠m→∃o,C.H.get j=some o∧OTz 0 (fun _=>none) (some (.slc m 0)) o o':=fun j o' hj hjm=>by
  rcases hs j with h | h | ⟨o,o2,h1,h2,h3⟩
  ·exact absurd h hjm
  ·rw[h]at hj;cases hj
  ·rw[hj]at h2;cases h2;exact⟨o,h1,h3⟩
 let C':Ctx:={ H:=H',μ:=upd C.μ m none,I:=C.I }
 have hμ:∀j,j≠m→C'.μ j=C.μ j:=fun j hj=>upd_ne _ _ hj
 have hμm:C'.μ m=none:=upd_same _ _ _
 have hown':∀b,C'.owns b→C.owns b:=fun b ⟨j,oj,cap',hj,hmj⟩=>by
  by_cases hjm:j=m
  ·subst hjm
   rw[hμm]at hmj
   cases hmj
  ·obtain⟨o,h1,_⟩:=hsub j oj hj hjm
   rw[hμ j hjm]at hmj
   exact⟨j,o,cap',h1,hmj⟩
 have A:Adv C w C' w:=by
  refine⟨show C.H.next≤H'.next by omega,fun j hj hrj=>⟨rfl,OTz.sig (k:=0) (f:=fun _=>none) (g:=some (.slc m 0)) (C':=C') (hμ j (by omega)) ?_⟩,fun _ _ h=>h,fun b hb => .inr (hown' b hb),fun b a hb => .inl hb,fun _ _ _=>rfl,Nat.le_refl _,rfl,rfl,rfl⟩
  exact(hs j).resolve_left (fun h=>by subst h;omega)
 have hmv:∀{x y},Tz 0 (fun _=>none) (some (.slc m 0)) x y→∀v,VR C x v→VR C' y v:=fun h=>h.move A (fun l y v hy=>by cases hy) (fun y v hy hx=>by
  cases hy
  cases hx
  refine .slc m 0 none 0 ⟨hn,rfl,?_⟩
  have e:C'.H.get m=some (.row e size []):=hmk
  simp only[e,hμm]
  exact⟨by simp,trivial,trivial⟩)
 refine⟨C',rfl,⟨fun j oj hj=>?_,fun k1 k2 o1 o2 b cap1 cap2 hk1 hk2 hm1 hm2=>?_,fun b a hb=>?_,fun g cs hg=>?_⟩,A,hmv⟩
 ·by_cases hjm:j=m
  ·subst hjm
   have hj':H'.get j=some oj:=hj
   rw[hmk]at hj'
   cases hj'
   refine⟨hn,rfl,0,.slice none 0 0,[],⟨by simp,.inl ⟨rfl,rfl⟩⟩,⟨rfl,fun i x y hx=>by simp at hx⟩,?_⟩
   rw[hμm]
  ·obtain⟨o,h1,h2⟩:=hsub j oj hj hjm
   have h:=R.pres j o h1
   exact⟨show j<H'.next by omega,rfl,h2.move A hmv (hμ j hjm) h.2.2⟩
 ·have g1:k1≠m:=fun h=>by subst h;rw[hμm]at hm1;cases hm1
  have g2:k2≠m:=fun h=>by subst h;rw[hμm]at hm2;cases hm2
  obtain⟨p1,h1,_⟩:=hsub k1 o1 hk1 g1
  obtain⟨p2,h2,_⟩:=hsub k2 o2 hk2 g2
  rw[hμ k1 g1]at hm1
  rw[hμ k2 g2]at hm2
  exact R.inj k1 k2 p1 p2 b cap1 cap2 h1 h2 hm1 hm2
 ·obtain⟨h1,h2⟩:=R.imm b a hb
  exact⟨fun h=>h1 (hown' b h),h2⟩
 ·obtain⟨a,ha,hv⟩:=R.glob g cs hg
  exact⟨a,ha,hv.mono A⟩
section
variable {G:Nat→Option (List AV)} {a a':List AV} {H H':AHeap}
theorem Weak.of_move {k:Nat} {f:Nat→Option AV} {g:Option AV} (ht:Tzs k f g a a')
  (h:∀(C:Ctx) (w:World),Rel G C w→C.H=H→∃C',C'.H=H'∧Rel G C' w∧Adv C w C' w∧∀{x y},Tz k f g x y→∀v,VR C x v→VR C' y v):Weak G a H a' H':=by
 intro C w R hH
 obtain⟨C',h1,R',A',hv⟩:=h C w R hH
 exact⟨C',h1,R',A',fun ys hys=>Tzs.move hv ht hys⟩
theorem Weak.freeze {k:Nat} {e:TypeId} {size:Nat} {cs:List AV} (hk:H.get k=some (.row e size cs)) (hsz:0<size) (hn:H.next≤H'.next) (hk':H'.get k=none)
  (hs:HTz k (fun len=>some (.lst len cs)) none H H' (fun _=>False)) (ht:Tzs k (fun len=>some (.lst len cs)) none a a'):Weak G a H a' H':=
 Weak.of_move ht fun C w R hH=>by subst hH;exact R.freeze hk hsz H' hn hk' hs
theorem Weak.rename {k:Nat} {e:TypeId} {size:Nat} {cs:List AV} (hk:H.get k=some (.row e size cs)) (hsz:0<size) (m len:Nat) (hlen:len*size≤cs.length) (hm:H.next≤m) (hn:m<H'.next) (hk':H'.get k=none)
  (hmk:H'.get m=some (.row e size (cs.take (len*size)))) (hs:HTz k (fun l=>if l=len then some (.slc m len)else none) none H H' (fun j=>j=m))
  (ht:Tzs k (fun l=>if l=len then some (.slc m len)else none) none a a'):Weak G a H a' H':=
 Weak.of_move ht fun C w R hH=>by subst hH;exact R.rename hk H' m len hlen hsz hm hn hk' hmk hs
theorem Weak.renameAt {k:Nat} {e:TypeId} {size:Nat} {cs:List AV} (hk:H.get k=some (.row e size cs)) (hsz:0<size) (m len:Nat) (hlen:len*size≤cs.length) (hm:H.free m) (hnx:H.next≤H'.next) (hn:m<H'.next) (hk':H'.get k=none)
  (hmk:H'.get m=some (.row e size (cs.take (len*size)))) (hs:HTz k (fun l=>if l=len then some (.slc m len)else none) none H H' (fun j=>j=m))
  (ht:Tzs k (fun l=>if l=len then some (.slc m len)else none) none a a'):Weak G a H a' H':=
 Weak.of_move ht fun C w R hH=>by subst hH;exact R.renameAt hk H' m len hlen hsz hm hnx hn hk' hmk hs
theorem Weak.hold (n:Nat):Weak G a H a ⟨H.next+n,fun j=>if H.next≤j∧j<H.next+n then some .held else H.get j⟩:=by
 intro C w R hH
 subst hH
 let C':Ctx:={ H:=⟨C.H.next+n,fun j=>if C.H.next≤j∧j<C.H.next+n then some .held else C.H.get j⟩,μ:=fun j=>if C.H.next≤j then none else C.μ j,I:=C.I }
 have hget:∀j o,C'.H.get j=some o→(C.H.next≤j∧j<C.H.next+n∧o = .held)∨(j<C.H.next∧C.H.get j=some o):=by
  intro j o hj
  simp only[C']at hj
  split at hj
  ·rename_i h;cases hj;exact .inl ⟨h.1,h.2,rfl⟩
  ·exact .inr ⟨(R.pres j o hj).1,hj⟩
 have hlow:∀j,j<C.H.next→C'.H.get j=C.H.get j∧C'.μ j=C.μ j:=fun j hj=>by
  simp only[C']
  rw[if_neg (by omega),if_neg (by omega)]
  exact⟨rfl,rfl⟩
 have hown:∀b,C'.owns b→C.owns b:=by
  rintro b ⟨j,o,cap,hj,hm⟩
  rcases hget j o hj with ⟨h,_,_⟩ | ⟨h,h2⟩
  ·simp only[C']at hm;rw[if_pos h]at hm;cases hm
  ·rw[(hlow j h).2]at hm;exact⟨j,o,cap,h2,hm⟩
 have A:Adv C w C' w:=by
  refine⟨Nat.le_add_right _ _,fun j hj hr=>⟨rfl,?_⟩,fun _ _ h=>h,fun b hb => .inr (hown b hb),fun _ _ h => .inl h,fun _ _ _=>rfl,Nat.le_refl _,rfl,rfl,rfl⟩
  have hs:=SigLe.refl C j
  unfold SigLe at hs ⊢
  rw[(hlow j hj).1,(hlow j hj).2]
  exact hs
 refine⟨C',rfl,⟨fun j o hj=>?_,fun k1 k2 o1 o2 b cap1 cap2 hk1 hk2 hm1 hm2=>?_,fun b x hb=>?_,fun g cs hg=>?_⟩,A,fun ys hy=>hy.mono A⟩
 ·rcases hget j o hj with ⟨h,h2,rfl⟩ | ⟨h,h2⟩
  ·refine⟨h2,rfl,?_⟩
   show C'.μ j=none
   simp only[C']
   rw[if_pos h]
  ·have hp:=R.pres j o h2
   exact⟨Nat.lt_of_lt_of_le h (Nat.le_add_right _ _),rfl,hp.2.2.keep A (hlow j h).2 (fun _ _ _=>rfl)⟩
 ·rcases hget k1 o1 hk1 with ⟨h,_,_⟩ | ⟨h,g1⟩
  ·simp only[C']at hm1;rw[if_pos h]at hm1;cases hm1
  rcases hget k2 o2 hk2 with ⟨h',_,_⟩ | ⟨h',g2⟩
  ·simp only[C']at hm2;rw[if_pos h']at hm2;cases hm2
  rw[(hlow _ h).2]at hm1
  rw[(hlow _ h').2]at hm2
  exact R.inj k1 k2 o1 o2 b cap1 cap2 g1 g2 hm1 hm2
 ·obtain⟨h1,h2⟩:=R.imm b x hb
  exact⟨fun h=>h1 (hown b h),h2⟩
 ·obtain⟨x,hx,hv⟩:=R.glob g cs hg
  exact⟨x,hx,hv.mono A⟩
theorem Weak.nilRow (m:Nat) (e:TypeId) (size:Nat) (hm:H.next≤m) (hn:m<H'.next) (hmk:H'.get m=some (.row e size [])) (hs:HTz 0 (fun _=>none) (some (.slc m 0)) H H' (fun j=>j=m))
  (ht:Tzs 0 (fun _=>none) (some (.slc m 0)) a a'):Weak G a H a' H':=
 Weak.of_move ht fun C w R hH=>by subst hH;exact R.nilRow H' m e size hm hn hmk hs
theorem Weak.nilLst (ht:Tzs 0 (fun _=>none) (some (.lst 0 [])) a a'):Weak G a H a' H:=
 Weak.of_move ht fun C w R hH=>⟨C,hH,R,Adv.refl C w,fun h=>h.move (Adv.refl C w) (fun l y v hy=>by cases hy) fun y v hy hx=>by
  cases hy;cases hx;exact .lstNil⟩
theorem Weak.trans {b:List AV} {J:AHeap} (h:Weak G a H b J) (h':Weak G b J a' H'):Weak G a H a' H':=by
 intro C w R hH
 obtain⟨C1,h1,R1,A1,v1⟩:=h C w R hH
 obtain⟨C2,h2,R2,A2,v2⟩:=h' C1 w R1 h1
 exact⟨C2,h2,R2,A1.trans A2,fun ys hy=>v2 ys (v1 ys hy)⟩
end
theorem ACalls.weak {P:Program} {G:Nat→Option (List AV)} {f:FuncId} {args args':List AV} {H H':AHeap} {Q:ARes→AHeap→Prop} (hw:Weak G args H args' H') (h:ACalls P G f args' H' Q):ACalls P G f args H Q:=by
 intro C w xs R hH hv
 obtain⟨C',hH',R',A',hv'⟩:=hw C w R hH
 refine(h C' w xs R' hH' (hv' _ hv)).mono ?_
 rintro e w' ⟨r,C2,q,hr,R2,A2⟩
 exact⟨r,C2,q,hr,R2,A'.trans A2⟩
theorem ACalls.ret {P:Program} {G:Nat→Option (List AV)} {f:FuncId} {args:List AV} {H:AHeap} {Q:ARes→AHeap→Prop}
  (h:ACalls P G f args H fun r H'=>match r with | .ret v=>∃v' H2,Weak G [v] H' [v'] H2∧Q (.ret v') H2 | .pan v=>Q (.pan v) H'):ACalls P G f args H Q:=by
 intro C w xs R hH hv
 refine(h C w xs R hH hv).mono ?_
 rintro e w' ⟨r,C1,q,hr,R1,A1⟩
 cases r with
 | pan v=>exact⟨.pan v,C1,q,hr,R1,A1⟩
 | ret v=>
  obtain⟨v',H2,hw,hq⟩:=q
  cases e with
  | returned y=>
   obtain⟨C2,h2,R2,A2,v2⟩:=hw C1 w' R1 rfl
   have h3:=v2 [y] ⟨rfl,fun i a b ha hb=>by
    cases i with
    | zero=>simp only[List.getElem?_cons_zero,Option.some.injEq]at ha hb;subst ha;subst hb;exact hr
    | succ i=>simp at ha⟩
   exact⟨.ret v',C2,h2▸hq,h3.2 0 _ y rfl rfl,R2,A1.trans A2⟩
  | _=>exact hr.elim
end Go.Ab
namespace Go.Ab
open Go Go.Lib
def ModeRel (C:Ctx):Option AV→FrameMode→Prop
 | none,.returning=>True
 | some v,.panicking chain=>∃y,chain=[{ v:=y,recovered:=false }]∧VR C v y
 | _,_=>False
def DCalls (P:Program) (G:Nat→Option (List AV)) (g:FuncId) (caps:List AV) (H:AHeap) (pv:Option AV) (K:AHeap→Prop):Prop:=
 ∀(C:Ctx) (w:World) (args:Array Value) (u:FrameMode),Rel G C w→C.H=H→VRs C caps args.toList→ModeRel C pv u →
  CallsDIn (WF none) 0 P g args u w fun e u' w'=>∃v C',e = .returned v∧settle u' = .returning∧K C'.H∧Rel G C' w'∧Adv C w C' w'
def deferOps (t:Tmp) (g:FuncId) (caps:Array Operand):List MOp:=[⟨none,some t,.makeFunc (.func g) #[] caps⟩,⟨none,none,.defer ⟨.value (.tmp t),#[],#[]⟩⟩]
def deferA (P:Program) (G:Nat→Option (List AV)) (rs:List ResultVar) (Q:ARes→AHeap→Prop) (g:FuncId) (caps:List AV):APost
 | .normal,a,H=>DCalls P G g caps H none fun H'=>must (resultsA P G H' a rs) fun vs=>Q (.ret (oneOrTup vs)) H'
 | .ret,a,H=>DCalls P G g caps H none fun H'=>must (resultsA P G H' a rs) fun vs=>Q (.ret (oneOrTup vs)) H'
 | .pan v,a,H=>DCalls P G g caps H (some v) fun H'=>must (resultsA P G H' a rs) fun vs=>Q (.ret (oneOrTup vs)) H'
 | .exit _,_,_=>False
section
variable {P:Program} {G:Nat→Option (List AV)}
theorem ACalls.of_defer {f:FuncId} {fn:Func} {sA sB sE:SC} {t:Tmp} {g:FuncId} {caps:Array Operand} (hf:P.funcs[f]?=some fn) (hb:fn.body.map prep=some (.seq sA (.seq sB (.seq (.ops (deferOps t g caps)) sE))))
  (hg:bodyT P g=true) {args:List AV} {H:AHeap} {Q:ARes→AHeap→Prop} (rs:List ResultVar) (n:Nat) (hrs:fn.results.toList=rs) (hn:fn.ntmps=n)
  (h:awpS P G sA (thenA (awpS P G sB (thenA (fun a H=>t<a.length∧awpS P G sE (deferA P G rs Q g (caps.toList.map (ev a))) (a.set t (.func g (caps.toList.map (ev a)))) H) (bodyA P G rs Q))) (bodyA P G rs Q)) (args++List.replicate (n-args.length) .und) H)
  (nA:noRange sA=true:=by rfl) (nB:noRange sB=true:=by rfl) (nE:noRange sE=true:=by rfl):ACalls P G f args H Q:=by
 simp only[Option.map_eq_some_iff]at hb
 obtain⟨c,hc,hp⟩:=hb
 obtain⟨cA,c1,rfl,hA,h1⟩:=prep_inv hp
 obtain⟨cB,c2,rfl,hB,h2⟩:=prep_inv h1
 obtain⟨cD,cE,rfl,hD,hE⟩:=prep_inv h2
 obtain⟨id,ops,rfl,hops⟩:=prep_inv hD
 intro C w args' R hH hv
 subst hrs;subst hn
 have plain:∀(e':AExit) (e:Exit) (a':List AV) (C':Ctx) (ac':Act) (w':World),bodyA P G fn.results.toList Q e' a' C'.H→ExitRel C' e' e→ActRel C' a' ac'→ac'.defers=[]→Rel G C' w'→Adv C w C' w' →
   bodyPostM (WF none) 0 P fn (fun e w'=>∃r C',Q r C'.H∧ResRel C' r e∧Rel G C' w'∧Adv C w C' w') e ac' w':=by
  intro e' e a' C' ac' w' q he ha' hd' R' A'
  have ret:must (resultsA P G C'.H a' fn.results.toList) (fun vs=>Q (.ret (oneOrTup vs)) C'.H) →
    LeavesInM (WF none) 0 P fn ac'.tmps (fun e w'=>∃r C',Q r C'.H∧ResRel C' r e∧Rel G C' w'∧Adv C w C' w') ac'.defers .returning w':=by
   rintro⟨vs,hvs,hq⟩
   obtain⟨y,hy1,hy2⟩:=resultsA_run R' ha' hvs
   rw[hd']
   exact⟨y,hy1,_,C',hq,hy2,R',A'⟩
  cases e' with
  | normal=>cases e<;>first | exact he.elim | exact ret q
  | ret=>cases e<;>first | exact he.elim | exact ret q
  | exit i=>exact q.elim
  | pan v=>
   cases e<;>first | exact he.elim | skip
   show LeavesInM (WF none) 0 P fn ac'.tmps _ ac'.defers _ w'
   rw[hd']
   exact⟨_,C',q,he,R',A'⟩
 refine callsIn_WF.1 (callsIn_of_wp_marks (F:=WF none) (n:=0) hf hc trivial (wpIn_seq (wpIn_mono (awpS_ok sA _ _ _ h false (fun _=>nA) cA hA none (by simp) C w _ R hH ?_ [] rfl) ?_)))
 ·have hl:args.length=args'.size:=by simpa using hv.1
  unfold ActRel
  simp only[Array.toList_append,Array.toList_replicate,←hl]
  exact hv.append (VRs.replicate _ (.und undef))
 rintro e ac1 w1 ⟨e',a1,C1,q,he,ha1,hd1,R1,A1⟩
 cases e' with
 | exit i=>exact q.elim
 | ret=>cases e<;>first | exact he.elim | exact plain .ret _ a1 C1 ac1 w1 q he ha1 hd1.exact R1 A1
 | pan v=>cases e<;>first | exact he.elim | exact plain (.pan v) _ a1 C1 ac1 w1 q he ha1 hd1.exact R1 A1
 | normal=>
 cases e<;>first | exact he.elim | skip
 refine wpIn_seq (wpIn_mono (awpS_ok sB _ _ _ q false (fun _=>nB) cB hB none (by simp) C1 w1 _ R1 rfl ha1 [] hd1.exact) ?_)
 rintro e ac2 w2 ⟨e',a2,C2,q,he,ha2,hd2,R2,A2⟩
 cases e' with
 | exit i=>exact q.elim
 | ret=>cases e<;>first | exact he.elim | exact plain .ret _ a2 C2 ac2 w2 q he ha2 hd2.exact R2 (A1.trans A2)
 | pan v=>cases e<;>first | exact he.elim | exact plain (.pan v) _ a2 C2 ac2 w2 q he ha2 hd2.exact R2 (A1.trans A2)
 | normal=>
 cases e<;>first | exact he.elim | skip
 obtain⟨o0,o1,hl⟩:∃o0 o1,ops.toList=[o0,o1]:=by
  match hl:ops.toList,hops with
  | [o0,o1],_=>exact⟨o0,o1,rfl⟩
  | [],h=>simp[deferOps,hl]at h
  | [_],h=>simp[deferOps,hl]at h
  | _::_::_::_,h=>simp[deferOps,hl]at h
 have hpre:∀(o:Oper) (m:MOp),prepOp ops o=m→m.g=none→(∀x,m.op ≠ .panic x)→o.guard=none∧o.dst=m.d∧o.op=m.op:=by
  intro o m h1 h2 h3
  unfold prepOp at h1
  split at h1
  ·rename_i hg;subst h1;exact⟨hg,rfl,rfl⟩
  ·split at h1
   ·subst h1;cases h2
   ·subst h1;exact absurd rfl (h3 _)
 rw[hl]at hops
 simp only[List.map_cons,List.map_nil,deferOps,List.cons.injEq,and_true]at hops
 obtain⟨g0,d0,p0⟩:=hpre o0 _ hops.1 rfl (by simp)
 obtain⟨g1,d1,p1⟩:=hpre o1 _ hops.2 rfl (by simp)
 have hsz:ops.size=2:=by rw[←Array.length_toList,hl];rfl
 have i0:ops[0]?=some o0:=by rw[←Array.getElem?_toList,hl];rfl
 have i1:ops[1]?=some o1:=by rw[←Array.getElem?_toList,hl];rfl
 have hcaps:VRs C2 (caps.toList.map (ev a2)) (caps.map ac2.eval).toList:=ev_list ha2 caps
 obtain⟨ht,q⟩:=q
 let fv:Value := .func (.func g) #[] (caps.map ac2.eval)
 have hfv:VR C2 (.func g (caps.toList.map (ev a2))) fv := .func g _ _ (by simpa using hcaps.1) fun i x y hx hy=>hcaps.2 i x y hx (by simpa using hy)
 let ac3:Act:={ ac2.put (some t) fv with defers:={ target := .fn (.func g) (caps.map ac2.eval),args:=#[] }::ac2.defers }
 have ha3:ActRel C2 (a2.set t (.func g (caps.toList.map (ev a2)))) ac3:=ha2.put (some t) hfv
 have hd3:ac3.defers=[{ target := .fn (.func g) (caps.map ac2.eval),args:=#[] }]:=by show _::ac2.defers=_;rw[hd2.exact]
 have hev:(ac2.put (some t) fv).eval (.tmp t)=fv:=by
  have:t<ac2.tmps.size:=by
   have h:=ha2.1
   simp only[Array.length_toList]at h
   exact h▸ht
  simp[Act.eval,Act.put,this]
 refine wpIn_seq (wpIn_region ?_)
 rw[hsz,show List.range 2=[0,1]from rfl]
 simp only[wpOpsIn,i0,i1,Region.wanted,g0,g1,if_true]
 unfold Oper.wpIn
 refine⟨fun _ _=>trivial,?_⟩
 rw[Oper.semAt_none]
 have e0:(execOp ac2.eval o0).run P w2 = .ok (.value fv) w2:=by
  unfold execOp
  simp only[p0]
  simp[Instr.makeFunc,fv]
 rw[e0,Oper.uponIn_value,d0]
 refine⟨fun _ _=>trivial,?_⟩
 rw[Oper.semAt_none]
 have e1:(execOp (ac2.put (some t) fv).eval o1).run P w2 = .ok (.defer { target := .fn (.func g) (caps.map ac2.eval),args:=#[] }) w2:=by
  unfold execOp
  simp only[p1]
  simp only[resolve,hev]
  simp[fv,Deferred.ofValue]
 rw[e1,Oper.uponIn_defer,d1]
 show Code.wpIn (WF none) 0 P cE _ ac3 w2
 refine wpIn_mono (awpS_ok sE _ _ _ q false (fun _=>nE) cE hE none (by simp) C2 w2 ac3 R2 rfl ha3 _ hd3) ?_
 have hbg:∀w,(invoke (.fn (.func g) (caps.map ac2.eval)) #[]).run P w = .ok (.enter g (caps.map ac2.eval)) w:=by
  intro w
  unfold bodyT at hg
  split at hg
  case h_2=>cases hg
  rename_i fn' hfn
  simp only[Bool.and_eq_true,Bool.not_eq_true']at hg
  have hbn:fn'.body.isNone=false:=by
   cases hbo:fn'.body with
   | none=>rw[hbo]at hg;simp at hg
   | some c=>rfl
  simp only[invoke,Array.empty_append,callFunc,Sem.run_bind,run_program,Result.andThen_ok,hfn,hg.2,Bool.false_eq_true,if_false,hbn,Sem.run_pure]
 rintro e ac4 w4 ⟨e',a4,C4,q4,he4,ha4,hd4,R4,A4⟩
 have A24:Adv C w C4 w4:=(A1.trans A2).trans A4
 have leave:∀(pv:Option AV) (u:FrameMode),u ≠ .run→ModeRel C4 pv u→DCalls P G g (caps.toList.map (ev a2)) C4.H pv (fun H'=>must (resultsA P G H' a4 fn.results.toList) fun vs=>Q (.ret (oneOrTup vs)) H') →
   LeavesInM (WF none) 0 P fn ac4.tmps (fun e w'=>∃r C',Q r C'.H∧ResRel C' r e∧Rel G C' w'∧Adv C w C' w') ac4.defers u w4:=by
  intro pv u hu hm hdc
  rw[hd4.exact]
  refine⟨hu,.inr ⟨fun hh=>by simp[Fence.wide]at hh,_,_,_,_,rfl,hbg _,fun _ _=>trivial,(hdc C4 w4 _ u R4 rfl (hcaps.mono A4) hm).mono ?_⟩⟩
  rintro e u' w5 ⟨v,C5,rfl,hu',⟨vs,hvs,hq⟩,R5,A5⟩
  show LeavesInM (WF none) 0 P fn ac4.tmps _ [] (settle u') w5
  rw[hu']
  obtain⟨y,hy1,hy2⟩:=resultsA_run R5 (ha4.mono A5) hvs
  exact⟨y,hy1,_,C5,hq,hy2,R5,A24.trans A5⟩
 cases e' with
 | exit i=>exact q4.elim
 | normal=>cases e<;>first | exact he4.elim | exact leave none .returning (by simp) trivial q4
 | ret=>cases e<;>first | exact he4.elim | exact leave none .returning (by simp) trivial q4
 | pan v=>cases e<;>first | exact he4.elim | exact leave (some v) (.panicking _) (by simp) he4 q4
def recoverOps (t:Tmp) (l:List MOp):List MOp:=⟨none,some t,.call ⟨.builtin .recover,#[],#[]⟩⟩::l
def pvA:Option AV→AV
 | none => .nili
 | some v=>v
def endA (K:AHeap→Prop):APost
 | .normal,_,H=>K H
 | .ret,_,H=>K H
 | _,_,_=>False
def plainOp:Op→Bool
 | .call { callee := .value _,.. }=>false
 | _=>true
theorem awpOp_plain {mk:Bool} {o:Oper} {a:List AV} {H:AHeap} {next:List AV→AHeap→Prop} {Q:APost} {C0 C:Ctx} {w0 w:World} {ac:Act} {D:List Deferred}
  (A0:Adv C0 w0 C w) (R:Rel G C w) (hH:C.H=H) (ha:ActRel C a ac) (hd:ac.defers=D) (hp:plainOp o.op=true) (h:opS P G o.op o.dst a H next Q) :
  (∃r w' a' C',((execOp ac.eval o).run P w = .ok (.value r) w'∨((execOp ac.eval o).run P w = .ok .skip w'∧r=undef))∧next a' C'.H∧ActRel C' a' (ac.put o.dst r)∧(ac.put o.dst r).defers=D∧Rel G C' w'∧Adv C0 w0 C' w') ∨
  (∃v w',(execOp ac.eval o).run P w = .halt (.panic v) w'∧Behind mk D G C0 w0 Q (.panic [{ v,recovered:=false }]) ac w'):=by
 subst hH
 unfold opS at h
 split at h
 ·rename_i heq
  rw[heq]at hp
  cases hp
 ·rename_i x heq
  split at h
  case h_2=>exact h.elim
  rename_i t v hx
  have hxv:=ev_ok ha x
  rw[hx]at hxv
  refine .inr ?_
  generalize hxe:ac.eval x=xv at hxv
  cases hxv with
  | iface _ _ y hy=>
  refine⟨.iface t y,w,?_,.pan (.iface t v),a,C,h,⟨_,rfl,.iface _ _ _ hy⟩,ha,Marked.of_eq hd,R,A0⟩
  unfold execOp
  simp only[heq,hxe]
  simp[Instr.panic,goPanic]
 ·obtain⟨⟨v,H'⟩,hop,hn⟩:=h
  obtain⟨r,w',C',hrun,hH',hv,R',A'⟩:=opA_ok R ha (.inl (Nat.le_refl _)) hop
  refine .inl ⟨r,w',_,C',?_,by rw[hH'];exact hn,(ha.mono A').put o.dst hv,by rw[put_defers];exact hd,R',A0.trans A'⟩
  rcases hrun with hrun | ⟨hrun,rfl⟩
  ·exact .inl hrun
  ·exact .inr ⟨hrun,rfl⟩
theorem awpOps_plain {mk:Bool} {ops:Array Oper} {Q:APost} {C0:Ctx} {w0:World} {D:List Deferred} {cs:List Frame} {Q':Exit→Act→List Frame→World→Prop} (hQ:∀e ac w,Behind mk D G C0 w0 Q e ac w→Q' e ac cs w):∀(l:List Nat) (a:List AV) (H:AHeap) (C:Ctx) (w:World) (ac:Act),
  Adv C0 w0 C w→Rel G C w→C.H=H→ActRel C a ac→ac.defers=D→(∀i o,i∈l→ops[i]?=some o→plainOp (prepOp ops o).op=true)→awpOps P G ops Q l a H→wpOpsSIn (WF none) 0 P ops Q' l ac cs w
 | [],a,H,C,w,ac,A,R,hH,ha,hd,hp,h=>by
  subst hH
  exact hQ _ _ _ ⟨.normal,a,C,h,trivial,ha,Marked.of_eq hd,R,A⟩
 | i::rest,a,H,C,w,ac,A,R,hH,ha,hd,hp,h=>by
  simp only[awpOps]at h
  simp only[wpOpsSIn]
  have hp':∀i o,i∈rest→ops[i]?=some o→plainOp (prepOp ops o).op=true:=fun i o hi=>hp i o (List.mem_cons_of_mem _ hi)
  cases ho:ops[i]? with
  | none=>simp only[ho]at h;exact awpOps_plain hQ rest a H C w ac A R hH ha hd hp' h
  | some o=>
   simp only[ho]at h
   dsimp only
   refine⟨fun _ _=>trivial,?_⟩
   have hpo0:=hp i o List.mem_cons_self ho
   have hrun:plainOp o.op=true→∀a,ActRel C a ac→opS P G o.op o.dst a H (awpOps P G ops Q rest) Q→match (execOp ac.eval o).run P w with
     | .ok .recover w'=>
      match recoverD cs with
      | some (v,cs')=>wpOpsSIn (WF none) 0 P ops Q' rest (ac.put o.dst v) cs' w'
      | none=>wpOpsSIn (WF none) 0 P ops Q' rest (ac.put o.dst .nilIface) cs w'
     | .ok (.value v) w'=>wpOpsSIn (WF none) 0 P ops Q' rest (ac.put o.dst v) cs w'
     | .ok .skip w'=>wpOpsSIn (WF none) 0 P ops Q' rest (ac.put o.dst undef) cs w'
     | .halt (.panic v) w'=>Q' (.panic [{ v,recovered:=false }]) ac cs w'
     | _=>False:=fun hpo a ha h=>by
    rcases awpOp_plain (mk:=mk) A R hH ha hd hpo h with ⟨r,w',a',C',hr,hn,ha',hd',R',A'⟩ | ⟨v,w',hr,hb⟩
    ·have:=awpOps_plain hQ rest a' C'.H C' w' _ A' R' rfl ha' hd' hp' hn
     rcases hr with hr | ⟨hr,rfl⟩
     ·rw[hr];exact this
     ·rw[hr];exact this
    ·rw[hr];exact hQ _ _ _ hb
   unfold guardA at h
   cases hg:o.guard with
   | none=>
    simp only[hg]at h
    have hw:Region.wanted o (yielded ops ac.tmps)=true:=by simp only[Region.wanted,hg]
    rw[if_pos hw]
    simp only[prepOp,hg]at hpo0
    exact hrun hpo0 a ha h
   | some p=>
    obtain⟨j,want⟩:=p
    simp only[hg]at h
    split at h
    ·exact h.elim
    rename_i d hdst
    split at h
    case h_3=>exact h.elim
    case h_2=>
     rename_i hb
     have hw:Region.wanted o (yielded ops ac.tmps)=false:=by
      simp only[Region.wanted,hg,rel_skip ha hdst hb]
      cases want<;>rfl
     rw[if_neg (by rw[hw];simp)]
     exact awpOps_plain hQ rest _ H C w _ A R hH (ha.put o.dst (vr_undef C)) (by rw[put_defers];exact hd) hp' h
    rename_i b hb
    have hy:yielded ops ac.tmps j=some b:=by
      unfold yielded
      rw[hdst]
      simp only[Option.bind_some,rel_getD ha hb]
    by_cases hbw:b=want
    ·subst hbw
     have hw:Region.wanted o (yielded ops ac.tmps)=true:=by simp only[Region.wanted,hg,hy];cases b<;>rfl
     rw[if_pos hw]
     have h1:=h.1 rfl
     rw[set_same ha hb]at h1
     simp only[prepOp,hg,hdst]at hpo0
     exact hrun hpo0 a ha h1
    ·have hbn:b = !want:=by cases b<;>cases want<;>simp_all
     have hw:Region.wanted o (yielded ops ac.tmps)=false:=by
      simp only[Region.wanted,hg,hy]
      subst hbn
      cases want<;>rfl
     rw[if_neg (by rw[hw];simp)]
     have h1:=h.2 hbn
     rw[←hbn,set_same ha hb]at h1
     exact awpOps_plain hQ rest _ H C w _ A R hH (ha.put o.dst (vr_undef C)) (by rw[put_defers];exact hd) hp' h1
theorem DCalls.of {g:FuncId} {fn:Func} {s:SC} {t:Tmp} {l:List MOp} (hf:P.funcs[g]?=some fn) (hb:fn.body.map prep=some (.seq (.ops (recoverOps t l)) s)) {caps:List AV} {H:AHeap} {pv:Option AV} {K:AHeap→Prop} (n:Nat)
  (hrs:fn.results.toList=[]) (hn:fn.ntmps=n)
  (h:opsS P G (thenA (awpS P G s (endA K)) (endA K)) l ((caps++List.replicate (n-caps.length) AV.und).set t (pvA pv)) H)
  (hpl:(l.all fun m=>plainOp m.op)=true:=by rfl) (nS:noRange s=true:=by rfl):DCalls P G g caps H pv K:=by
 simp only[Option.map_eq_some_iff]at hb
 obtain⟨c,hc,hp⟩:=hb
 obtain⟨cD,cE,rfl,hD,hE⟩:=prep_inv hp
 obtain⟨id,ops,rfl,hops⟩:=prep_inv hD
 intro C w args u R hH hv hm
 subst hn
 refine callsDIn_of_wpSIn (F:=WF none) (n:=0) hf hc trivial fun c₀ cs hu=>?_
 obtain⟨o0,os,hl⟩:∃o0 os,ops.toList=o0::os:=by
  match hl:ops.toList,hops with
  | o0::os,_=>exact⟨o0,os,rfl⟩
  | [],h=>simp[recoverOps,hl]at h
 rw[hl]at hops
 simp only[List.map_cons,recoverOps,List.cons.injEq]at hops
 obtain⟨hop0,hops⟩:=hops
 have hpre:o0.guard=none∧o0.dst=some t∧o0.op = .call ⟨.builtin .recover,#[],#[]⟩:=by
  unfold prepOp at hop0
  split at hop0
  ·rename_i hg
   simp only[MOp.mk.injEq]at hop0
   exact⟨hg,hop0.2.1,hop0.2.2⟩
  ·split at hop0
   ·simp only[MOp.mk.injEq]at hop0
    cases hop0.1
   ·simp only[MOp.mk.injEq]at hop0
    cases hop0.2.2
 obtain⟨g0,d0,p0⟩:=hpre
 have i0:ops[0]?=some o0:=by rw[←Array.getElem?_toList,hl];rfl
 have hsz:ops.size=os.length+1:=by rw[←Array.length_toList,hl];rfl
 have hdrop:ops.toList.drop 1=os:=by rw[hl];rfl
 have e0:∀ac:Act,(execOp ac.eval o0).run P w = .ok .recover w:=by
  intro ac
  unfold execOp
  simp only[p0]
  simp[resolve,invoke,builtin]
 have ha0:ActRel C (caps++List.replicate (fn.ntmps-caps.length) AV.und) { tmps:=args++Array.replicate (fn.ntmps-args.size) undef,defers:=[] }:=by
  have hl:caps.length=args.size:=by simpa using hv.1
  unfold ActRel
  simp only[Array.toList_append,Array.toList_replicate,←hl]
  exact hv.append (VRs.replicate _ (.und undef))
 have hdef:∀(v:Value),(({ tmps:=args++Array.replicate (fn.ntmps-args.size) undef,defers:=[] }:Act).put (some t) v).defers=[]:=fun _=>rfl
 generalize ({ tmps:=args++Array.replicate (fn.ntmps-args.size) undef,defers:=[] }:Act)=ac0 at *
 have go:∀(csX:List Frame) (u1:FrameMode) (v:Value),csX={ c₀ with mode:=u1 }::cs→settle u1 = .returning→VR C (pvA pv) v →
   wpOpsSIn (WF none) 0 P ops (Exit.thenS (cE.wpSIn (WF none) 0 P (bodyPostS P fn c₀ cs fun e u' w'=>∃v C',e = .returned v∧settle u' = .returning∧K C'.H∧Rel G C' w'∧Adv C w C' w'))
    (bodyPostS P fn c₀ cs fun e u' w'=>∃v C',e = .returned v∧settle u' = .returning∧K C'.H∧Rel G C' w'∧Adv C w C' w')) ((List.range' 1 os.length)) (ac0.put o0.dst v) csX w:=by
  intro csX u1 v hcs hset hv1
  subst hcs
  have post:∀(e':AExit) (e:Exit) (a':List AV) (C':Ctx) (ac':Act) (w':World),endA K e' a' C'.H→ExitRel C' e' e→ActRel C' a' ac'→ac'.defers=[]→Rel G C' w'→Adv C w C' w' →
    bodyPostS P fn c₀ cs (fun e u' w'=>∃v C',e = .returned v∧settle u' = .returning∧K C'.H∧Rel G C' w'∧Adv C w C' w') e ac' ({ c₀ with mode:=u1 }::cs) w':=by
   intro e' e a' C' ac' w' q he ha' hd' R' A'
   have hres:∃y,(results fn ac'.tmps).run P w' = .ok y w':=by
    obtain⟨y,hy,_⟩:=resultsA_run (fn:=fn) R' ha' (vs:=[]) (by rw[hrs];rfl)
    exact⟨y,hy⟩
   obtain⟨y,hy⟩:=hres
   cases e' with
   | normal=>cases e<;>first | exact he.elim | exact⟨hd',u1,rfl,y,hy,y,C',rfl,hset,q,R',A'⟩
   | ret=>cases e<;>first | exact he.elim | exact⟨hd',u1,rfl,y,hy,y,C',rfl,hset,q,R',A'⟩
   | exit i=>exact q.elim
   | pan v=>exact q.elim
  refine awpOps_plain (mk:=false) (C0:=C) (w0:=w) (D:=[]) (Q:=thenA (awpS P G s (endA K)) (endA K)) ?_ (List.range' 1 os.length) _ H C w (ac0.put o0.dst v) (Adv.refl C w) R hH (by rw[d0];exact ha0.put (some t) hv1) (by rw[d0];exact hdef v) ?_
   (opsS_awpOps (ops:=ops) os.length 1 _ _ (by omega) (by rw[hdrop,hops];exact h))
  ·rintro e ac1 w1 ⟨e',a1,C1,q,he,ha1,hd1,R1,A1⟩
   cases e' with
   | normal=>
    cases e<;>first | exact he.elim | skip
    refine wpSIn_of_wpIn rfl (wpIn_mono (awpS_ok s _ _ _ q false (fun _=>nS) cE hE none (by simp) C1 w1 ac1 R1 rfl ha1 [] hd1.exact) ?_)
    rintro e ac2 w2 ⟨e',a2,C2,q2,he2,ha2,hd2,R2,A2⟩
    exact post e' e a2 C2 ac2 w2 q2 he2 ha2 hd2.exact R2 (A1.trans A2)
   | ret=>cases e<;>first | exact he.elim | exact post .ret _ a1 C1 ac1 w1 q he ha1 hd1.exact R1 A1
   | exit i=>exact q.elim
   | pan v=>exact q.elim
  ·intro i o hi hoi
   obtain⟨h1,h2⟩:=List.mem_range'_1.1 hi
   have ho:os[i-1]?=some o:=by
    have:ops.toList[i]?=some o:=by rw[Array.getElem?_toList];exact hoi
    rw[hl]at this
    obtain⟨i',rfl⟩:∃i',i=i'+1:=⟨i-1,by omega⟩
    simpa using this
   have hmem:prepOp ops o∈l:=by rw[←hops];exact List.mem_map_of_mem (List.mem_of_getElem? ho)
   exact List.all_eq_true.1 hpl _ hmem
 refine wpSIn_seq (wpSIn_region ?_)
 rw[hsz,show List.range (os.length+1)=0::List.range' 1 os.length from by rw[List.range_eq_range',List.range'_succ]]
 simp only[wpOpsSIn,i0,Region.wanted,g0,if_true,e0]
 refine⟨fun _ _=>trivial,?_⟩
 cases pv with
 | none=>
  cases u<;>first | exact hm.elim | skip
  have hr:recoverD (c₀::cs)=none:=by simp only[recoverD,hu]
  rw[hr]
  exact go _ .returning .nilIface (by rw[←hu]) rfl .nili
 | some v=>
  cases u<;>first | exact hm.elim | skip
  obtain⟨y,rfl,hy⟩:=hm
  have hr:recoverD (c₀::cs)=some (y,{ c₀ with mode := .panicking [{ v:=y,recovered:=true }] }::cs):=by simp only[recoverD,hu]
  rw[hr]
  exact go _ (.panicking [{ v:=y,recovered:=true }]) y rfl rfl hy
end
end Go.Ab
namespace Go.Ab
open Go Go.Lib Go.RowKit Go.Shelf Go.Proofs
section
variable {P:Program} {ρ:Ren} {G:Nat→Option (List AV)}
theorem AHeap.set_same {H:AHeap} {k:Nat} {o:AObj} (h:H.get k=some o):H.set k o=H:=by
 obtain⟨n,g⟩:=H
 unfold AHeap.set
 have:(fun j=>if j=k then some o else g j)=g:=by
  funext j;split
  ·rename_i e;rw[e];exact h.symm
  ·rfl
 show(⟨n,_⟩:AHeap)=⟨n,g⟩
 exact congrArg _ this
theorem one_ptr {C:Ctx} {k:Nat} {args:Array Value} (h:VRs C [.ptr k 0] args.toList) {o:AObj} (hk:C.H.get k=some o) (ho:∀es,o ≠ .map es) :
  ∃c cap,C.μ k=some (c,cap)∧args=#[.pointer (some ⟨c,0,none⟩)]:=by
 obtain⟨l⟩:=args
 match l,h with
 | [],h=>have:=h.1;simp at this
 | _::_::_,h=>have:=h.1;simp at this
 | [y],h=>
  have h1:=h.2 0 _ y rfl rfl
  cases h1 with
  | ptr _ _ a ha=>
   obtain⟨_,_,ha⟩:=ha
   rw[hk]at ha
   cases o with
   | map es=>exact(ho es rfl).elim
   | held=>exact ha.elim
   | _=>obtain⟨c,cap,h1,h2⟩:=ha;exact⟨c,cap,h1,by rw[h2]⟩
theorem Bld.copyCheck (L:Lays.n240 P ρ) (X:Builder.X72 P ρ) (h72:ρ.t 72≠0) {H:AHeap} {k:Nat} {b0 b1:AV} (hk:H.get k=some (.cells (ρ.t 72) [b0,b1])) (hb:b0 = .nilp∨b0 = .ptr k 0) :
  ACalls P G (ρ.f 240) [.ptr k 0] H fun r H'=>r = .ret (.tup [])∧H'=H.set k (.cells (ρ.t 72) [.ptr k 0,b1]):=by
 intro C w args R hH hv
 subst hH
 obtain⟨c,cap,hm,rfl⟩:=one_ptr hv hk (by simp)
 obtain⟨c',cap',arr,lo,hi,h1,⟨e',h2,h5⟩,h3,h4⟩:=(R.pres k _ hk).2.2
 rw[hm]at h1;cases h1
 obtain⟨rfl,hsz,_,_⟩:=h5 h72
 have hsz:arr.size=2:=hsz
 obtain⟨y0,hy0,hv0⟩:=h3 0 b0 rfl
 have hc0:w.cell? ⟨c,0,none⟩=some y0:=by simp only[World.cell?,h2];simpa using hy0
 rcases hb with rfl | rfl
 ·cases hv0
  have hsh:w.shape? c=some (ρ.t 72,2):=by simp only[World.shape?,h2,hsz];rfl
  refine(Any.Builder_copyCheck_fresh L X c w hc0 hsh (frozen_none h2 h4 (by omega))).mono ?_
  rintro e w' ⟨rfl,rfl⟩
  have hptr:VR C (.ptr k 0) (.pointer (some ⟨c,0,none⟩)) := .ptr k 0 _ ⟨(R.pres k _ hk).1,rfl,by rw[hk];exact⟨c,cap,hm,rfl⟩⟩
  obtain⟨_,R',A'⟩:=store_one (P:=P) R (off:=0) (cs:=[.nilp,b1]) (.cells (ρ.t 72)) (.inl ⟨_,rfl⟩) hk rfl hm (by simp) hptr rfl
  exact⟨.ret (.tup []),_,⟨rfl,rfl⟩,.tup [] _ rfl (fun i x y hx=>by simp at hx),R',A'⟩
 ·refine(Any.Builder_copyCheck_used L X c w ?_).mono ?_
  ·rw[hc0]
   cases hv0 with
   | ptr _ _ a ha=>
    obtain⟨_,_,ha⟩:=ha
    rw[hk]at ha
    obtain⟨c2,cap2,h1,h2⟩:=ha
    rw[hm]at h1;cases h1
    rw[h2]
  ·rintro e w' ⟨rfl,rfl⟩
   exact⟨.ret (.tup []),C,⟨rfl,(AHeap.set_same hk).symm⟩,.tup [] _ rfl (fun i x y hx=>by simp at hx),R,Adv.refl C _⟩
set_option maxHeartbeats 1000000 in
set_option maxRecDepth 100000 in
theorem Bld.string_row (L:Lays.n169 P ρ) (X:Builder.Extra P ρ) (b g cap:Nat) (p:Value) (cur:Array Value) (l:List UInt8) (w:World) (h0:l≠[]) (hbk:w.heap[b]?=some (.cells #[p,.slice (some ⟨g,0,none⟩) l.length cap] (ρ.t 72) (0,0)))
  (hg:w.heap[g]?=some (.cells cur (ρ.t 5) (0,0))) (hnc:l.length≤cap) (hcm:cap≤maxLen) (hcs:cur.size=cap*1) (htake:cur.toList.take (l.length*1)=Lib.byteCells l) :
  Calls P (ρ.f 169) #[.pointer (some ⟨b,0,none⟩)] w fun e w'=>e = .returned (.string ⟨l.toArray⟩)∧w'=w.drew.freeze ⟨g,0,none⟩ l.length:=by
 have hl0:l.length≠0:=by simpa using h0
 have hown:w.ownsRow 0 (ρ.t 5) 1 (.slice (some ⟨g,0,none⟩) l.length cap) l.length (Lib.byteCells l):=⟨by simp[Lib.byteCells],.inr ⟨g,cap,cur,rfl,Nat.zero_le _,hg,hnc,hcm,hcs,htake⟩⟩
 have c1:w.drew.cell? ⟨b,1,none⟩=some (.slice (some ⟨g,0,none⟩) l.length cap):=by
  have:w.drew.heap[b]?=some (.cells #[p,.slice (some ⟨g,0,none⟩) l.length cap] (ρ.t 72) (0,0)):=hbk
  rw[Lib.cell_of_heap this];rfl
 have hSD:(Builtin.unsafeSliceData_ #[(ρ.t 37)] (ρ.t 127) #[.slice (some ⟨g,0,none⟩) l.length cap]).run P w.drew = .ok (.pointer (some ⟨g,0,none⟩)) w.drew:=
  Lib.run_unsafeSliceData_row _ _ _ _ _ _ (by omega)
 have hUS:(Builtin.unsafeString_ #[(ρ.t 127),(ρ.t 3)] (ρ.t 9) #[.pointer (some ⟨g,0,none⟩),.int .i64 l.length]).run P w.drew = .ok (.string ⟨l.toArray⟩) (w.drew.freeze ⟨g,0,none⟩ l.length):=by
  refine Lib.run_unsafeString_row w.drew (ρ.t 127) (ρ.t 3) (ρ.t 9) (ρ.t 5) L.t127 X.cellsByte g cur.size (by have hg':w.drew.heap[g]?=some (.cells cur (ρ.t 5) (0,0)):=hg;simp[World.shape?,hg']) l h0 (by omega) (by unfold maxLen at hcm;omega) ?_
  intro j x hx
  have:=hown.cells (g:=g) rfl j (.int .u8 x.toNat) (by simp[Lib.byteCells,hx])
  exact this
 have mixed:=L.mixed
 have t72:=L.t72;have a72:=L.a72;have z72:=L.z72;have v72:=L.v72;have u72:=run_underlying L.t72
 have t70:=L.t70;have a70:=L.a70;have z70:=L.z70;have v70:=L.v70;have u70:=run_underlying L.t70
 have t37:=L.t37;have a37:=L.a37;have z37:=L.z37;have v37:=L.v37;have u37:=run_underlying L.t37
 have t127:=L.t127;have a127:=L.a127;have z127:=L.z127;have v127:=L.v127;have u127:=run_underlying L.t127
 have t3:=L.t3;have a3:=L.a3;have z3:=L.z3;have v3:=L.v3;have u3:=run_underlying L.t3
 have t9:=L.t9;have a9:=L.a9;have z9:=L.z9;have v9:=L.v9;have u9:=run_underlying L.t9
 have t5:=X.t5;have a5:=X.a5;have z5:=X.z5;have v5:=X.v5;have u5:=run_underlying X.t5
 clear hown htake hcs
 go_enter L.f169,Body.n169_ntmps ρ
 go_wp2
 go_region_o
 all_goals (go_wp2;go_ret;exact⟨rfl,rfl⟩)
theorem byteCells_of {C:Ctx}:∀{l:List UInt8} {ys:List Value},VRs C (l.map fun b=>AV.int .u8 b.toNat) ys→ys=Lib.byteCells l
 | [],ys,h=>by
  have:=h.1
  exact List.eq_nil_of_length_eq_zero (by simpa using this.symm)
 | b::l,ys,h=>by
  cases ys with
  | nil=>have:=h.1;simp at this
  | cons y ys=>
   have h1:=h.2 0 _ y rfl rfl
   cases h1
   rw[byteCells_of (l:=l) (ys:=ys) ⟨by have:=h.1;simpa using this,fun i a c ha hc=>h.2 (i+1) a c (by simpa using ha) (by simpa using hc)⟩]
   rfl
theorem Bld.string (L:Lays.n169 P ρ) (X:Builder.Extra P ρ) (h72:ρ.t 72≠0) {H:AHeap} {k j:Nat} {b0:AV} {l:List UInt8} (hk:H.get k=some (.cells (ρ.t 72) [b0,.slc j l.length])) (hj:H.get j=some (.row (ρ.t 5) 1 (l.map fun b => .int .u8 b.toNat))) :
  ACalls P G (ρ.f 169) [.ptr k 0] H fun r H'=>r = .ret (.str l)∧H'.next=H.next∧H'.get=(H.del j).get:=by
 intro C w args R hH hv
 subst hH
 obtain⟨c,cap,hm,rfl⟩:=one_ptr hv hk (by simp)
 obtain⟨c',cap',arr,lo,hi,h1,⟨e',h2,h5⟩,h3,h4⟩:=(R.pres k _ hk).2.2
 rw[hm]at h1;cases h1
 obtain⟨rfl,hsz,rfl,rfl⟩:=h5 h72
 obtain⟨y0,hy0,hv0⟩:=h3 0 b0 rfl
 obtain⟨y1,hy1,hv1⟩:=h3 1 _ rfl
 have harr:arr=#[y0,y1]:=by
  apply Array.ext_getElem?
  intro i
  match i with
  | 0=>exact hy0
  | 1=>exact hy1
  | n+2=>
   have hsz:arr.size=2:=hsz
   simp[Array.getElem?_eq_none (show arr.size≤n+2 by omega)]
 subst harr
 obtain⟨_,_,n,v0,ys,hown,hys,hv'⟩:=R.pres j _ hj
 have hyb:=byteCells_of hys
 subst hyb
 have hn:n=l.length:=by have:=hown.1;simp[Lib.byteCells]at this;exact this.symm
 subst hn
 have hdel:∀i,(C.H.del j).get i=none∨(C.H.del j).get i=C.H.get i:=fun i=>by
  by_cases hij:i=j
  ·subst hij;exact .inl (by simp[AHeap.get_del])
  ·exact .inr (AHeap.get_del_ne _ hij)
 obtain⟨Rd,Ad⟩:=R.drop (C.H.del j) (by simp) (fun _ _ _=>rfl) hdel
 have fin:∀w',Below w.heap.size w w'→∃r C',(r = .ret (.str l)∧C'.H.next=C.H.next∧C'.H.get=(C.H.del j).get)∧ResRel C' r (.returned (.string ⟨l.toArray⟩))∧Rel G C' w'∧Adv C w C' w':=fun w' B=>
  ⟨.ret (.str l),_,⟨rfl,by simp,rfl⟩,.str l,Rd.below B,Ad.trans (Adv.below B)⟩
 have hval:y1=v0:=by
  cases hv1 with
  | slc _ _ a cap0 h=>
   obtain⟨_,_,h⟩:=h
   rw[hj]at h
   obtain⟨_,h⟩:=h
   cases hmj:C.μ j with
   | none=>
    simp only[hmj]at h hv'
    rw[hv',h.2]
   | some p=>
    obtain⟨g,cg⟩:=p
    simp only[hmj]at h hv'
    rw[hv',h]
 subst hval
 by_cases h0:l=[]
 ·subst h0
  rcases hown.2 with ⟨rfl,_⟩ | ⟨g,cg,cur,rfl,_,hg,_,_,_,_⟩
  ·refine(Any.Builder_String_nil L X w.heap.size c y0 w h2).mono ?_
   rintro e w' ⟨rfl,B⟩
   exact fin w' B
  ·by_cases hc0:cg=0
   ·subst hc0
    refine(Any.Builder_String_noroom L X w.heap.size c g y0 cur w (Nat.le_refl _) h2 hg).mono ?_
    rintro e w' ⟨rfl,B⟩
    exact fin w' B
   ·refine(Any.Builder_String_room L X w.heap.size c g cg y0 w hc0 h2).mono ?_
    rintro e w' ⟨rfl,B⟩
    exact fin w' B
 ·have hl0:l.length≠0:=by simpa using h0
  rcases hown.2 with ⟨_,hz⟩ | ⟨g,cg,cur,rfl,_,hg,hnc,hcm,hcs,htake⟩
  ·exact absurd hz hl0
  ·refine(Bld.string_row L X c g cg y0 cur l w h0 h2 hg hnc hcm hcs htake).mono ?_
   rintro e w' ⟨rfl,rfl⟩
   have hmj:C.μ j=some (g,cg):=by
    cases hmj:C.μ j with
    | none=>simp only[hmj]at hv';cases hv'
    | some p=>
     obtain⟨g',cg'⟩:=p
     simp only[hmj]at hv'
     cases hv'
     rfl
   have hkeep:∀b,b≠g→(w.drew.freeze ⟨g,0,none⟩ l.length).heap[b]?=w.heap[b]?:=by
    intro b hb
    simp only[World.freeze,hl0,if_false,Array.getElem?_modify]
    have:¬g=b:=fun e=>hb e.symm
    simp[this]
    rfl
   have hnown:∀b,Ctx.owns { C with H:=C.H.del j } b→b≠g:=by
    rintro b ⟨i,oi,cap',hi,hmi⟩ rfl
    have hi':(C.H.del j).get i=some oi:=hi
    have hij:i≠j:=fun e=>by subst e;simp[AHeap.get_del]at hi'
    rw[AHeap.get_del_ne _ hij]at hi'
    exact hij (R.inj i j oi _ b cap' cg hi' hj hmi hmj)
   have hgo:C.owns g:=⟨j,_,cg,hj,hmj⟩
   have A:Adv C w { C with H:=C.H.del j } (w.drew.freeze ⟨g,0,none⟩ l.length):=by
    refine⟨Ad.next,Ad.sig,Ad.imm,Ad.own,Ad.immNew,fun b hb hbo=>?_,?_,?_,?_,?_⟩
    ·exact hkeep b fun e=>by subst e;exact hbo hgo
    ·simp only[World.freeze,hl0,if_false,Array.size_modify];exact Nat.le_refl _
    ·simp only[World.freeze,hl0,if_false];rfl
    ·simp only[World.freeze,hl0,if_false];rfl
    ·simp only[World.freeze,hl0,if_false];rfl
   refine⟨.ret (.str l),{ C with H:=C.H.del j },⟨rfl,by simp,rfl⟩,.str l,⟨fun i oi hi=>?_,Rd.inj,fun b a hb=>?_,fun g cs hg=>?_⟩,A⟩
   ·obtain⟨p1,p2,_⟩:=Rd.pres i oi hi
    have hi':(C.H.del j).get i=some oi:=hi
    have hij:i≠j:=fun e=>by subst e;simp[AHeap.get_del]at hi'
    rw[AHeap.get_del_ne _ hij]at hi'
    exact⟨p1,p2,(R.pres i oi hi').2.2.keep A rfl fun b cap' hmb=>hkeep b (hnown b ⟨i,oi,cap',hi,hmb⟩)⟩
   ·obtain⟨p1,p2⟩:=Rd.imm b a hb
    refine⟨p1,?_⟩
    rw[hkeep b fun e=>by subst e;exact(R.imm b a hb).1 hgo]
    exact p2
   ·obtain⟨a,ha,hv⟩:=Rd.glob g cs hg
    exact⟨a,ha,hv.mono (Adv.refl _ w)⟩
end
end Go.Ab
namespace Go.Ab
open Go Go.Lib
@[congr] theorem must_congr {α:Type} {x x':Option α} (h:x=x') (K:α→Prop):must x K=must x' K:=by rw[h]
def condS (P:Program) (G:Nat→Option (List AV)) (v:AV) (c:Operand) (x y:SC) (Q:APost) (a:List AV) (H:AHeap):Prop:=
 match v with
 | .bool b=>(b=true→awpS P G x Q (setC a c true) H)∧(b=false→awpS P G y Q (setC a c false) H)
 | _=>False
def guardS (P:Program) (G:Nat→Option (List AV)) (v:AV) (g:Tmp) (want:Bool) (d:Option Tmp) (op:Op) (l:List MOp) (Q:APost) (a:List AV) (H:AHeap):Prop:=
 match v with
 | .bool b=>(b=want→opS P G op d (a.set g (.bool want)) H (opsS P G Q l) Q)∧(b = !want→opsS P G Q l (putA (a.set g (.bool (!want))) d (.tup [])) H)
 | .tup []=>opsS P G Q l (putA a d (.tup [])) H
 | _=>False
def guardD (P:Program) (G:Nat→Option (List AV)) (v:AV) (ex:Bool) (K:List AV→AHeap→List Foot→Prop) (log:List Foot) (g:Tmp) (want:Bool) (d:Option Tmp) (op:Op) (l:List MOp) (a:List AV) (H:AHeap):Prop:=
 match v with
 | .bool b=>(b=want→stepW P G ex op d (a.set g (.bool want)) H fun a' H' F=>drawW P G ex K l a' H' (log++[F]))∧(b = !want→drawW P G ex K l (putA (a.set g (.bool (!want))) d (.tup [])) H (log++[([],[])]))
 | .tup []=>drawW P G ex K l (putA a d (.tup [])) H (log++[([],[])])
 | _=>False
section
variable (P:Program) (G:Nat→Option (List AV)) (Q:APost) (a:List AV) (H:AHeap)
theorem w_skip:awpS P G .skip Q a H=Q .normal a H:=id rfl
theorem w_seq (x y:SC):awpS P G (.seq x y) Q a H=awpS P G x (thenA (awpS P G y Q) Q) a H:=id rfl
theorem w_block (i:Nat) (b:SC):awpS P G (.block i b) Q a H=awpS P G b (blockA i Q) a H:=id rfl
theorem w_scope (b:SC):awpS P G (.scope b) Q a H=awpS P G b Q a H:=id rfl
theorem w_exit (i:Nat):awpS P G (.exit i) Q a H=Q (.exit i) a H:=id rfl
theorem w_ret:awpS P G .ret Q a H=Q .ret a H:=id rfl
theorem w_ops (l:List MOp):awpS P G (.ops l) Q a H=opsS P G Q l a H:=id rfl
theorem w_loop (b:SC):awpS P G (.loop b) Q a H=ATrS P G (.loop b) Q a H:=id rfl
theorem w_draw (i:Nat) (ops:Array Oper):awpS P G (.draw i ops) Q a H=ATrS P G (.draw i ops) Q a H:=id rfl
theorem w_range (g:Operand) (ps:List Tmp) (x y:SC):awpS P G (.rangeF g ps x y) Q a H=ATrS P G (.rangeF g ps x y) Q a H:=id rfl
theorem w_cond (c:Operand) (x y:SC):awpS P G (.cond c x y) Q a H=condS P G (ev a c) c x y Q a H:=id rfl
theorem w_ct (c:Operand) (x y:SC):condS P G (.bool true) c x y Q a H=awpS P G x Q (setC a c true) H:=by simp[condS]
theorem w_cf (c:Operand) (x y:SC):condS P G (.bool false) c x y Q a H=awpS P G y Q (setC a c false) H:=by simp[condS]
theorem w_nil:opsS P G Q [] a H=Q .normal a H:=id rfl
theorem w_op (d:Option Tmp) (op:Op) (l:List MOp):opsS P G Q (⟨none,d,op⟩::l) a H=opS P G op d a H (opsS P G Q l) Q:=id rfl
theorem w_guard (g:Tmp) (want:Bool) (d:Option Tmp) (op:Op) (l:List MOp):opsS P G Q (⟨some (g,want),d,op⟩::l) a H=guardS P G (a.getD g .und) g want d op l Q a H:=id rfl
theorem w_gtt (g:Tmp) (d:Option Tmp) (op:Op) (l:List MOp):guardS P G (.bool true) g true d op l Q a H=opS P G op d (a.set g (.bool true)) H (opsS P G Q l) Q:=by simp[guardS]
theorem w_gff (g:Tmp) (d:Option Tmp) (op:Op) (l:List MOp):guardS P G (.bool false) g false d op l Q a H=opS P G op d (a.set g (.bool false)) H (opsS P G Q l) Q:=by simp[guardS]
theorem w_gtf (g:Tmp) (d:Option Tmp) (op:Op) (l:List MOp):guardS P G (.bool true) g false d op l Q a H=opsS P G Q l (putA (a.set g (.bool true)) d (.tup [])) H:=by simp[guardS]
theorem w_gft (g:Tmp) (d:Option Tmp) (op:Op) (l:List MOp):guardS P G (.bool false) g true d op l Q a H=opsS P G Q l (putA (a.set g (.bool false)) d (.tup [])) H:=by simp[guardS]
theorem w_gs (g:Tmp) (want:Bool) (d:Option Tmp) (op:Op) (l:List MOp):guardS P G (.tup []) g want d op l Q a H=opsS P G Q l (putA a d (.tup [])) H:=id rfl
theorem w_then (next:List AV→AHeap→Prop):thenA next Q .normal a H=next a H:=id rfl
theorem w_then_exit (next:List AV→AHeap→Prop) (i:Nat):thenA next Q (.exit i) a H=Q (.exit i) a H:=id rfl
theorem w_then_ret (next:List AV→AHeap→Prop):thenA next Q .ret a H=Q .ret a H:=id rfl
theorem w_then_pan (next:List AV→AHeap→Prop) (v:AV):thenA next Q (.pan v) a H=Q (.pan v) a H:=id rfl
theorem w_in (i:Nat):blockA i Q .normal a H=Q .normal a H:=id rfl
theorem w_in_exit (i j:Nat):blockA i Q (.exit j) a H=if j=i then Q .normal a H else Q (.exit j) a H:=id rfl
theorem w_in_ret (i:Nat):blockA i Q .ret a H=Q .ret a H:=id rfl
theorem w_in_pan (i:Nat) (v:AV):blockA i Q (.pan v) a H=Q (.pan v) a H:=id rfl
end
@[congr] theorem AInv_congr {P:Program} {G:Nat→Option (List AV)} {f:FuncId} {args args':List AV} (h:args=args') (H:AHeap) (K Kp:AV→AHeap→Prop):AInv P G f args H K Kp=AInv P G f args' H K Kp:=by rw[h]
@[congr] theorem AYield_congr {P:Program} {G:Nat→Option (List AV)} {k:Nat} {args args':List AV} (h:args=args') (H:AHeap) (K:AV→AHeap→Prop):AYield P G k args H K=AYield P G k args' H K:=by rw[h]
section
variable (P:Program) (G:Nat→Option (List AV)) (ex:Bool) (K:List AV→AHeap→List Foot→Prop) (a:List AV) (H:AHeap) (log:List Foot)
def dNext (l:List MOp):List AV→AHeap→Foot→Prop:=fun a' H' F=>drawW P G ex K l a' H' (log++[F])
theorem w_dnext (l:List MOp) (F:Foot):dNext P G ex K log l a H F=drawW P G ex K l a H (log++[F]):=id rfl
theorem w_dnil:drawW P G ex K [] a H log=K a H log:=id rfl
theorem w_dop (d:Option Tmp) (op:Op) (l:List MOp):drawW P G ex K (⟨none,d,op⟩::l) a H log=stepW P G ex op d a H (dNext P G ex K log l):=id rfl
theorem w_dguard (g:Tmp) (want:Bool) (d:Option Tmp) (op:Op) (l:List MOp):drawW P G ex K (⟨some (g,want),d,op⟩::l) a H log=guardD P G (a.getD g .und) ex K log g want d op l a H:=id rfl
theorem w_dtt (g:Tmp) (d:Option Tmp) (op:Op) (l:List MOp):guardD P G (.bool true) ex K log g true d op l a H=stepW P G ex op d (a.set g (.bool true)) H (dNext P G ex K log l):=by simp[guardD,dNext];rfl
theorem w_dff (g:Tmp) (d:Option Tmp) (op:Op) (l:List MOp):guardD P G (.bool false) ex K log g false d op l a H=stepW P G ex op d (a.set g (.bool false)) H (dNext P G ex K log l):=by simp[guardD,dNext];rfl
theorem w_dtf (g:Tmp) (d:Option Tmp) (op:Op) (l:List MOp):guardD P G (.bool true) ex K log g false d op l a H=drawW P G ex K l (putA (a.set g (.bool true)) d (.tup [])) H (log++[([],[])]):=by simp[guardD]
theorem w_dft (g:Tmp) (d:Option Tmp) (op:Op) (l:List MOp):guardD P G (.bool false) ex K log g true d op l a H=drawW P G ex K l (putA (a.set g (.bool false)) d (.tup [])) H (log++[([],[])]):=by simp[guardD]
theorem w_ds (g:Tmp) (want:Bool) (d:Option Tmp) (op:Op) (l:List MOp):guardD P G (.tup []) ex K log g want d op l a H=drawW P G ex K l (putA a d (.tup [])) H (log++[([],[])]):=id rfl
theorem callW.pure {P:Program} {G:Nat→Option (List AV)} {g:FuncId} {args:List AV} {H:AHeap} {d:Option Tmp} {a:List AV} {next:List AV→AHeap→Foot→Prop} {v:AV} (hb:bodyT P g=true) (h:PureCall P G g args v)
  (hn:next (putA a d v) H ([],[])):callW P G false g args H d a next:=⟨rfl,[],[],v,H.get,LCalls.pure hb h,hn⟩
@[congr] theorem callW_congr {P:Program} {G:Nat→Option (List AV)} {g:FuncId} {args args':List AV} (h:args=args') (ex:Bool) (H:AHeap) (d:Option Tmp) (a:List AV) (next:List AV→AHeap→Foot→Prop) :
  callW P G ex g args H d a next=callW P G ex g args' H d a next:=by rw[h]
end
theorem w_dend (pairs:List (Nat × Nat)) (Q:APost) (a:List AV) (H:AHeap) (log:List Foot):drawEnd pairs false Q a H log=(pairsOk pairs log∧∀m,H.next≤m→Q .normal a ⟨m,H.get⟩):=by simp[drawEnd]
theorem w_dendF (pairs:List (Nat × Nat)) (Q:APost) (a:List AV) (H:AHeap) (log:List Foot):drawEndF pairs Q a H log=(pairsOk pairs log∧Q .normal a H):=id rfl
section
variable (P:Program) (H:AHeap) (t:TypeId) (s:List UInt8)
theorem w_sliceLo (k:IntKind) (x:Int):sliceA P H t (.str s) (some (.int k x)) none none=if strT P t=true∧0≤x∧x≤s.length then some (.str (s.drop x.toNat))else none:=by
 simp only[sliceA,boundA]
 by_cases h1:strT P t=true<;>by_cases h2:0≤x∧x≤s.length<;>simp[h1,h2]
theorem w_sliceHi (k:IntKind) (x:Int):sliceA P H t (.str s) none (some (.int k x)) none=if strT P t=true∧0≤x∧x≤s.length then some (.str (s.take x.toNat))else none:=by
 simp only[sliceA,boundA]
 by_cases h1:strT P t=true<;>by_cases h2:0≤x∧x≤s.length<;>simp[h1,h2]
theorem w_sliceBoth (k k':IntKind) (x y:Int):sliceA P H t (.str s) (some (.int k x)) (some (.int k' y)) none=if strT P t=true∧0≤x∧x≤y∧y≤s.length then some (.str ((s.take y.toNat).drop x.toNat))else none:=by
 simp only[sliceA,boundA]
 by_cases h1:strT P t=true
 ·by_cases h2:0≤y∧y≤s.length
  ·have e:((y.toNat:Nat):Int)=y:=Int.toNat_of_nonneg h2.1
   by_cases h3:0≤x∧x≤y
   ·simp[h1,h2,e,h3]
   ·rw[if_neg (c:=strT P t=true∧0≤x∧x≤y∧y≤s.length) (fun h=>h3 ⟨h.2.1,h.2.2.1⟩)]
    simp[h1,h2,e,h3]
  ·rw[if_neg (c:=strT P t=true∧0≤x∧x≤y∧y≤s.length) (fun h=>h2 ⟨by omega,h.2.2.2⟩)]
   simp[h1,h2]
 ·simp[h1]
end
theorem condS.split {P:Program} {G:Nat→Option (List AV)} {b:Bool} {c:Operand} {x y:SC} {Q:APost} {a:List AV} {H:AHeap} (h1:b=true→awpS P G x Q (setC a c true) H) (h2:b=false→awpS P G y Q (setC a c false) H) :
  condS P G (.bool b) c x y Q a H:=⟨h1,h2⟩
theorem guardS.split {P:Program} {G:Nat→Option (List AV)} {b want:Bool} {g:Tmp} {d:Option Tmp} {op:Op} {l:List MOp} {Q:APost} {a:List AV} {H:AHeap} (h1:b=want→opS P G op d (a.set g (.bool want)) H (opsS P G Q l) Q)
  (h2:b = !want→opsS P G Q l (putA (a.set g (.bool (!want))) d (.tup [])) H):guardS P G (.bool b) g want d op l Q a H:=⟨h1,h2⟩
theorem guardD.split {P:Program} {G:Nat→Option (List AV)} {b want ex:Bool} {K:List AV→AHeap→List Foot→Prop} {log:List Foot} {g:Tmp} {d:Option Tmp} {op:Op} {l:List MOp} {a:List AV} {H:AHeap}
  (h1:b=want→stepW P G ex op d (a.set g (.bool want)) H (dNext P G ex K log l)) (h2:b = !want→drawW P G ex K l (putA (a.set g (.bool (!want))) d (.tup [])) H (log++[([],[])])) :
  guardD P G (.bool b) ex K log g want d op l a H:=⟨h1,h2⟩
theorem w_mnext (next:List AV→AHeap→Prop) (d:Option Tmp) (a:List AV) (v:AV) (H:AHeap):mNext next d a (v,H)=next (putA a d v) H:=id rfl
theorem w_knext (next:List AV→AHeap→Prop) (d:Option Tmp) (a:List AV) (v:AV) (H:AHeap):kNext next d a v H=next (putA a d v) H:=id rfl
theorem w_kpan (Q:APost) (a:List AV) (v:AV) (H:AHeap):kPan Q a v H=Q (.pan v) a H:=id rfl
theorem w_onext (ex:Bool) (op:Op) (n:Nat) (next:List AV→AHeap→Foot→Prop) (d:Option Tmp) (a:List AV) (v:AV) (H:AHeap) :
  oNext ex op n next d a (v,H)=must (footA n a op) (fNext ex (makesA op) next d a (v,H)):=id rfl
theorem w_fnext (ex mk:Bool) (next:List AV→AHeap→Foot→Prop) (d:Option Tmp) (a:List AV) (v:AV) (H:AHeap) (R W:List Nat) :
  fNext ex mk next d a (v,H) (R,W)=((mk=true→ex=true)∧next (putA a d v) H (R.map some++(bif mk then [none]else []),W.map some++(bif mk then [none]else []))):=id rfl
theorem w_max (n:Nat):max n (n+1)=n+1:=Nat.max_eq_right (Nat.le_succ n)
theorem w_cells (cs:List AV):(AV.agg cs).cellsOf=cs:=id rfl
def wE:=And.intro @w_skip <| And.intro @w_seq <| And.intro @w_scope <| And.intro @w_block <| And.intro @w_exit <| And.intro @w_ret <| And.intro @w_ops <| And.intro @w_loop <| And.intro @w_draw <| And.intro @w_range <| And.intro @w_cond <| And.intro @w_ct <| And.intro @w_cf <| And.intro @w_gtt <| And.intro @w_gff <| And.intro @w_gtf <| And.intro @w_gft <| And.intro @w_gs <| And.intro @w_ds <| And.intro @w_dtt <| And.intro @w_dff <| And.intro @w_dtf <| And.intro @w_dft <| And.intro @w_nil <| And.intro @w_op <| And.intro @w_guard <| And.intro @w_then <| And.intro @w_then_exit <| And.intro @w_then_ret <| And.intro @w_then_pan <| And.intro @w_in <| And.intro @w_in_exit <| And.intro @w_in_ret <| And.intro @w_in_pan <| And.intro @w_dnext <| And.intro @w_dnil <| And.intro @w_dop <| And.intro @w_dguard <| And.intro @w_mnext <| And.intro @w_knext <| And.intro @w_kpan <| And.intro @w_onext <| And.intro @w_fnext <| And.intro @w_dend <| And.intro @w_dendF <| And.intro @w_max <| And.intro @w_cells <| And.intro @decide_eq_true_eq <| And.intro @decide_eq_false_iff_not <| And.intro @List.length_cons.{0} <| And.intro @List.length_nil.{0} <| And.intro @List.cons_append.{0} <| And.intro @List.nil_append.{0} <| And.intro @List.getD_cons_zero.{0} <| And.intro @List.getD_cons_succ.{0} <| And.intro @List.take_succ_cons.{0} <| And.intro @List.take_zero.{0} <| And.intro @List.drop_succ_cons.{0} <| And.intro @List.drop_zero.{0} <| And.intro @List.getElem?_cons_zero.{0} <| And.intro @List.getElem?_cons_succ.{0} <| And.intro @List.all_cons.{0} <| And.intro @List.all_nil.{0} <| And.intro @must_some <| And.intro @must_none <| And.intro @must_map <| And.intro @must_ite <| And.intro @w_sliceLo <| And.intro @w_sliceHi <| And.intro @w_sliceBoth <| And.intro @Int.toNat_natCast <| And.intro @Int.natCast_nonneg <| And.intro @AHeap.get_allocAt <| And.intro @AHeap.get_set <| And.intro @AHeap.get_del <| And.intro @AHeap.next_allocAt <| And.intro @AHeap.next_set <| And.intro @AHeap.next_del <| And.intro @Bool.and_true <| And.intro @Bool.true_and <| And.intro @cond_true.{1} <| And.intro @cond_false.{1} <| And.intro @Bool.not_true <| And.intro @Bool.not_false <| And.intro @if_true.{1} <| And.intro @if_false.{1} <| And.intro @ite_true.{1} <| And.intro @ite_false.{1} <| And.intro @true_implies <| And.intro @false_implies <| And.intro @and_true <| And.intro @true_and <| And.intro @List.map_cons.{0,0} <| And.intro @List.map_nil.{0,0} <| And.intro @Option.map_some.{0,0} <| And.intro @Option.map_none.{0,0} <| And.intro @Nat.zero_add <| And.intro @Nat.add_zero <| And.intro @Nat.add_eq_left <| And.intro @Nat.left_eq_add <| And.intro @Nat.add_right_cancel_iff <| And.intro @Nat.succ_ne_self <| And.intro @Nat.one_ne_zero <| And.intro @Nat.zero_ne_one <| And.intro @Option.isSome_some.{0} <| And.intro @eq_self.{1} <| And.intro @decide_true <| And.intro @decide_false <| And.intro @Nat.mul_one <| And.intro @Nat.zero_mul <| @Nat.one_mul
end Go.Ab
namespace Go.Ab
open Go Go.Lib Go.Proofs
theorem AInv.pureK {P:Program} {G:Nat→Option (List AV)} {f:FuncId} {args:List AV} {H:AHeap} {next:List AV→AHeap→Prop} {d:Option Tmp} {a:List AV} {Kp:AV→AHeap→Prop} {v:AV} (hb:bodyT P f=true) (h:PureCall P G f args v)
  (hn:∀H',Keeps H H'→next (putA a d v) H'):AInv P G f args H (kNext next d a) Kp:=AInv.pure hb (h H) hn
theorem wrap64 {n:Int} (h0 : -9223372036854775808≤n) (h1:n≤9223372036854775807):IntKind.i64.wrap n=n:=by
 simp only[IntKind.wrap,IntKind.bits,IntKind.signed]
 simp
 omega
theorem wrap32 {n:Int} (h0 : -2147483648≤n) (h1:n≤2147483647):IntKind.i32.wrap n=n:=by
 simp only[IntKind.wrap,IntKind.bits,IntKind.signed]
 simp
 omega
theorem wrapu64 {n:Int} (h0:0≤n) (h1:n≤18446744073709551615):IntKind.u64.wrap n=n:=by
 simp only[IntKind.wrap,IntKind.bits,IntKind.signed]
 simp
 omega
theorem wrapu8 {n:Int} (h0:0≤n) (h1:n≤255):IntKind.u8.wrap n=n:=by
 simp only[IntKind.wrap,IntKind.bits,IntKind.signed]
 simp
 omega
theorem ACalls.wf {P:Program} {G:Nat→Option (List AV)} {f:FuncId} {args:List AV} {H:AHeap} {Q:ARes→AHeap→Prop} (h:(∀k o,H.get k=some o→k<H.next)→ACalls P G f args H Q):ACalls P G f args H Q:=
 fun C w a R hH hv=>h (fun k o hk=>by subst hH;exact(R.pres k o hk).1) C w a R hH hv
def But (k:Nat) (o:AObj) (H H':AHeap):Prop:=H.next≤H'.next∧∀j,j<H.next→H'.get j=(H.set k o).get j
def Kept (H H':AHeap):Prop:=H.next≤H'.next∧∀j,j<H.next→H'.get j=H.get j
theorem Keeps.kept {H H':AHeap} (h:Keeps H H'):Kept H H':=h.post
theorem Kept.refl (H:AHeap):Kept H H:=⟨Nat.le_refl _,fun _ _=>rfl⟩
theorem Kept.trans {A B C:AHeap} (h:Kept A B) (h':Kept B C):Kept A C:=⟨Nat.le_trans h.1 h'.1,fun j hj=>(h'.2 j (Nat.lt_of_lt_of_le hj h.1)).trans (h.2 j hj)⟩
abbrev dec (l:List UInt8):Nat × Nat:=Lib.decodeL l
theorem dec_at (s:List UInt8) (i:Nat):Utf8.decode ⟨s.toArray⟩ i=dec (s.drop i):=by
 have h:=Lib.decodeL_drop ⟨s.toArray⟩ i
 simpa using h.symm
theorem dec_pos {l:List UInt8} (h:l≠[]):1≤(dec l).2:=by
 refine Lib.decode_width_pos ⟨l.toArray⟩ 0 ?_
 rw[size_mk]
 exact List.length_pos_iff.2 h
theorem dec_le {l:List UInt8} (h:l≠[]):(dec l).2≤l.length:=Lib.decodeL_le l h
theorem dec_ascii {b:UInt8} {t:List UInt8} (h:b.toNat<128):dec (b::t)=(b.toNat,1):=Lib.decodeL_ascii b t h
theorem dec_high {b:UInt8} {t:List UInt8} (h:128≤b.toNat):128≤(dec (b::t)).1:=(decode_high ⟨(b::t).toArray⟩ 0 (by simp[ByteArray.size]) h).1
theorem drop_ne {s:List UInt8} {i:Nat} (h:i<s.length):s.drop i≠[]:=by
 intro e
 have:=congrArg List.length e
 simp at this
 omega
theorem dec_drop {s:List UInt8} {i:Nat} (h:i<s.length):1≤(dec (s.drop i)).2∧i+(dec (s.drop i)).2≤s.length:=by
 refine⟨dec_pos (drop_ne h),?_⟩
 have:=dec_le (drop_ne h)
 simp only[List.length_drop]at this
 omega
theorem cut_le (s p:List UInt8):(Lib.cut s p).1.length≤s.length:=by
 unfold Lib.cut
 split
 ·simp
  omega
 ·simp
theorem hasPrefix_len {s p:List UInt8} (h:Lib.hasPrefix s p=true):p.length≤s.length:=by
 unfold Lib.hasPrefix at h
 exact(List.isPrefixOf_iff_prefix.1 h).length_le
def wF:=And.intro @wE <| And.intro @stepW.eq_1 <| And.intro @stepW.eq_2 <| And.intro @stepW.eq_3 <| And.intro @footA.eq_1 <| And.intro @footA.eq_2 <| And.intro @footA.eq_3 <| And.intro @footA.eq_4 <| And.intro @footA.eq_5 <| And.intro @footA.eq_6 <| And.intro @footA.eq_7 <| And.intro @footA.eq_8 <| And.intro @footA.eq_9 <| And.intro @footA.eq_10 <| And.intro @footA.eq_11 <| And.intro @footA.eq_12 <| And.intro @footA.eq_13 <| And.intro @footA.eq_14 <| And.intro @footA.eq_15 <| And.intro @footA.eq_16 <| And.intro @footA.eq_17 <| And.intro @footA.eq_18 <| And.intro @footA.eq_19 <| And.intro @footA.eq_20 <| And.intro @footA.eq_21 <| And.intro @footA.eq_22 <| And.intro @footA.eq_23 <| And.intro @footA.eq_24 <| And.intro @makesA.eq_1 <| And.intro @makesA.eq_2 <| And.intro @makesA.eq_3 <| And.intro @makesA.eq_4 <| And.intro @makesA.eq_5 <| And.intro @makesA.eq_6 <| And.intro @makesA.eq_7 <| And.intro @ptrId.eq_1 <| And.intro @ptrId.eq_2 <| And.intro @ptrId.eq_3 <| And.intro @ptrId.eq_4 <| And.intro @pairsOk.eq_1 <| And.intro @pairsOk.eq_2 <| And.intro @footApart.eq_1 <| And.intro @opS.eq_1 <| And.intro @opS.eq_2 <| And.intro @opS.eq_3 <| And.intro @opA.eq_1 <| And.intro @opA.eq_2 <| And.intro @opA.eq_3 <| And.intro @opA.eq_4 <| And.intro @opA.eq_5 <| And.intro @opA.eq_6 <| And.intro @opA.eq_7 <| And.intro @opA.eq_8 <| And.intro @opA.eq_9 <| And.intro @opA.eq_10 <| And.intro @opA.eq_11 <| And.intro @opA.eq_12 <| And.intro @opA.eq_13 <| And.intro @opA.eq_14 <| And.intro @opA.eq_15 <| And.intro @opA.eq_16 <| And.intro @opA.eq_17 <| And.intro @opA.eq_18 <| And.intro @opA.eq_19 <| And.intro @opA.eq_20 <| And.intro @opA.eq_21 <| And.intro @opA.eq_22 <| And.intro @opA.eq_23 <| And.intro @opA.eq_24 <| And.intro @opA.eq_25 <| And.intro @opA.eq_26 <| And.intro @opA.eq_27 <| And.intro @opA.eq_28 <| And.intro @opA.eq_29 <| And.intro @opA.eq_30 <| And.intro @opA.eq_31 <| And.intro @ev.eq_1 <| And.intro @ev.eq_2 <| And.intro @ev.eq_3 <| And.intro @ev.eq_4 <| And.intro @putA.eq_1 <| And.intro @putA.eq_2 <| And.intro @setC.eq_1 <| And.intro @setC.eq_2 <| And.intro @ofConst.eq_1 <| And.intro @ofConst.eq_2 <| And.intro @ofFlat.eq_1 <| And.intro @ofFlat.eq_2 <| And.intro @ofFlat.eq_3 <| And.intro @ofFlat.eq_4 <| And.intro @ofFlat.eq_5 <| And.intro @ofFlat.eq_6 <| And.intro @ofFlat.eq_7 <| And.intro @ofFlat.eq_8 <| And.intro @ofFlat.eq_9 <| And.intro @ofFlat.eq_10 <| And.intro @List.replicate.eq_1.{0} <| And.intro @List.replicate.eq_2.{0} <| And.intro @List.set.eq_1.{0} <| And.intro @List.set.eq_2.{0} <| And.intro @List.set.eq_3.{0} <| And.intro @binA.eq_1 <| And.intro @binA.eq_2 <| And.intro @binA.eq_3 <| And.intro @binA.eq_4 <| And.intro @binA.eq_5 <| And.intro @binA.eq_6 <| And.intro @binA.eq_7 <| And.intro @binA.eq_8 <| And.intro @binA.eq_9 <| And.intro @binA.eq_10 <| And.intro @binA.eq_11 <| And.intro @binA.eq_12 <| And.intro @binA.eq_13 <| And.intro @binA.eq_14 <| And.intro @binA.eq_15 <| And.intro @binA.eq_16 <| And.intro @binA.eq_17 <| And.intro @intA.eq_1 <| And.intro @intA.eq_2 <| And.intro @intA.eq_3 <| And.intro @intA.eq_4 <| And.intro @intA.eq_5 <| And.intro @intA.eq_6 <| And.intro @intA.eq_7 <| And.intro @intA.eq_8 <| And.intro @intA.eq_9 <| And.intro @intA.eq_10 <| And.intro @intA.eq_11 <| And.intro @intA.eq_12 <| And.intro @intA.eq_13 <| And.intro @intA.eq_14 <| And.intro @intA.eq_15 <| And.intro @intA.eq_16 <| And.intro @strA.eq_1 <| And.intro @strA.eq_2 <| And.intro @strA.eq_3 <| And.intro @strA.eq_4 <| And.intro @strA.eq_5 <| And.intro @strA.eq_6 <| And.intro @strA.eq_7 <| And.intro @strA.eq_8 <| And.intro @unA.eq_1 <| And.intro @unA.eq_2 <| And.intro @unA.eq_3 <| And.intro @unA.eq_4 <| And.intro @extractA.eq_1 <| And.intro @extractA.eq_2 <| And.intro @nilCheckA.eq_1 <| And.intro @nilCheckA.eq_2 <| And.intro @nilCheckA.eq_3 <| And.intro @nilCheckA.eq_4 <| And.intro @nilCheckA.eq_5 <| And.intro @bodyA.eq_1 <| And.intro @bodyA.eq_2 <| And.intro @bodyA.eq_3 <| And.intro @bodyA.eq_4 <| And.intro @resultsA.eq_1 <| And.intro @resultsA.eq_2 <| And.intro @resultsA.eq_3 <| And.intro @oneOrTup.eq_1 <| And.intro @oneOrTup.eq_2 <| And.intro @builtinA.eq_1 <| And.intro @builtinA.eq_2 <| And.intro @builtinA.eq_3 <| And.intro @builtinA.eq_4 <| And.intro @lenA.eq_1 <| And.intro @lenA.eq_2 <| And.intro @lenA.eq_3 <| And.intro @lenA.eq_4 <| And.intro @lenA.eq_5 <| And.intro @lenA.eq_6 <| And.intro @lenA.eq_7 <| And.intro @indexA.eq_1 <| And.intro @indexA.eq_2 <| And.intro @indexA.eq_3 <| And.intro @minA.eq_1 <| And.intro @minA.eq_2 <| And.intro @loadA.eq_1 <| And.intro @loadA.eq_2 <| And.intro @loadA.eq_3 <| And.intro @loadA.eq_4 <| And.intro @partA.eq_1 <| And.intro @storeA.eq_1 <| And.intro @storeA.eq_2 <| And.intro @setCells.eq_1 <| And.intro @setCells.eq_2 <| And.intro @fieldA.eq_1 <| And.intro @ptrAdd.eq_1 <| And.intro @ptrAdd.eq_2 <| And.intro @ptrAdd.eq_3 <| And.intro @ptrAdd.eq_4 <| And.intro @AV.cellsOf.eq_1 <| And.intro @AV.cellsOf.eq_2 <| And.intro @AV.one.eq_1 <| And.intro @AV.one.eq_2 <| And.intro @AV.one.eq_3 <| @AV.one.eq_4
def drawOf (id:Nat):Code→Option (Array Oper)
 | .seq x y=>match drawOf id x with
  | some o=>some o
  | none=>drawOf id y
 | .cond _ x y=>match drawOf id x with
  | some o=>some o
  | none=>drawOf id y
 | .block _ b=>drawOf id b
 | .loop b=>drawOf id b
 | .rangeFunc _ _ x y=>match drawOf id x with
  | some o=>some o
  | none=>drawOf id y
 | .scope c=>drawOf id c
 | .region i ops true=>bif i==id then some ops else none
 | _=>none
noncomputable def drawIn (f:Func) (id:Nat):Array Oper:=(f.body.bind (drawOf id)).getD #[]
def prepD (D:Nat→Array Oper):Code→SC
 | .skip => .skip
 | .label _ => .skip
 | .seq x y => .seq (prepD D x) (prepD D y)
 | .cond c x y => .cond c (prepD D x) (prepD D y)
 | .block id b => .block id (prepD D b)
 | .loop b => .loop (prepD D b)
 | .exit id => .exit id
 | .ret => .ret
 | .region _ ops false => .ops (ops.toList.map (prepOp ops))
 | .region id _ true => .draw id (D id)
 | .rangeFunc g ps x y => .rangeF g ps.toList (prepD D x) (prepD D y)
 | .scope c => .scope (prepD D c)
 | _ => .other
end Go.Ab
namespace Go.Ab
open Go Go.Lib
section
variable {P:Program} {G:Nat→Option (List AV)} {ops:Array Oper}
end
end Go.Ab
namespace Go.Ab
open Go Go.Lib
def seqs:List SC→SC→SC
 | [],s=>s
 | x::l,s => .seq x (seqs l s)
def partsA (P:Program) (G:Nat→Option (List AV)) (B:APost) (K:List AV→AHeap→Prop):List SC→List AV→AHeap→Prop
 | [],a,H=>K a H
 | s::l,a,H=>awpS P G s (thenA (partsA P G B K l) B) a H
def noRanges:List SC→Bool
 | []=>true
 | s::l=>noRange s&&noRanges l
section
variable {P:Program} {G:Nat→Option (List AV)}
theorem ACalls.of_deferN {f:FuncId} {fn:Func} {parts:List SC} {sE:SC} {t:Tmp} {g:FuncId} {caps:Array Operand} (hf:P.funcs[f]?=some fn) (hb:fn.body.map prep=some (seqs parts (.seq (.ops (deferOps t g caps)) sE)))
  (hg:bodyT P g=true) {args:List AV} {H:AHeap} {Q:ARes→AHeap→Prop} (rs:List ResultVar) (n:Nat) (hrs:fn.results.toList=rs) (hn:fn.ntmps=n)
  (h:partsA P G (bodyA P G rs Q) (fun a H=>t<a.length∧awpS P G sE (deferA P G rs Q g (caps.toList.map (ev a))) (a.set t (.func g (caps.toList.map (ev a)))) H) parts (args++List.replicate (n-args.length) .und) H)
  (nP:noRanges parts=true:=by rfl) (nE:noRange sE=true:=by rfl):ACalls P G f args H Q:=by
 simp only[Option.map_eq_some_iff]at hb
 obtain⟨c,hc,hp⟩:=hb
 intro C w args' R hH hv
 subst hrs;subst hn
 have plain:∀(e':AExit) (e:Exit) (a':List AV) (C':Ctx) (ac':Act) (w':World),bodyA P G fn.results.toList Q e' a' C'.H→ExitRel C' e' e→ActRel C' a' ac'→ac'.defers=[]→Rel G C' w'→Adv C w C' w' →
   bodyPostM (WF none) 0 P fn (fun e w'=>∃r C',Q r C'.H∧ResRel C' r e∧Rel G C' w'∧Adv C w C' w') e ac' w':=by
  intro e' e a' C' ac' w' q he ha' hd' R' A'
  have ret:must (resultsA P G C'.H a' fn.results.toList) (fun vs=>Q (.ret (oneOrTup vs)) C'.H) →
    LeavesInM (WF none) 0 P fn ac'.tmps (fun e w'=>∃r C',Q r C'.H∧ResRel C' r e∧Rel G C' w'∧Adv C w C' w') ac'.defers .returning w':=by
   rintro⟨vs,hvs,hq⟩
   obtain⟨y,hy1,hy2⟩:=resultsA_run R' ha' hvs
   rw[hd']
   exact⟨y,hy1,_,C',hq,hy2,R',A'⟩
  cases e' with
  | normal=>cases e<;>first | exact he.elim | exact ret q
  | ret=>cases e<;>first | exact he.elim | exact ret q
  | exit i=>exact q.elim
  | pan v=>
   cases e<;>first | exact he.elim | skip
   show LeavesInM (WF none) 0 P fn ac'.tmps _ ac'.defers _ w'
   rw[hd']
   exact⟨_,C',q,he,R',A'⟩
 have key:∀(ps:List SC) (c:Code),noRanges ps=true→prep c=seqs ps (.seq (.ops (deferOps t g caps)) sE)→∀(C2:Ctx) (w2:World) (ac2:Act) (a2:List AV),
   partsA P G (bodyA P G fn.results.toList Q) (fun a H=>t<a.length∧awpS P G sE (deferA P G fn.results.toList Q g (caps.toList.map (ev a))) (a.set t (.func g (caps.toList.map (ev a)))) H) ps a2 C2.H →
   Rel G C2 w2→ActRel C2 a2 ac2→ac2.defers=[]→Adv C w C2 w2 →
   Code.wpIn (WF none) 0 P c (bodyPostM (WF none) 0 P fn (fun e w'=>∃r C',Q r C'.H∧ResRel C' r e∧Rel G C' w'∧Adv C w C' w')) ac2 w2:=by
  intro ps
  induction ps with
  | cons s ps ih=>
   intro c hn hp C1 w1 ac1 a1 q R1 ha1 hd1 A1
   simp only[noRanges,Bool.and_eq_true]at hn
   obtain⟨cA,c1,rfl,hA,h1⟩:=prep_inv hp
   refine wpIn_seq (wpIn_mono (awpS_ok s _ _ _ q false (fun _=>hn.1) cA hA none (by simp) C1 w1 _ R1 rfl ha1 [] hd1) ?_)
   rintro e ac2 w2 ⟨e',a2,C2,q,he,ha2,hd2,R2,A2⟩
   cases e' with
   | exit i=>exact q.elim
   | ret=>cases e<;>first | exact he.elim | exact plain .ret _ a2 C2 ac2 w2 q he ha2 (hd2.exact) R2 (A1.trans A2)
   | pan v=>cases e<;>first | exact he.elim | exact plain (.pan v) _ a2 C2 ac2 w2 q he ha2 hd2.exact R2 (A1.trans A2)
   | normal=>
    cases e<;>first | exact he.elim | skip
    have hz:=hd2.exact
    exact ih c1 hn.2 h1 C2 w2 ac2 a2 q R2 ha2 hz (A1.trans A2)
  | nil=>
   intro c hn hp C2 w2 ac2 a2 q R2 ha2 hd2 A2
   obtain⟨cD,cE,rfl,hD,hE⟩:=prep_inv hp
   obtain⟨id,ops,rfl,hops⟩:=prep_inv hD
   obtain⟨o0,o1,hl⟩:∃o0 o1,ops.toList=[o0,o1]:=by
    match hl:ops.toList,hops with
    | [o0,o1],_=>exact⟨o0,o1,rfl⟩
    | [],h=>simp[deferOps,hl]at h
    | [_],h=>simp[deferOps,hl]at h
    | _::_::_::_,h=>simp[deferOps,hl]at h
   have hpre:∀(o:Oper) (m:MOp),prepOp ops o=m→m.g=none→(∀x,m.op ≠ .panic x)→o.guard=none∧o.dst=m.d∧o.op=m.op:=by
    intro o m h1 h2 h3
    unfold prepOp at h1
    split at h1
    ·rename_i hg;subst h1;exact⟨hg,rfl,rfl⟩
    ·split at h1
     ·subst h1;cases h2
     ·subst h1;exact absurd rfl (h3 _)
   rw[hl]at hops
   simp only[List.map_cons,List.map_nil,deferOps,List.cons.injEq,and_true]at hops
   obtain⟨g0,d0,p0⟩:=hpre o0 _ hops.1 rfl (by simp)
   obtain⟨g1,d1,p1⟩:=hpre o1 _ hops.2 rfl (by simp)
   have hsz:ops.size=2:=by rw[←Array.length_toList,hl];rfl
   have i0:ops[0]?=some o0:=by rw[←Array.getElem?_toList,hl];rfl
   have i1:ops[1]?=some o1:=by rw[←Array.getElem?_toList,hl];rfl
   have hcaps:VRs C2 (caps.toList.map (ev a2)) (caps.map ac2.eval).toList:=ev_list ha2 caps
   obtain⟨ht,q⟩:=q
   let fv:Value := .func (.func g) #[] (caps.map ac2.eval)
   have hfv:VR C2 (.func g (caps.toList.map (ev a2))) fv := .func g _ _ (by simpa using hcaps.1) fun i x y hx hy=>hcaps.2 i x y hx (by simpa using hy)
   let ac3:Act:={ ac2.put (some t) fv with defers:={ target := .fn (.func g) (caps.map ac2.eval),args:=#[] }::ac2.defers }
   have ha3:ActRel C2 (a2.set t (.func g (caps.toList.map (ev a2)))) ac3:=ha2.put (some t) hfv
   have hd3:ac3.defers=[{ target := .fn (.func g) (caps.map ac2.eval),args:=#[] }]:=by show _::ac2.defers=_;rw[hd2]
   have hev:(ac2.put (some t) fv).eval (.tmp t)=fv:=by
    have:t<ac2.tmps.size:=by
     have h:=ha2.1
     simp only[Array.length_toList]at h
     exact h▸ht
    simp[Act.eval,Act.put,this]
   refine wpIn_seq (wpIn_region ?_)
   rw[hsz,show List.range 2=[0,1]from rfl]
   simp only[wpOpsIn,i0,i1,Region.wanted,g0,g1,if_true]
   unfold Oper.wpIn
   refine⟨fun _ _=>trivial,?_⟩
   rw[Oper.semAt_none]
   have e0:(execOp ac2.eval o0).run P w2 = .ok (.value fv) w2:=by
    unfold execOp
    simp only[p0]
    simp[Instr.makeFunc,fv]
   rw[e0,Oper.uponIn_value,d0]
   refine⟨fun _ _=>trivial,?_⟩
   rw[Oper.semAt_none]
   have e1:(execOp (ac2.put (some t) fv).eval o1).run P w2 = .ok (.defer { target := .fn (.func g) (caps.map ac2.eval),args:=#[] }) w2:=by
    unfold execOp
    simp only[p1]
    simp only[resolve,hev]
    simp[fv,Deferred.ofValue]
   rw[e1,Oper.uponIn_defer,d1]
   show Code.wpIn (WF none) 0 P cE _ ac3 w2
   refine wpIn_mono (awpS_ok sE _ _ _ q false (fun _=>nE) cE hE none (by simp) C2 w2 ac3 R2 rfl ha3 _ hd3) ?_
   have hbg:∀w,(invoke (.fn (.func g) (caps.map ac2.eval)) #[]).run P w = .ok (.enter g (caps.map ac2.eval)) w:=by
    intro w
    unfold bodyT at hg
    split at hg
    case h_2=>cases hg
    rename_i fn' hfn
    simp only[Bool.and_eq_true,Bool.not_eq_true']at hg
    have hbn:fn'.body.isNone=false:=by
     cases hbo:fn'.body with
     | none=>rw[hbo]at hg;simp at hg
     | some c=>rfl
    simp only[invoke,Array.empty_append,callFunc,Sem.run_bind,run_program,Result.andThen_ok,hfn,hg.2,Bool.false_eq_true,if_false,hbn,Sem.run_pure]
   rintro e ac4 w4 ⟨e',a4,C4,q4,he4,ha4,hd4,R4,A4⟩
   have A24:Adv C w C4 w4:=A2.trans A4
   have leave:∀(pv:Option AV) (u:FrameMode),u ≠ .run→ModeRel C4 pv u→DCalls P G g (caps.toList.map (ev a2)) C4.H pv (fun H'=>must (resultsA P G H' a4 fn.results.toList) fun vs=>Q (.ret (oneOrTup vs)) H') →
     LeavesInM (WF none) 0 P fn ac4.tmps (fun e w'=>∃r C',Q r C'.H∧ResRel C' r e∧Rel G C' w'∧Adv C w C' w') ac4.defers u w4:=by
    intro pv u hu hm hdc
    rw[hd4.exact]
    refine⟨hu,.inr ⟨fun hh=>by simp[Fence.wide]at hh,_,_,_,_,rfl,hbg _,fun _ _=>trivial,(hdc C4 w4 _ u R4 rfl (hcaps.mono A4) hm).mono ?_⟩⟩
    rintro e u' w5 ⟨v,C5,rfl,hu',⟨vs,hvs,hq⟩,R5,A5⟩
    show LeavesInM (WF none) 0 P fn ac4.tmps _ [] (settle u') w5
    rw[hu']
    obtain⟨y,hy1,hy2⟩:=resultsA_run R5 (ha4.mono A5) hvs
    exact⟨y,hy1,_,C5,hq,hy2,R5,A24.trans A5⟩
   cases e' with
   | exit i=>exact q4.elim
   | normal=>cases e<;>first | exact he4.elim | exact leave none .returning (by simp) trivial q4
   | ret=>cases e<;>first | exact he4.elim | exact leave none .returning (by simp) trivial q4
   | pan v=>cases e<;>first | exact he4.elim | exact leave (some v) (.panicking _) (by simp) he4 q4
 refine callsIn_WF.1 (callsIn_of_wp_marks (F:=WF none) (n:=0) hf hc trivial (key parts c nP hp C w _ _ (by rw[hH];exact h) R ?_ rfl (Adv.refl _ _)))
 have hl:args.length=args'.size:=by simpa using hv.1
 unfold ActRel
 simp only[Array.toList_append,Array.toList_replicate,←hl]
 exact hv.append (VRs.replicate _ (.und undef))
end
end Go.Ab
