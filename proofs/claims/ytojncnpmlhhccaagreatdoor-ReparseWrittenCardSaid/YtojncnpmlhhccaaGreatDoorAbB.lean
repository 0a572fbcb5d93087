/- A logic over the kit's 'Calls' and 'Code.wp': calls, regions, code; what it comes to, and that it does. A logic over the kit's 'Calls' and 'Code.wp': a function's call out of its body. A logic over the kit's 'Calls' and 'Code.wp': the code without what its runs do not need, and its walk. A logic over the kit's 'Calls' and 'Code.wp': loops by the state at their head; calls by what is known of them. A logic over the kit's 'Calls' and 'Code.wp': statements whose order of operations Go leaves open. A logic over the kit's 'Calls' and 'Code.wp': whatever order a statement's operations are carried out in, they come to what they come to in the order of the text. A logic over the kit's 'Calls' and 'Code.wp': the walk of a statement whose order is open. -/
import Derived.Test.YtojncnpmlhhccaaGreatDoorAbA
import Derived.LoopNIn
import Derived.OrdersIn
import Derived.RangeFuncRecord
import Derived.Orders
set_option linter.all false
namespace Go.Ab
open Go Go.Lib
inductive ARes where
 | ret (v:AV)
 | pan (v:AV)
def ResRel (C:Ctx):ARes→Ending→Prop
 | .ret v,.returned y=>VR C v y
 | .pan v,.panicked chain=>∃y,chain=[{ v:=y,recovered:=false }]∧VR C v y
 | _,_=>False
def ACalls (P:Program) (G:Nat→Option (List AV)) (f:FuncId) (args:List AV) (H:AHeap) (Q:ARes→AHeap→Prop):Prop:=
 ∀(C:Ctx) (w:World) (args':Array Value),Rel G C w→C.H=H→VRs C args args'.toList →
  Calls P f args' w fun e w'=>∃r C',Q r C'.H∧ResRel C' r e∧Rel G C' w'∧Adv C w C' w'
theorem ACalls.mono {P:Program} {G:Nat→Option (List AV)} {f:FuncId} {args:List AV} {H:AHeap} {Q Q':ARes→AHeap→Prop} (h:ACalls P G f args H Q) (hq:∀r H',Q r H'→Q' r H'):ACalls P G f args H Q':=
 fun C w args' R hH hv=>(h C w args' R hH hv).mono fun _ _ ⟨r,C',q,rest⟩=>⟨r,C',hq _ _ q,rest⟩
def bodyT (P:Program) (f:FuncId):Bool:=match P.funcs[f]? with | some fn=>fn.body.isSome && !(fn.name== "runtime.NumGoroutine") | none=>false
def AInv (P:Program) (G:Nat→Option (List AV)) (f:FuncId) (args:List AV) (H:AHeap) (K Kp:AV→AHeap→Prop):Prop:=
 (bodyT P f=true∧ACalls P G f args H fun r H'=>match r with | .ret v=>K v H' | .pan v=>Kp v H') ∨
 (∀(C:Ctx) (w:World) (args':Array Value),Rel G C w→C.H=H→VRs C args args'.toList →
  ∃r w' C' v,(callFunc f args').run P w = .ok (.value r) w'∧VR C' v r∧Rel G C' w'∧Adv C w C' w'∧K v C'.H)
inductive AExit where
 | normal
 | exit (id:Nat)
 | ret
 | pan (v:AV)
def ExitRel (C:Ctx):AExit→Exit→Prop
 | .normal,.normal=>True
 | .exit i,.exit j=>i=j
 | .ret,.ret=>True
 | .pan v,.panic chain=>∃y,chain=[{ v:=y,recovered:=false }]∧VR C v y
 | _,_=>False
def putA (a:List AV) (dst:Option Tmp) (v:AV):List AV:=match dst with | some d=>a.set d v | none=>a
theorem ActRel.put {C:Ctx} {a:List AV} {ac:Act} (h:ActRel C a ac) (dst:Option Tmp) {v:AV} {y:Value} (hv:VR C v y):ActRel C (putA a dst v) (ac.put dst y):=by
 cases dst with
 | none=>exact h
 | some d=>
  have:=VRs.set h d hv
  simpa[ActRel,Act.put,putA]using this
theorem ActRel.mono {C C':Ctx} {w w':World} {a:List AV} {ac:Act} (A:Adv C w C' w') (h:ActRel C a ac):ActRel C' a ac:=VRs.mono A h
theorem put_defers (ac:Act) (dst:Option Tmp) (y:Value):(ac.put dst y).defers=ac.defers:=by cases dst<;>rfl
abbrev APost:=AExit→List AV→AHeap→Prop
abbrev WF (rd:Option Nat):Fence:={ Fence.wide with round:=rd }
theorem callsIn_WF {rd:Option Nat} {n:Nat} {P:Program} {f:FuncId} {args:Array Value} {w:World} {R:Ending→World→Prop}:CallsIn (WF rd) n P f args w R↔Calls P f args w R:=callsIn_wide (n:=n)
def markOf (r:Nat):Deferred:={ target := .collected r,args:=#[] }
def Marked (mk:Bool) (D:List Deferred) (w:World) (C':Ctx) (w':World) (D':List Deferred):Prop:=
 ∃ms:List Nat,D'=ms.map markOf++D∧(mk=false→ms=[])∧ms.Nodup∧∀r,r∈ms→w.heap.size≤r∧w'.heap[r]?=some (.deferred (some []))∧¬C'.owns r
theorem Marked.refl (mk:Bool) (D:List Deferred) (w:World) (C:Ctx) (w':World):Marked mk D w C w' D:=⟨[],rfl,fun _=>rfl,.nil,fun _ h=>by cases h⟩
theorem Marked.of_eq {mk:Bool} {D D':List Deferred} {w w':World} {C:Ctx} (h:D'=D):Marked mk D w C w' D':=h▸Marked.refl mk D w C w'
theorem Marked.trans {mk:Bool} {D D1 D2:List Deferred} {w w1 w2:World} {C C1 C2:Ctx} (A:Adv C w C1 w1) (h:Marked mk D w C1 w1 D1) (A':Adv C1 w1 C2 w2) (h':Marked mk D1 w1 C2 w2 D2):Marked mk D w C2 w2 D2:=by
 obtain⟨m1,e1,n1,d1,k1⟩:=h
 obtain⟨m2,e2,n2,d2,k2⟩:=h'
 have lt1:∀r,r∈m1→r<w1.heap.size:=fun r hr=>(Array.getElem?_eq_some_iff.1 (k1 r hr).2.1).1
 refine⟨m2++m1,by rw[e2,e1,List.map_append,List.append_assoc],fun hm=>by rw[n1 hm,n2 hm];rfl,List.nodup_append.2 ⟨d2,d1,fun a ha b hb e=>?_⟩,fun r hr=>?_⟩
 ·subst e;have:=(k2 a ha).1;have:=lt1 a hb;omega
 ·rcases List.mem_append.1 hr with hr | hr
  ·exact⟨Nat.le_trans A.size (k2 r hr).1,(k2 r hr).2⟩
  ·have hl:=lt1 r hr
   obtain⟨h1,h2,h3⟩:=k1 r hr
   refine⟨h1,(A'.frame r hl h3).trans h2,fun ho=>?_⟩
   rcases A'.own r ho with h | h
   ·omega
   ·exact h3 h
theorem Marked.adv {mk:Bool} {D D1:List Deferred} {w w1 w2:World} {C C1 C2:Ctx} (A:Adv C w C1 w1) (h:Marked mk D w C1 w1 D1) (A':Adv C1 w1 C2 w2):Marked mk D w C2 w2 D1:=
 h.trans A A' (Marked.refl mk D1 w1 C2 w2)
theorem Marked.exact {D D':List Deferred} {w w':World} {C:Ctx} (h:Marked false D w C w' D'):D'=D:=by
 obtain⟨ms,h1,h2,_⟩:=h
 rw[h2 rfl]at h1
 exact h1
def Behind (mk:Bool) (D:List Deferred) (G:Nat→Option (List AV)) (C:Ctx) (w:World) (Q:APost):Exit→Act→World→Prop:=
 fun e ac' w'=>∃e' a' C',Q e' a' C'.H∧ExitRel C' e' e∧ActRel C' a' ac'∧Marked mk D w C' w' ac'.defers∧Rel G C' w'∧Adv C w C' w'
def ATr (P:Program) (G:Nat→Option (List AV)) (mk:Bool) (c:Code) (Q:APost) (a:List AV) (H:AHeap):Prop:=
 ∀(rd:Option Nat),(mk=true→rd=none)→∀(C:Ctx) (w:World) (ac:Act),Rel G C w→C.H=H→ActRel C a ac→∀(D:List Deferred),ac.defers=D→c.wpIn (WF rd) 0 P (Behind mk D G C w Q) ac w
theorem ATr.mono {P:Program} {G:Nat→Option (List AV)} {mk:Bool} {c:Code} {Q Q':APost} {a:List AV} {H:AHeap} (h:ATr P G mk c Q a H) (hq:∀e a H,Q e a H→Q' e a H):ATr P G mk c Q' a H:=
 fun rd hrd C w ac R hH ha D hd=>wpIn_mono (h rd hrd C w ac R hH ha D hd) fun _ _ _ ⟨e',a',C',q,rest⟩=>⟨e',a',C',hq _ _ _ q,rest⟩
def putsA (b:List AV):List Tmp→List AV→List AV
 | p::ps,v::vs=>putsA (b.set p v) ps vs
 | _,_=>b
def roundA (k:Nat) (b:List AV) (ps:List Tmp) (x y:Code) (K:AV→AHeap→Prop):APost
 | .normal,_,H=>H.get k=some (.loop .busy none b ps x y)∧K (.bool true) (H.set k (.loop .ready none b ps x y))
 | .ret,_,H=>H.get k=some (.loop .busy none b ps x y)∧K (.bool false) (H.set k (.loop .done (some .ret) b ps x y))
 | .exit i,_,H=>H.get k=some (.loop .busy none b ps x y)∧K (.bool false) (H.set k (.loop .done (some (.exit i)) b ps x y))
 | .pan _,_,_=>False
def assignA (P:Program) (G:Nat→Option (List AV)) (k:Nat) (b:List AV) (ps:List Tmp) (x y:Code) (K:AV→AHeap→Prop):APost
 | .normal,a,H=>H.get k=some (.loop .ready none b ps x y)∧ATr P G false y (roundA k b ps x y K) a (H.set k (.loop .busy none b ps x y))
 | _,_,_=>False
def ARound (P:Program) (G:Nat→Option (List AV)) (k:Nat) (b:List AV) (ps:List Tmp) (x y:Code) (args:List AV) (H:AHeap) (K:AV→AHeap→Prop):Prop:=
 args.length=ps.length∧ATr P G false x (assignA P G k b ps x y K) (putsA b ps args) H
theorem ARound.mono {P:Program} {G:Nat→Option (List AV)} {k:Nat} {b:List AV} {ps:List Tmp} {x y:Code} {args:List AV} {H:AHeap} {K K':AV→AHeap→Prop} (h:ARound P G k b ps x y args H K) (hk:∀v H,K v H→K' v H):ARound P G k b ps x y args H K':=by
 refine⟨h.1,h.2.mono fun e a H he=>?_⟩
 cases e with
 | normal=>
  refine⟨he.1,he.2.mono fun e a H he=>?_⟩
  cases e with
  | pan v=>exact he
  | _=>exact⟨he.1,hk _ _ he.2⟩
 | _=>exact he
def AYield (P:Program) (G:Nat→Option (List AV)) (k:Nat) (args:List AV) (H:AHeap) (K:AV→AHeap→Prop):Prop:=
 ∃b ps x y,H.get k=some (.loop .ready none b ps x y)∧ARound P G k b ps x y args H K
def must {α:Type} (x:Option α) (K:α→Prop):Prop:=∃y,x=some y∧K y
@[simp] theorem must_some {α:Type} (x:α) (K:α→Prop):must (some x) K=K x:=by simp[must]
@[simp] theorem must_none {α:Type} (K:α→Prop):must (none:Option α) K=False:=by simp[must]
theorem must_ite {α:Type} (c:Prop) [Decidable c] (x:Option α) (K:α→Prop):must (if c then x else none) K=(c∧must x K):=by
 by_cases h:c<;>simp[h,must]
theorem must_map {α β:Type} (x:Option α) (f:α→β) (K:β→Prop):must (x.map f) K=must x fun y=>K (f y):=by
 cases x<;>simp
def mNext (next:List AV→AHeap→Prop) (d:Option Tmp) (a:List AV) (p:AV × AHeap):Prop:=next (putA a d p.1) p.2
def kNext (next:List AV→AHeap→Prop) (d:Option Tmp) (a:List AV) (v:AV) (H:AHeap):Prop:=next (putA a d v) H
def kPan (Q:APost) (a:List AV) (v:AV) (H:AHeap):Prop:=Q (.pan v) a H
def opS (P:Program) (G:Nat→Option (List AV)) (op:Op) (dst:Option Tmp) (a:List AV) (H:AHeap) (next:List AV→AHeap→Prop) (Q:APost):Prop:=
 match op with
 | .call { callee := .value f,args,.. }=>match ev a f with
  | .func g caps=>AInv P G g (args.toList.map (ev a)++caps) H (kNext next dst a) (kPan Q a)
  | .bfunc g bound caps=>AInv P G g (bound++args.toList.map (ev a)++caps) H (kNext next dst a) (kPan Q a)
  | .yld k=>AYield P G k (args.toList.map (ev a)) H (kNext next dst a)
  | _=>False
 | .panic x=>match ev a x with
  | .iface t v=>Q (.pan (.iface t v)) a H
  | _=>False
 | op=>must (opA P G H H.next a op) (mNext next dst a)
theorem opS_mono {P:Program} {G:Nat→Option (List AV)} {op:Op} {dst:Option Tmp} {a:List AV} {H:AHeap} {next next':List AV→AHeap→Prop} {Q:APost} (hn:∀a H,next a H→next' a H)
  (h:opS P G op dst a H next Q):opS P G op dst a H next' Q:=by
 unfold opS at h ⊢
 split at h
 ·split at h
  ·rename_i hf
   rcases h with ⟨hb,hc⟩ | hext
   ·exact .inl ⟨hb,hc.mono fun r H' hr=>by cases r<;>first | exact hn _ _ hr | exact hr⟩
   ·refine .inr fun C w args' R hH hv=>?_
    obtain⟨r,w',C',v,h1,h2,h3,h4,h5⟩:=hext C w args' R hH hv
    exact⟨r,w',C',v,h1,h2,h3,h4,hn _ _ h5⟩
  ·rename_i hf
   rcases h with ⟨hb,hc⟩ | hext
   ·exact .inl ⟨hb,hc.mono fun r H' hr=>by cases r<;>first | exact hn _ _ hr | exact hr⟩
   ·refine .inr fun C w args' R hH hv=>?_
    obtain⟨r,w',C',v,h1,h2,h3,h4,h5⟩:=hext C w args' R hH hv
    exact⟨r,w',C',v,h1,h2,h3,h4,hn _ _ h5⟩
  ·obtain⟨b,ps,x,y,h1,h2⟩:=h
   exact⟨b,ps,x,y,h1,h2.mono fun v H' hv=>hn _ _ hv⟩
  ·exact h.elim
 ·exact h
 ·obtain⟨p,h1,h2⟩:=h
  exact⟨p,h1,hn _ _ h2⟩
def guardA (ops:Array Oper) (o:Oper) (a:List AV) (run skip:List AV→Prop):Prop:=
 match o.guard with
 | none=>run a
 | some (j,want)=>match (ops[j]?).bind (·.dst)with
  | none=>False
  | some d=>match a.getD d .und with
   | .bool b=>(b=want→run (a.set d (.bool want)))∧(b = !want→skip (a.set d (.bool (!want))))
   | .tup []=>skip a
   | _=>False
def awpOps (P:Program) (G:Nat→Option (List AV)) (ops:Array Oper) (Q:APost):List Nat→List AV→AHeap→Prop
 | [],a,H=>Q .normal a H
 | i::rest,a,H=>match ops[i]? with
  | none=>awpOps P G ops Q rest a H
  | some o=>guardA ops o a (fun a=>opS P G o.op o.dst a H (awpOps P G ops Q rest) Q) (fun a=>awpOps P G ops Q rest (putA a o.dst (.tup [])) H)
def thenA (next:List AV→AHeap→Prop) (Q:APost):APost
 | .normal,a,H=>next a H
 | e,a,H=>Q e a H
def blockA (id:Nat) (Q:APost):APost
 | .exit i,a,H=>if i=id then Q .normal a H else Q (.exit i) a H
 | e,a,H=>Q e a H
def setC (a:List AV) (c:Operand) (b:Bool):List AV:=match c with | .tmp t=>a.set t (.bool b) | _=>a
theorem rel_getD {C:Ctx} {a:List AV} {ac:Act} (h:ActRel C a ac) {d:Nat} {b:Bool} (hb:a.getD d .und = .bool b):ac.tmps[d]?=some (.bool b):=by
 cases hx:a[d]? with
 | none=>simp[List.getD,hx]at hb
 | some x=>
  simp only[List.getD,hx,Option.getD_some]at hb
  subst hb
  obtain⟨y,hy,hv⟩:=VRs.get h hx
  cases hv
  rw[←Array.getElem?_toList];exact hy
theorem vr_undef (C:Ctx):VR C (.tup []) undef := .tup [] #[] rfl fun i x y hx=>by simp at hx
theorem rel_skip {ops:Array Oper} {C:Ctx} {a:List AV} {ac:Act} (h:ActRel C a ac) {j d:Nat} (hd:(ops[j]?).bind (·.dst)=some d) (hb:a.getD d .und = .tup []):yielded ops ac.tmps j=none:=by
 cases hx:a[d]? with
 | none=>simp[List.getD,hx]at hb
 | some x=>
  simp only[List.getD,hx,Option.getD_some]at hb
  subst hb
  obtain⟨y,hy,hv⟩:=VRs.get h hx
  rw[Array.getElem?_toList]at hy
  unfold yielded
  rw[hd]
  simp only[Option.bind_some,hy]
  cases hv
  rfl
theorem set_same {C:Ctx} {a:List AV} {ac:Act} (h:ActRel C a ac) {d:Nat} {b:Bool} (hb:a.getD d .und = .bool b):a.set d (.bool b)=a:=by
 cases hx:a[d]? with
 | none=>rw[List.set_eq_of_length_le];exact List.getElem?_eq_none_iff.1 hx
 | some x=>
  simp only[List.getD,hx,Option.getD_some]at hb
  subst hb
  apply List.ext_getElem?
  intro j
  rw[List.getElem?_set]
  by_cases hj:d=j
  ·subst hj;simp[(List.getElem?_eq_some_iff.1 hx).1,(List.getElem?_eq_some_iff.1 hx).2]
  ·simp[hj]
theorem putsA_ok {C:Ctx}:∀{ps:List Tmp} {as:List AV} {vs:List Value} {b:List AV} {t:Array Value},VRs C b t.toList→VRs C as vs→VRs C (putsA b ps as) ((ps.zip vs).foldl (fun t (p,v)=>t.setIfInBounds p v) t).toList
 | [],_,_,b,t,hb,_=>by simpa[putsA]using hb
 | p::ps,[],[],b,t,hb,_=>by simpa[putsA]using hb
 | p::ps,a::as,v::vs,b,t,hb,h=>by
  have h0:VR C a v:=h.2 0 a v rfl rfl
  have h1:VRs C as vs:=⟨by have:=h.1;simpa using this,fun i x y hx hy=>h.2 (i+1) x y (by simpa using hx) (by simpa using hy)⟩
  simp only[putsA,List.zip_cons_cons,List.foldl_cons]
  exact putsA_ok (by rw[Array.toList_setIfInBounds];exact hb.set p h0) h1
 | _::_,[],_::_,_,_,_,h=>by have:=h.1;simp at this
 | _::_,_::_,[],_,_,_,h=>by have:=h.1;simp at this
theorem turn_loop {G:Nat→Option (List AV)} {C:Ctx} {w:World} (R:Rel G C w) {k l:Nat} (hy:YldOk C k l) {st:LoopState} {pe:Option Code} {b:List AV} {ps:List Tmp} {x y:Code} (hk:C.H.get k=some (.loop st pe b ps x y)) :
  ∃r,w.heap[l]?=some (.loop r)∧r.state=st∧r.pending=pe∧VRs C b r.tmps.toList∧r.params.toList=ps∧r.assign=x∧r.body=y ∧
   ∀st' pe',Rel G (C.put k (.loop st' pe' b ps x y)) (w.putObj l (.loop { r with state:=st',pending:=pe' }))∧Adv C w (C.put k (.loop st' pe' b ps x y)) (w.putObj l (.loop { r with state:=st',pending:=pe' })):=by
 obtain⟨c,cap,r,h1,h2,h3,h4,h5,h6,h7,h8⟩:=(R.pres k _ hk).2.2
 have hy2:=hy.2.2
 simp only[hk]at hy2
 obtain⟨cap',hm⟩:=hy2
 have hcl:c=l:=by rw[hm]at h1;cases h1;rfl
 subst hcl
 refine⟨r,h2,h3,h4,h5,h6,h7,h8,fun st' pe'=>?_⟩
 refine R.put hk trivial h1 (fun b hb=>World.putObj_heap_other hb) World.putObj_size rfl rfl rfl (fun A=>?_)
 exact⟨c,cap,_,h1,World.putObj_heap_same (Array.getElem?_eq_some_iff.1 h2).1,rfl,rfl,h5.mono A,h6,h7,h8⟩
theorem putH (C:Ctx) (k:Nat) (o:AObj):(C.put k o).H=C.H.set k o:=rfl
section
variable {P:Program} {G:Nat→Option (List AV)} {mk:Bool} {rd:Option Nat} {o:Oper} {a:List AV} {H:AHeap} {next:List AV→AHeap→Prop} {Q:APost} {C0 C:Ctx} {w0 w:World} {ac:Act} {N:Act→World→Prop} {D:List Deferred}
theorem ainv_ok {g:FuncId} {as:List AV} {vs:Array Value} (A0:Adv C0 w0 C w) (R:Rel G C w) (hH:C.H=H) (ha:ActRel C a ac) (hd:ac.defers=D)
  (hN:∀a' C' ac' w',next a' C'.H→ActRel C' a' ac'→ac'.defers=D→Rel G C' w'→Adv C0 w0 C' w'→N ac' w')
  (hargs:VRs C as vs.toList) (h:AInv P G g as H (kNext next o.dst a) (kPan Q a)):o.uponIn (WF rd) 0 P ac N (Behind mk D G C0 w0 Q) ((callFunc g vs).run P w):=by
 rcases h with ⟨hb,hcall⟩ | hext
 ·unfold bodyT at hb
  split at hb
  case h_2=>cases hb
  rename_i fn hfn
  simp only[Bool.and_eq_true,Bool.not_eq_true']at hb
  have hbn:fn.body.isNone=false:=by
   cases hbo:fn.body with
   | none=>rw[hbo]at hb;simp at hb
   | some c=>rfl
  have hrun:(callFunc g vs).run P w = .ok (.enter g vs) w:=by
   simp only[callFunc,Sem.run_bind,run_program,Result.andThen_ok,hfn,hb.2,Bool.false_eq_true,if_false,hbn,Sem.run_pure]
  rw[hrun,Oper.uponIn_enter]
  refine⟨fun hh=>by simp[Fence.wide]at hh,callsIn_WF.2 ((hcall C w _ R hH hargs).mono fun e w' ⟨r,C',q,hr,R',A'⟩=>?_)⟩
  cases r with
  | ret v=>
   cases e with
   | returned y=>exact hN _ C' _ w' q ((ha.mono A').put o.dst hr) (by rw[put_defers];exact hd) R' (A0.trans A')
   | panicked chain=>exact hr.elim
   | outgrown=>exact hr.elim
  | pan v=>
   cases e with
   | returned y=>exact hr.elim
   | panicked chain=>exact⟨.pan v,a,C',q,hr,ha.mono A',Marked.of_eq hd,R',A0.trans A'⟩
   | outgrown=>exact hr.elim
 ·obtain⟨r,w',C',v,hrun,hv,R',A',hk⟩:=hext C w _ R hH hargs
  rw[hrun]
  exact hN _ C' _ w' hk ((ha.mono A').put o.dst hv) (by rw[put_defers];exact hd) R' (A0.trans A')
theorem yield_ok {k l:Nat} {as:List AV} {vs:Array Value} (A0:Adv C0 w0 C w) (R:Rel G C w) (hH:C.H=H) (ha:ActRel C a ac) (hd:ac.defers=D)
  (hN:∀a' C' ac' w',next a' C'.H→ActRel C' a' ac'→ac'.defers=D→Rel G C' w'→Adv C0 w0 C' w'→N ac' w')
  (hy:YldOk C k l) (hargs:VRs C as vs.toList) (h:AYield P G k as H (kNext next o.dst a)):o.uponIn (WF rd) 0 P ac N (Behind mk D G C0 w0 Q) ((Instr.yield l vs).run P w):=by
 subst hH
 obtain⟨b,ps,x,y,hk,hlen,hx⟩:=h
 obtain⟨r,h1,h2,h3,h4,h5,h6,h7,_⟩:=turn_loop R hy hk
 subst h5;subst h6;subst h7
 have hsz:vs.size=r.params.size:=by have:=hargs.1;simp only[Array.length_toList]at this hlen;omega
 rw[run_yield h1 hsz,Oper.uponIn_round]
 refine⟨fun hh=>by simp[Fence.wide]at hh,?_⟩
 refine roundIn_of_wpIn (F:=WF rd) (l:=l) trivial ?_
 have hact:ActRel C (putsA b r.params.toList as) { tmps:=(r.params.zip vs).foldl (fun t (p,v)=>t.setIfInBounds p v) r.tmps,defers:=[] }:=by
  have:=putsA_ok (ps:=r.params.toList) h4 hargs
  unfold ActRel
  rw[←Array.foldl_toList,Array.toList_zip]
  exact this
 refine wpIn_mono (hx (some l) (by simp) C w _ R rfl hact [] rfl) ?_
 rintro e a1 w1 ⟨e',a1',C1,q,he,ha1,hd1,R1,A1⟩
 cases e' with
 | exit i=>exact q.elim
 | ret=>exact q.elim
 | pan v=>exact q.elim
 | normal=>
 cases e<;>first | exact he.elim | skip
 obtain⟨hk1,hy1⟩:=q
 have hy1':=hy.mono A1
 obtain⟨r1,g1,g2,g3,g4,g5,g6,g7,g8⟩:=turn_loop R1 hy1' hk1
 obtain⟨R2,A2⟩:=g8 .busy none
 have ebusy:({ r1 with state:=LoopState.busy }:Loop)={ r1 with state := .busy,pending:=none }:=by rw[←g3]
 have hbr:=run_beginRound (P:=P) g1 g2
 rw[ebusy]at hbr
 refine⟨_,hbr,?_⟩
 refine wpIn_mono (hy1 (some l) (by simp) _ _ a1 R2 (putH _ _ _) (ha1.mono A2) [] hd1.exact) ?_
 rintro e a2 w2 ⟨e',a2',C2,q,he,ha2,hd2,R3,A3⟩
 have hy2:=(hy1'.mono A2).mono A3
 have fin:∀(jump:Option Code) (hk2:C2.H.get k=some (.loop .busy none b r.params.toList r.assign r.body)) (v:Bool),v=jump.isNone→kNext next o.dst a (.bool v) (C2.H.set k (.loop (if jump.isNone then .ready else .done) jump b r.params.toList r.assign r.body)) →
   ∃v w',(Instr.endRound l jump).run P w2 = .ok v w'∧N (ac.put o.dst v) w':=by
  intro jump hk2 v hv hq
  obtain⟨r2,f1,f2,f3,f4,f5,f6,f7,f8⟩:=turn_loop R3 hy2 hk2
  obtain⟨R4,A4⟩:=f8 (if jump.isNone then .ready else .done) jump
  refine⟨_,_,run_endRound jump f1,?_⟩
  subst hv
  have AA:=((A1.trans A2).trans A3).trans A4
  exact hN (putA a o.dst (.bool jump.isNone)) (C2.put k (.loop (if jump.isNone then .ready else .done) jump b r.params.toList r.assign r.body)) (ac.put o.dst (.bool jump.isNone)) _ hq ((ha.mono AA).put o.dst (.bool _)) (by rw[put_defers];exact hd) R4 (A0.trans AA)
 cases e' with
 | pan v=>exact q.elim
 | normal=>
  cases e<;>first | exact he.elim | skip
  exact fin none q.1 true rfl q.2
 | ret=>
  cases e<;>first | exact he.elim | skip
  exact fin (some .ret) q.1 false rfl q.2
 | exit i=>
  cases e<;>first | exact he.elim | skip
  cases he
  exact fin (some (.exit i)) q.1 false rfl q.2
theorem awpOp_ok (A0:Adv C0 w0 C w) (R:Rel G C w) (hH:C.H=H) (ha:ActRel C a ac) (hd:ac.defers=D)
  (hN:∀a' C' ac' w',next a' C'.H→ActRel C' a' ac'→ac'.defers=D→Rel G C' w'→Adv C0 w0 C' w'→N ac' w')
  (h:opS P G o.op o.dst a H next Q):o.wpIn (WF rd) 0 P ac w N (Behind mk D G C0 w0 Q):=by
 have plain:(∀c,o.op ≠ .defer c)→must (opA P G H H.next a o.op) (fun p=>next (putA a o.dst p.1) p.2)→o.wpIn (WF rd) 0 P ac w N (Behind mk D G C0 w0 Q):=by
  rintro hnd ⟨⟨v,H'⟩,hop,hn⟩
  subst hH
  obtain⟨r,w',C',hrun,hH',hv,R',A'⟩:=opA_ok R ha (.inl (Nat.le_refl _)) hop
  have fin:N (ac.put o.dst r) w':=hN _ C' _ w' (by rw[hH'];exact hn) ((ha.mono A').put o.dst hv) (by rw[put_defers];exact hd) R' (A0.trans A')
  refine⟨fun _ _=>trivial,?_⟩
  rw[Oper.semAt_eq _ _ _ hnd]
  rcases hrun with hrun | ⟨hrun,rfl⟩
  ·rw[hrun];exact fin
  ·rw[hrun];exact fin
 unfold opS at h
 split at h
 ·rename_i f args at_ heq
  have hexec:∀(g:Fn) (bs vs:Array Value),ac.eval f = .func g bs vs→o.semAt (WF rd).round ac.eval=invoke (.fn g vs) (bs++args.map ac.eval):=by
   intro g bs vs hfe
   rw[Oper.semAt_eq _ _ _ (fun c hc=>by rw[heq]at hc;cases hc)]
   unfold execOp
   simp only[heq]
   simp[resolve,hfe,Deferred.ofValue]
  split at h
  case h_4=>exact h.elim
  ·rename_i g caps hf
   have hfv:=ev_ok ha f
   rw[hf]at hfv
   refine⟨fun _ _=>trivial,?_⟩
   generalize hfe:ac.eval f=fv at hfv
   cases hfv with
   | func _ _ vs hl hcv=>
   rw[hexec _ _ _ hfe]
   have hargs:VRs C (args.toList.map (ev a)++caps) (#[]++args.map ac.eval++vs).toList:=by
    rw[Array.toList_append,Array.empty_append]
    exact(ev_list ha args).append ⟨by simpa using hl,fun i x y hx hy=>hcv i x y hx (by simpa using hy)⟩
   exact ainv_ok A0 R hH ha hd hN hargs h
  ·rename_i g bound caps hf
   have hfv:=ev_ok ha f
   rw[hf]at hfv
   refine⟨fun _ _=>trivial,?_⟩
   generalize hfe:ac.eval f=fv at hfv
   cases hfv with
   | bfunc _ _ _ bs vs hb h0 hl hcv=>
   rw[hexec _ _ _ hfe]
   have hargs:VRs C (bound++args.toList.map (ev a)++caps) (bs++args.map ac.eval++vs).toList:=by
    rw[Array.toList_append,Array.toList_append]
    exact((show VRs C bound bs.toList from ⟨by simpa using hb,fun i x y hx hy=>h0 i x y hx (by simpa using hy)⟩).append (ev_list ha args)).append ⟨by simpa using hl,fun i x y hx hy=>hcv i x y hx (by simpa using hy)⟩
   exact ainv_ok A0 R hH ha hd hN hargs h
  ·rename_i k hf
   have hfv:=ev_ok ha f
   rw[hf]at hfv
   refine⟨fun _ _=>trivial,?_⟩
   generalize hfe:ac.eval f=fv at hfv
   cases hfv with
   | yld _ l hy=>
   rw[hexec _ _ _ hfe]
   have hinv:invoke (.fn (.yield l) #[]) (#[]++args.map ac.eval)=Instr.yield l (args.map ac.eval):=by simp[invoke]
   rw[hinv]
   exact yield_ok A0 R hH ha hd hN hy (ev_list ha args) h
 ·rename_i x heq
  split at h
  case h_2=>exact h.elim
  rename_i t v hx
  have hxv:=ev_ok ha x
  rw[hx]at hxv
  refine⟨fun _ _=>trivial,?_⟩
  rw[Oper.semAt_eq _ _ _ (fun c hc=>by rw[heq]at hc;cases hc)]
  unfold execOp
  simp only[heq]
  generalize ac.eval x=xv at hxv
  cases hxv with
  | iface _ _ y hy=>
  subst hH
  have:(do pure (Next.value (←Instr.panic (.iface t y))):Sem Next).run P w = .halt (.panic (.iface t y)) w:=by simp[Instr.panic,goPanic]
  rw[this]
  exact⟨.pan (.iface t v),a,C,h,⟨_,rfl,.iface _ _ _ hy⟩,ha,Marked.of_eq hd,R,A0⟩
 ·refine plain (fun c hc=>?_) h
  rw[hc]at h
  simp only[opA,must_none]at h
end
theorem awpOps_ok {mk:Bool} {rd:Option Nat} {P:Program} {G:Nat→Option (List AV)} {ops:Array Oper} {Q:APost} {C0:Ctx} {w0:World} {D:List Deferred}:∀(l:List Nat) (a:List AV) (H:AHeap) (C:Ctx) (w:World) (ac:Act),
  Adv C0 w0 C w→Rel G C w→C.H=H→ActRel C a ac→ac.defers=D→awpOps P G ops Q l a H→wpOpsIn (WF rd) 0 P ops (Behind mk D G C0 w0 Q) l ac w
 | [],a,H,C,w,ac,A,R,hH,ha,hd,h=>by
  subst hH
  exact⟨.normal,a,C,h,trivial,ha,Marked.of_eq hd,R,A⟩
 | i::rest,a,H,C,w,ac,A,R,hH,ha,hd,h=>by
  simp only[awpOps]at h
  simp only[wpOpsIn]
  cases ho:ops[i]? with
  | none=>simp only[ho]at h;exact awpOps_ok rest a H C w ac A R hH ha hd h
  | some o=>
   simp only[ho]at h
   dsimp only
   have hrun:∀a,ActRel C a ac→opS P G o.op o.dst a H (awpOps P G ops Q rest) Q→o.wpIn (WF rd) 0 P ac w (wpOpsIn (WF rd) 0 P ops (Behind mk D G C0 w0 Q) rest) (Behind mk D G C0 w0 Q):=fun a ha h=>
    awpOp_ok A R hH ha hd (fun a' C' ac' w' hn ha' hd' R' A'=>awpOps_ok rest a' C'.H C' w' ac' A' R' rfl ha' hd' hn) h
   unfold guardA at h
   cases hg:o.guard with
   | none=>
    simp only[hg]at h
    have hw:Region.wanted o (yielded ops ac.tmps)=true:=by simp only[Region.wanted,hg]
    rw[if_pos hw]
    exact hrun a ha h
   | some p=>
    obtain⟨j,want⟩:=p
    simp only[hg]at h
    split at h
    ·exact h.elim
    rename_i d hdst
    split at h
    case h_3=>exact h.elim
    case h_2=>
     rename_i hb
     have hw:Region.wanted o (yielded ops ac.tmps)=false:=by
      simp only[Region.wanted,hg,rel_skip ha hdst hb]
      cases want<;>rfl
     rw[if_neg (by rw[hw];simp)]
     exact⟨fun _ _=>trivial,awpOps_ok rest _ H C w _ A R hH (ha.put o.dst (vr_undef C)) (by rw[put_defers];exact hd) h⟩
    rename_i b hb
    have hy:yielded ops ac.tmps j=some b:=by
      unfold yielded
      rw[hdst]
      simp only[Option.bind_some,rel_getD ha hb]
    by_cases hbw:b=want
    ·subst hbw
     have hw:Region.wanted o (yielded ops ac.tmps)=true:=by simp only[Region.wanted,hg,hy];cases b<;>rfl
     rw[if_pos hw]
     have h1:=h.1 rfl
     rw[set_same ha hb]at h1
     exact hrun a ha h1
    ·have hbn:b = !want:=by cases b<;>cases want<;>simp_all
     have hw:Region.wanted o (yielded ops ac.tmps)=false:=by
      simp only[Region.wanted,hg,hy]
      subst hbn
      cases want<;>rfl
     rw[if_neg (by rw[hw];simp)]
     have h1:=h.2 hbn
     rw[←hbn,set_same ha hb]at h1
     exact⟨fun _ _=>trivial,awpOps_ok rest _ H C w _ A R hH (ha.put o.dst (vr_undef C)) (by rw[put_defers];exact hd) h1⟩
def Weak (G:Nat→Option (List AV)) (a:List AV) (H:AHeap) (a':List AV) (H':AHeap):Prop:=
 ∀(C:Ctx) (w:World),Rel G C w→C.H=H→∃C',C'.H=H'∧Rel G C' w∧Adv C w C' w∧∀ys,VRs C a ys→VRs C' a' ys
theorem ATr.weak {P:Program} {G:Nat→Option (List AV)} {mk:Bool} {c:Code} {Q:APost} {a a':List AV} {H H':AHeap} (hw:Weak G a H a' H') (h:ATr P G mk c Q a' H'):ATr P G mk c Q a H:=by
 intro rd hrd C w ac R hH ha D hd
 obtain⟨C',hH',R',A',hv⟩:=hw C w R hH
 refine wpIn_mono (h rd hrd C' w ac R' hH' (hv _ ha) D hd) ?_
 rintro e2 ac2 w2 ⟨e2',a2,C2,q2,he2,ha2,hd2,R2,A2⟩
 exact⟨e2',a2,C2,q2,he2,ha2,hd2,R2,A'.trans A2⟩
theorem ATr.loop {P:Program} {G:Nat→Option (List AV)} {mk:Bool} {b:Code} {Q:APost} {a:List AV} {H:AHeap} (I:Nat→List AV→AHeap→Prop)
  (h0:∃n a' H',Weak G a H a' H'∧I n a' H')
  (round:∀n a H,I n a H→ATr P G mk b (thenA (fun a' H'=>∃n' a2 H2,n'<n∧Weak G a' H' a2 H2∧I n' a2 H2) Q) a H):ATr P G mk (.loop b) Q a H:=by
 intro rd hrd C w ac R hH ha D hd
 obtain⟨n0,a',H',hw,hI⟩:=h0
 let J:Nat→Act→World→Prop:=fun n ac w'=>∃a1 C1,I n a1 C1.H∧ActRel C1 a1 ac∧Marked mk D w C1 w' ac.defers∧Rel G C1 w'∧Adv C w C1 w'
 obtain⟨C',hH',R',A',hv⟩:=hw C w R hH
 have start:J n0 ac w:=⟨a',C',hH'▸hI,hv _ ha,Marked.of_eq hd,R',A'⟩
 have mono:∀n ac w',Code.roundsIn (WF rd) 0 P b (Behind mk D G C w Q) n ac w'→Code.roundsIn (WF rd) 0 P b (Behind mk D G C w Q) (n+1) ac w':=by
  intro n
  induction n with
  | zero=>intro ac w' h;exact h.elim
  | succ n ih=>
   intro ac w' h
   rw[roundsIn_succ]at h ⊢
   exact wpIn_mono h fun e a1 w1 he=>by cases e<;>first | exact ih _ _ he | exact he
 have monoLe:∀n m ac w',n≤m→Code.roundsIn (WF rd) 0 P b (Behind mk D G C w Q) n ac w'→Code.roundsIn (WF rd) 0 P b (Behind mk D G C w Q) m ac w':=by
  intro n m ac w' hle h
  induction hle with
  | refl=>exact h
  | step _ ih=>exact mono _ _ _ ih
 have key:∀n ac w',J n ac w'→Code.roundsIn (WF rd) 0 P b (Behind mk D G C w Q) (n+1) ac w':=by
  intro n
  induction n using Nat.strongRecOn with
  | _ n ih=>
   rintro ac w' ⟨a1,C1,hI1,ha1,hd1,R1,A1⟩
   rw[roundsIn_succ]
   refine wpIn_mono (round n a1 C1.H hI1 rd hrd C1 w' ac R1 rfl ha1 _ rfl) ?_
   rintro e ac2 w2 ⟨e',a2,C2,q,he,ha2,hd2,R2,A2⟩
   cases e' with
   | normal=>
    cases e<;>first | exact he.elim | skip
    obtain⟨n',a3,H3,hlt,hw3,hI3⟩:=q
    obtain⟨C3,hH3,R3,A3,hv3⟩:=hw3 C2 w2 R2 rfl
    exact monoLe (n'+1) n _ _ hlt (ih n' hlt ac2 w2 ⟨a3,C3,hH3▸hI3,hv3 _ ha2,(hd1.trans A1 A2 hd2).adv (A1.trans A2) A3,R3,(A1.trans A2).trans A3⟩)
   | exit i=>cases e<;>first | exact he.elim | exact⟨.exit i,a2,C2,q,he,ha2,hd1.trans A1 A2 hd2,R2,A1.trans A2⟩
   | ret=>cases e<;>first | exact he.elim | exact⟨.ret,a2,C2,q,he,ha2,hd1.trans A1 A2 hd2,R2,A1.trans A2⟩
   | pan v=>cases e<;>first | exact he.elim | exact⟨.pan v,a2,C2,q,he,ha2,hd1.trans A1 A2 hd2,R2,A1.trans A2⟩
 exact wpIn_loop_rounds (n0+1) (key n0 ac w start)
end Go.Ab
namespace Go.Ab
open Go Go.Lib
def resultsA (P:Program) (G:Nat→Option (List AV)) (H:AHeap) (a:List AV):List ResultVar→Option (List AV)
 | []=>some []
 | .tmp t::rs=>(resultsA P G H a rs).map (a.getD t .und::·)
 | .cell p t::rs=>match loadA P G H t (a.getD p .und)with
  | some v=>(resultsA P G H a rs).map (v::·)
  | none=>none
def oneOrTup:List AV→AV
 | [v]=>v
 | vs => .tup vs
def bodyA (P:Program) (G:Nat→Option (List AV)) (rs:List ResultVar) (Q:ARes→AHeap→Prop):APost
 | .normal,a,H=>must (resultsA P G H a rs) fun vs=>Q (.ret (oneOrTup vs)) H
 | .ret,a,H=>must (resultsA P G H a rs) fun vs=>Q (.ret (oneOrTup vs)) H
 | .pan v,_,H=>Q (.pan v) H
 | .exit _,_,_=>False
theorem loadA_addr {P:Program} {G:Nat→Option (List AV)} {C:Ctx} {w:World} (R:Rel G C w) {t:TypeId} {p:AV} {p':Value} {x:AV} (hp:VR C p p') (h:loadA P G C.H t p=some x) :
  ∃a,p' = .pointer (some a)∧∃y,(loadVar t a).run P w = .ok y w∧VR C x y:=by
 obtain⟨y,h1,h2⟩:=loadA_ok (P:=P) R hp h
 have:∃a,p' = .pointer (some a):=by
  unfold loadA at h
  split at h
  ·cases hp;exact⟨_,rfl⟩
  ·cases hp;exact⟨_,rfl⟩
  ·cases hp;exact⟨_,rfl⟩
  ·cases h
 obtain⟨a,rfl⟩:=this
 exact⟨a,rfl,y,by simpa[Instr.loadAt,Instr.sureAddr]using h1,h2⟩
theorem resultsA_ok {P:Program} {G:Nat→Option (List AV)} {C:Ctx} {w:World} (R:Rel G C w) {a:List AV} {ac:Act} (ha:ActRel C a ac) :
  ∀{rs:List ResultVar} {vs:List AV},resultsA P G C.H a rs=some vs →
   ∃ys:List Value,(rs.mapM (fun | .tmp t=>pure (ac.tmps.getD t undef) | .cell a t=>do loadVar t (←asAddr (ac.tmps.getD a undef)):ResultVar→Sem Value)).run P w = .ok ys w∧VRs C vs ys
 | [],vs,h=>by cases h;exact⟨[],by simp,VRs.nil C⟩
 | .tmp t::rs,vs,h=>by
  simp only[resultsA,Option.map_eq_some_iff]at h
  obtain⟨vs',hvs,rfl⟩:=h
  obtain⟨ys,h1,h2⟩:=resultsA_ok R ha hvs
  have hv:=VRs.getD ha t
  rw[show ac.tmps.toList.getD t undef=ac.tmps.getD t undef by simp[Array.getD_eq_getD_getElem?]]at hv
  exact⟨ac.tmps.getD t undef::ys,by simp only[List.mapM_cons,Sem.run_bind,Sem.run_pure,Result.andThen_ok,h1],VRs.cons hv h2⟩
 | .cell p t::rs,vs,h=>by
  simp only[resultsA]at h
  split at h
  case h_2=>cases h
  rename_i v hv
  simp only[Option.map_eq_some_iff]at h
  obtain⟨vs',hvs,rfl⟩:=h
  obtain⟨ys,h1,h2⟩:=resultsA_ok R ha hvs
  have hp:=VRs.getD ha p
  rw[show ac.tmps.toList.getD p undef=ac.tmps.getD p undef by simp[Array.getD_eq_getD_getElem?]]at hp
  obtain⟨a,hpa,y,h3,h4⟩:=loadA_addr (P:=P) R hp hv
  refine⟨y::ys,?_,VRs.cons h4 h2⟩
  have haddr:(asAddr (ac.tmps.getD p undef)).run P w = .ok a w:=by rw[hpa];rfl
  simp only[List.mapM_cons,Sem.run_bind,haddr,Sem.run_pure,Result.andThen_ok,h3,h1]
theorem VRs.one {C:Ctx} {vs:List AV} {ys:List Value} (h:VRs C vs ys):VR C (oneOrTup vs) (if hh:ys.toArray.size=1 then ys.toArray[0]else .tuple ys.toArray):=by
 match vs,ys,h with
 | [v],[y],h=>simp[oneOrTup];exact h.2 0 v y rfl rfl
 | [],[],h=>exact .tup [] _ rfl (fun i x y hx=>by simp at hx)
 | v1::v2::vs,y1::y2::ys,h=>simp[oneOrTup];exact .tup _ _ (by simpa using h.1) (fun i x y hx hy=>h.2 i x y hx (by simpa using hy))
 | [],_::_,h=>have:=h.1;simp at this
 | _::_,[],h=>have:=h.1;simp at this
 | [_],_::_::_,h=>have:=h.1;simp at this
 | _::_::_,[_],h=>have:=h.1;simp at this
theorem resultsA_run {P:Program} {G:Nat→Option (List AV)} {C:Ctx} {w:World} (R:Rel G C w) {a:List AV} {ac:Act} (ha:ActRel C a ac) {fn:Func} {vs:List AV} (h:resultsA P G C.H a fn.results.toList=some vs) :
  ∃y,(results fn ac.tmps).run P w = .ok y w∧VR C (oneOrTup vs) y:=by
 obtain⟨ys,h1,h2⟩:=resultsA_ok R ha h
 refine⟨_,?_,h2.one⟩
 have hm:(fn.results.mapM (fun | .tmp t=>pure (ac.tmps.getD t undef) | .cell a t=>do loadVar t (←asAddr (ac.tmps.getD a undef)):ResultVar→Sem Value)).run P w = .ok ys.toArray w:=by
  rw[Array.mapM_eq_mapM_toList,Sem.run_map,h1]
  rfl
 simp only[results,Sem.run_bind]
 erw[hm]
 rfl
theorem leaves_marked {P:Program} {G:Nat→Option (List AV)} {fn:Func} {tmps:Array Value} {R:Ending→World→Prop} {D:List Deferred} {C C1:Ctx} {w0:World} {u:FrameMode} (hu:u ≠ .run) :
  ∀(ms:List Nat) (w:World),Rel G C1 w→Adv C w0 C1 w→ms.Nodup→(∀r,r∈ms→w0.heap.size≤r∧w.heap[r]?=some (.deferred (some []))∧¬C1.owns r) →
   (∀w',Rel G C1 w'→Adv C w0 C1 w'→LeavesInM (WF none) 0 P fn tmps R D u w')→LeavesInM (WF none) 0 P fn tmps R (ms.map markOf++D) u w
 | [],w,R1,A1,_,_,h=>h w R1 A1
 | r::ms,w,R1,A1,hd,hm,h=>by
  obtain⟨h1,h2,h3⟩:=hm r List.mem_cons_self
  have hne:∀r',r'∈ms→r'≠r:=fun r' hr' e=>(List.nodup_cons.1 hd).1 (e▸hr')
  refine⟨hu,.inl ⟨r,w.putObj r (.deferred none),rfl,run_takeDeferred h2,?_⟩⟩
  refine leaves_marked hu ms _ (R1.elsewhere h2 h3 (fun _ _ _ h=>by cases h) fun b hb=>World.putObj_heap_other hb) ?_ (List.nodup_cons.1 hd).2 (fun r' hr'=>?_) h
  ·exact { A1 with frame:=fun c hc hn=>(World.putObj_heap_other (by omega)).trans (A1.frame c hc hn),size:=by rw[World.putObj_size];exact A1.size }
  ·obtain⟨g1,g2,g3⟩:=hm r' (List.mem_cons_of_mem _ hr')
   exact⟨g1,(World.putObj_heap_other (hne r' hr')).trans g2,g3⟩
theorem ACalls.of_awp {P:Program} {G:Nat→Option (List AV)} {f:FuncId} {fn:Func} {c:Code} (hf:P.funcs[f]?=some fn) (hb:fn.body=some c) {args:List AV} {H:AHeap} {Q:ARes→AHeap→Prop} (rs:List ResultVar) (n:Nat)
  (hrs:fn.results.toList=rs) (hn:fn.ntmps=n)
  (h:ATr P G true c (bodyA P G rs Q) (args++List.replicate (n-args.length) .und) H):ACalls P G f args H Q:=by
 intro C w args' R hH hv
 subst hrs;subst hn
 refine callsIn_WF.1 (callsIn_of_wp_marks (F:=WF none) (n:=0) hf hb trivial (wpIn_mono (h none (fun _=>rfl) C w _ R hH ?_ [] rfl) ?_))
 ·have hl:args.length=args'.size:=by simpa using hv.1
  unfold ActRel
  simp only[Array.toList_append,Array.toList_replicate,←hl]
  exact hv.append (VRs.replicate _ (.und undef))
 ·rintro e ac w' ⟨e',a',C',q,he,ha',⟨ms,hd,_,hnd,hms⟩,R',A'⟩
  have ret:must (resultsA P G C'.H a' fn.results.toList) (fun vs=>Q (.ret (oneOrTup vs)) C'.H) →
    LeavesInM (WF none) 0 P fn ac.tmps (fun e w'=>∃r C',Q r C'.H∧ResRel C' r e∧Rel G C' w'∧Adv C w C' w') ac.defers .returning w':=by
   rintro⟨vs,hvs,hq⟩
   rw[hd]
   refine leaves_marked (by simp) ms w' R' A' hnd hms fun w2 R2 A2=>?_
   obtain⟨y,hy1,hy2⟩:=resultsA_run R2 ha' hvs
   exact⟨y,hy1,_,C',hq,hy2,R2,A2⟩
  cases e' with
  | normal=>cases e<;>first | exact he.elim | exact ret q
  | ret=>cases e<;>first | exact he.elim | exact ret q
  | exit i=>exact q.elim
  | pan v=>
   cases e<;>first | exact he.elim | skip
   show LeavesInM (WF none) 0 P fn ac.tmps _ ac.defers _ w'
   rw[hd]
   exact leaves_marked (by simp) ms w' R' A' hnd hms fun w2 R2 A2=>⟨_,C',q,he,R2,A2⟩
theorem ACalls.trim {P:Program} {G:Nat→Option (List AV)} {f:FuncId} {args:List AV} {H:AHeap} {Q:ARes→AHeap→Prop}
  (h:ACalls P G f args H fun r H'=>∃H0:AHeap,H.next≤H'.next∧(∀k,H.next≤k→H.get k=none→H0.get k=none)∧(∀k,k<H.next→H0.get k=none∨H'.get k=H0.get k) ∧
   ∀H'':AHeap,H''.get=H0.get→H.next≤H''.next→Q r H''):ACalls P G f args H Q:=by
 intro C w args' R hH hv
 refine(h C w args' R hH hv).mono ?_
 rintro e w' ⟨r,C',⟨H0,hn,h1,h2,h3⟩,hr,R',A'⟩
 have hs:∀k,(H0.bump C'.H.next).get k=none∨(H0.bump C'.H.next).get k=C'.H.get k:=by
  intro k
  by_cases hk:k<H.next
  ·rcases h2 k hk with h | h
   ·exact .inl h
   ·exact .inr h.symm
  ·refine .inl (h1 k (by omega) ?_)
   cases hg:H.get k with
   | none=>rfl
   | some o=>subst hH;have:=(R.pres k o hg).1;omega
 obtain⟨R2,A2⟩:=R'.drop (H0.bump C'.H.next) (Nat.le_refl _) (fun _ _ _=>rfl) hs
 refine⟨r,_,h3 (H0.bump C'.H.next) rfl hn,?_,R2,A'.trans A2⟩
 cases r with
 | ret v=>cases e<;>first | exact hr.elim | exact VR.mono A2 hr
 | pan v=>cases e<;>first | exact hr.elim | (obtain⟨y,e1,e2⟩:=hr;exact⟨y,e1,e2.mono A2⟩)
def Keeps (H H':AHeap):Prop:=H.next≤H'.next∧H'.get=H.get
def PureCall (P:Program) (G:Nat→Option (List AV)) (f:FuncId) (args:List AV) (v:AV):Prop:=∀H,ACalls P G f args H fun r H'=>r = .ret v∧Keeps H H'
theorem ACalls.keep {P:Program} {G:Nat→Option (List AV)} {f:FuncId} {args:List AV} {H:AHeap} {v:AV}
  (h:ACalls P G f args H fun r H'=>r = .ret v∧H.next≤H'.next∧∀k,k<H.next→H'.get k=H.get k):ACalls P G f args H fun r H'=>r = .ret v∧Keeps H H':=
 ACalls.trim (h.mono fun r H' ⟨hr,hn,hg⟩=>⟨H,hn,fun _ _ h=>h,fun k hk => .inr (hg k hk),fun H'' hg2 hn2=>⟨hr,hn2,hg2⟩⟩)
end Go.Ab
namespace Go.Ab
open Go Go.Lib
structure MOp where
 g:Option (Tmp × Bool)
 d:Option Tmp
 op:Op
inductive SC where
 | skip
 | ops (l:List MOp)
 | seq (a b:SC)
 | cond (c:Operand) (x y:SC)
 | block (id:Nat) (b:SC)
 | loop (b:SC)
 | exit (id:Nat)
 | ret
 | draw (id:Nat) (ops:Array Oper)
 | rangeF (g:Operand) (ps:List Tmp) (x y:SC)
 | scope (b:SC)
 | other
def prepOp (ops:Array Oper) (o:Oper):MOp:=
 match o.guard with
 | none=>⟨none,o.dst,o.op⟩
 | some (j,want)=>match (ops[j]?).bind (·.dst)with
  | some d=>⟨some (d,want),o.dst,o.op⟩
  | none=>⟨none,o.dst,.panic (.const (.bool false))⟩
def prep:Code→SC
 | .skip => .skip
 | .label _ => .skip
 | .seq x y => .seq (prep x) (prep y)
 | .cond c x y => .cond c (prep x) (prep y)
 | .block id b => .block id (prep b)
 | .loop b => .loop (prep b)
 | .exit id => .exit id
 | .ret => .ret
 | .region _ ops false => .ops (ops.toList.map (prepOp ops))
 | .region id ops true => .draw id ops
 | .rangeFunc g ps x y => .rangeF g ps.toList (prep x) (prep y)
 | .scope c => .scope (prep c)
 | _ => .other
def opsS (P:Program) (G:Nat→Option (List AV)) (Q:APost):List MOp→List AV→AHeap→Prop
 | [],a,H=>Q .normal a H
 | o::rest,a,H=>match o.g with
  | none=>opS P G o.op o.d a H (opsS P G Q rest) Q
  | some (d,want)=>match a.getD d .und with
   | .bool b=>(b=want→opS P G o.op o.d (a.set d (.bool want)) H (opsS P G Q rest) Q)∧(b = !want→opsS P G Q rest (putA (a.set d (.bool (!want))) o.d (.tup [])) H)
   | .tup []=>opsS P G Q rest (putA a o.d (.tup [])) H
   | _=>False
def noRange:SC→Bool
 | .seq a b=>noRange a&&noRange b
 | .cond _ x y=>noRange x&&noRange y
 | .block _ b=>noRange b
 | .loop b=>noRange b
 | .scope b=>noRange b
 | .rangeF ..=>false
 | _=>true
def ATrS (P:Program) (G:Nat→Option (List AV)) (s:SC) (Q:APost) (a:List AV) (H:AHeap):Prop:=∀mk,(mk=false→noRange s=true)→∀c,prep c=s→ATr P G mk c Q a H
def awpS (P:Program) (G:Nat→Option (List AV)):SC→APost→List AV→AHeap→Prop
 | .skip,Q,a,H=>Q .normal a H
 | .seq x y,Q,a,H=>awpS P G x (thenA (awpS P G y Q) Q) a H
 | .cond c x y,Q,a,H=>match ev a c with
  | .bool b=>(b=true→awpS P G x Q (setC a c true) H)∧(b=false→awpS P G y Q (setC a c false) H)
  | _=>False
 | .block id b,Q,a,H=>awpS P G b (blockA id Q) a H
 | .scope b,Q,a,H=>awpS P G b Q a H
 | .exit id,Q,a,H=>Q (.exit id) a H
 | .ret,Q,a,H=>Q .ret a H
 | .ops l,Q,a,H=>opsS P G Q l a H
 | s,Q,a,H=>ATrS P G s Q a H
theorem opsS_awpOps {P:Program} {G:Nat→Option (List AV)} {ops:Array Oper} {Q:APost} :
  ∀(n i:Nat) (a:List AV) (H:AHeap),i+n=ops.size→opsS P G Q ((ops.toList.drop i).map (prepOp ops)) a H→awpOps P G ops Q (List.range' i n) a H
 | 0,i,a,H,hi,h=>by
  rw[List.drop_of_length_le (by simp;omega)]at h
  exact h
 | n+1,i,a,H,hi,h=>by
  have hlt:i<ops.size:=by omega
  rw[List.drop_eq_getElem_cons (by simpa using hlt)]at h
  simp only[List.map_cons,Array.getElem_toList]at h
  simp only[List.range'_succ,awpOps,Array.getElem?_eq_getElem hlt]
  have ih:=fun a H=>opsS_awpOps (P:=P) (G:=G) (ops:=ops) (Q:=Q) n (i+1) a H (by omega)
  generalize ops[i]=o at h
  unfold guardA
  unfold prepOp at h
  cases hg:o.guard with
  | none=>
   simp only[hg,opsS]at h
   exact opS_mono ih h
  | some p=>
   obtain⟨j,want⟩:=p
   simp only[hg]at h
   cases hd:(ops[j]?).bind (·.dst)with
   | none=>simp only[hd,opsS,opS,ev,ofConst,ofFlat]at h
   | some d=>
    simp only[hd,opsS]at h
    simp only[hd]
    split at h
    ·rename_i b hb
     try simp only[hb]
     exact⟨fun e=>opS_mono ih (h.1 e),fun e=>ih _ _ (h.2 e)⟩
    ·rename_i hb
     try simp only[hb]
     exact ih _ _ h
    ·exact h.elim
theorem prep_inv {c:Code} {s:SC} (h:prep c=s):(match s with
  | .skip=>c = .skip∨∃l,c = .label l
  | .seq x y=>∃cx cy,c = .seq cx cy∧prep cx=x∧prep cy=y
  | .cond o x y=>∃cx cy,c = .cond o cx cy∧prep cx=x∧prep cy=y
  | .block id b=>∃cb,c = .block id cb∧prep cb=b
  | .loop b=>∃cb,c = .loop cb∧prep cb=b
  | .exit id=>c = .exit id
  | .ret=>c = .ret
  | .ops l=>∃id ops,c = .region id ops false∧ops.toList.map (prepOp ops)=l
  | .draw id ops=>c = .region id ops true
  | .rangeF g ps x y=>∃ps' cx cy,c = .rangeFunc g ps' cx cy∧ps'.toList=ps∧prep cx=x∧prep cy=y
  | .scope b=>∃cb,c = .scope cb∧prep cb=b
  | .other=>True):=by
 subst h
 cases c with
 | region id ops draw=>
  cases draw
  ·exact⟨id,ops,rfl,rfl⟩
  ·exact rfl
 | skip=>exact .inl rfl
 | label l=>exact .inr ⟨l,rfl⟩
 | seq x y=>exact⟨x,y,rfl,rfl,rfl⟩
 | cond o x y=>exact⟨x,y,rfl,rfl,rfl⟩
 | block id b=>exact⟨b,rfl,rfl⟩
 | loop b=>exact⟨b,rfl,rfl⟩
 | exit id=>exact rfl
 | ret=>exact rfl
 | rangeFunc g ps x y=>exact⟨ps,x,y,rfl,rfl,rfl,rfl⟩
 | scope b=>exact⟨b,rfl,rfl⟩
 | _=>exact trivial
theorem stepR_scope {P:Program} {b:Frame} {a:Act} {k:List Item} {cs:List Frame} {w:World} {c:Code}:step P (lone (b.atR a (.code (.scope c)::k)) cs w) = .next (lone (b.atR a (.code c :: .inScope c::k)) cs w):=
 step_lone_go (by simp[stepG,stepG.exec,Frame.atR])
theorem stepR_inScope {P:Program} {b:Frame} {a:Act} {k:List Item} {cs:List Frame} {w:World} {c:Code}:step P (lone (b.atR a (.inScope c::k)) cs w) = .next (lone (b.atR a k) cs w):=
 step_lone_go (by simp[stepG,stepG.exec,Frame.atR])
theorem wpIn_scope {F:Fence} {n:Nat} {P:Program} {Q:Exit→Act→World→Prop} {a:Act} {w:World} {c:Code} (h:c.wpIn F n P (fun e a w=>Q e a w∧∀l,e ≠ .goto l) a w):(Code.scope c).wpIn F n P Q a w:=by
 intro b k cs hro hb hr
 have h0:(lone (b.atR a (.code (.scope c)::k)) cs w).fenced P F:=fenced_calm hb hr rfl
 obtain⟨e,a₁,w₁,⟨hq,hg⟩,harr⟩:=h b (.inScope c::k) cs hro hb hr
 cases e with
 | normal=>exact⟨.normal,a₁,w₁,hq,.head h0 stepR_scope (StepsIn.trans harr (.one (fenced_calm hb hr rfl) stepR_inScope))⟩
 | exit id'=>
  have hx:exitTo id' (.inScope c::k)=exitTo id' k:=by simp[exitTo]
  exact⟨.exit id',a₁,w₁,hq,fun k' hk => .head h0 stepR_scope (harr.1 k' (by rw[hx];exact hk)),
   fun hr' hk=>let ⟨k₁,h1,h2⟩:=harr.2 hr' (by rw[hx];exact hk);⟨k₁,h1,.head h0 stepR_scope h2⟩⟩
 | goto l=>exact absurd rfl (hg l)
 | ret=>exact⟨_,a₁,w₁,hq,.of_steps (.one h0 stepR_scope) harr⟩
 | panic ch=>exact⟨_,a₁,w₁,hq,.of_steps (.one h0 stepR_scope) harr⟩
 | outgrown=>exact⟨_,a₁,w₁,hq,.of_steps (.one h0 stepR_scope) harr⟩
theorem awpS_ok {P:Program} {G:Nat→Option (List AV)}:∀(s:SC) (Q:APost) (a:List AV) (H:AHeap),awpS P G s Q a H→ATrS P G s Q a H
 | .skip,Q,a,H,h=>fun mk hnr c hc=>fun rd hrd C w ac R hH ha D hd=>by
  rcases prep_inv hc with rfl | ⟨l,rfl⟩
  ·exact wpIn_skip ⟨.normal,a,C,hH▸h,trivial,ha,Marked.of_eq hd,R,Adv.refl C w⟩
  ·exact wpIn_label ⟨.normal,a,C,hH▸h,trivial,ha,Marked.of_eq hd,R,Adv.refl C w⟩
 | .seq x y,Q,a,H,h=>fun mk hnr c hc=>by
  obtain⟨cx,cy,rfl,hx,hy⟩:=prep_inv hc
  intro rd hrd C w ac R hH ha D hd
  have n1:mk=false→noRange x=true:=fun e=>by have:=hnr e;simp only[noRange,Bool.and_eq_true]at this;exact this.1
  have n2:mk=false→noRange y=true:=fun e=>by have:=hnr e;simp only[noRange,Bool.and_eq_true]at this;exact this.2
  refine wpIn_seq (wpIn_mono (awpS_ok x _ a H h mk n1 cx hx rd hrd C w ac R hH ha D hd) ?_)
  rintro e ac1 w1 ⟨e',a',C',q,he,ha',hd',R',A'⟩
  cases e' with
  | normal=>
   cases e<;>first | exact he.elim | skip
   refine wpIn_mono (awpS_ok y Q a' C'.H q mk n2 cy hy rd hrd C' w1 ac1 R' rfl ha' _ rfl) ?_
   rintro e2 ac2 w2 ⟨e2',a2,C2,q2,he2,ha2,hd2,R2,A2⟩
   exact⟨e2',a2,C2,q2,he2,ha2,hd'.trans A' A2 hd2,R2,A'.trans A2⟩
  | exit i=>cases e<;>first | exact he.elim | exact⟨.exit i,a',C',q,he,ha',hd',R',A'⟩
  | ret=>cases e<;>first | exact he.elim | exact⟨.ret,a',C',q,he,ha',hd',R',A'⟩
  | pan v=>cases e<;>first | exact he.elim | exact⟨.pan v,a',C',q,he,ha',hd',R',A'⟩
 | .cond cc x y,Q,a,H,h=>fun mk hnr c hc=>by
  obtain⟨cx,cy,rfl,hx,hy⟩:=prep_inv hc
  simp only[awpS]at h
  intro rd hrd C w ac R hH ha D hd
  split at h
  case h_2=>exact h.elim
  rename_i b hb
  have hcv0:=ev_ok ha cc
  rw[hb]at hcv0
  have hcv:ac.eval cc = .bool b:=by
   generalize ac.eval cc=cv at hcv0
   cases hcv0;rfl
  have hset:setC a cc b=a:=by
   unfold setC
   split
   ·rename_i t;exact set_same ha hb
   ·rfl
  have n1:mk=false→noRange x=true:=fun e=>by have:=hnr e;simp only[noRange,Bool.and_eq_true]at this;exact this.1
  have n2:mk=false→noRange y=true:=fun e=>by have:=hnr e;simp only[noRange,Bool.and_eq_true]at this;exact this.2
  refine wpIn_cond hcv ?_
  cases b with
  | true=>
   have:=h.1 rfl
   rw[hset]at this
   exact awpS_ok x Q a H this mk n1 cx hx rd hrd C w ac R hH ha D hd
  | false=>
   have:=h.2 rfl
   rw[hset]at this
   exact awpS_ok y Q a H this mk n2 cy hy rd hrd C w ac R hH ha D hd
 | .block id b,Q,a,H,h=>fun mk hnr c hc=>by
  obtain⟨cb,rfl,hb⟩:=prep_inv hc
  intro rd hrd C w ac R hH ha D hd
  refine wpIn_block (wpIn_mono (awpS_ok b _ a H h mk hnr cb hb rd hrd C w ac R hH ha D hd) ?_)
  rintro e ac1 w1 ⟨e',a',C',q,he,ha',hd',R',A'⟩
  cases e' with
  | normal=>cases e<;>first | exact he.elim | exact⟨.normal,a',C',q,he,ha',hd',R',A'⟩
  | exit i=>
   cases e with
   | exit j=>
    cases (he:i=j)
    simp only[blockA]at q
    simp only[Exit.inBlock]
    split at q
    ·rename_i hi;subst hi;simp only[if_true];exact⟨.normal,a',C',q,trivial,ha',hd',R',A'⟩
    ·rename_i hi;simp only[hi,if_false];exact⟨.exit i,a',C',q,rfl,ha',hd',R',A'⟩
   | _=>exact he.elim
  | ret=>cases e<;>first | exact he.elim | exact⟨.ret,a',C',q,he,ha',hd',R',A'⟩
  | pan v=>cases e<;>first | exact he.elim | exact⟨.pan v,a',C',q,he,ha',hd',R',A'⟩
 | .scope b,Q,a,H,h=>fun mk hnr c hc=>by
  obtain⟨cb,rfl,hb⟩:=prep_inv hc
  intro rd hrd C w ac R hH ha D hd
  refine wpIn_scope (wpIn_mono (awpS_ok b _ a H h mk hnr cb hb rd hrd C w ac R hH ha D hd) ?_)
  rintro e ac1 w1 ⟨e',a',C',q,he,rest⟩
  refine⟨⟨e',a',C',q,he,rest⟩,?_⟩
  rintro l rfl
  cases e'<;>exact he.elim
 | .exit id,Q,a,H,h=>fun mk hnr c hc=>by
  have hcc:c = .exit id:=prep_inv hc
  rw[hcc]
  exact fun rd hrd C w ac R hH ha D hd=>wpIn_exit ⟨.exit id,a,C,hH▸h,rfl,ha,Marked.of_eq hd,R,Adv.refl C w⟩
 | .ret,Q,a,H,h=>fun mk hnr c hc=>by
  have hcc:c = .ret:=prep_inv hc
  rw[hcc]
  exact fun rd hrd C w ac R hH ha D hd=>wpIn_ret ⟨.ret,a,C,hH▸h,trivial,ha,Marked.of_eq hd,R,Adv.refl C w⟩
 | .ops l,Q,a,H,h=>fun mk hnr c hc=>by
  obtain⟨id,ops,rfl,rfl⟩:=prep_inv hc
  intro rd hrd C w ac R hH ha D hd
  refine wpIn_region (awpOps_ok _ a H C w ac (Adv.refl C w) R hH ha hd ?_)
  rw[List.range_eq_range']
  exact opsS_awpOps ops.size 0 a H (by omega) (by simpa[awpS]using h)
 | .loop _,Q,a,H,h=>h
 | .draw _ _,Q,a,H,h=>h
 | .rangeF ..,Q,a,H,h=>h
 | .other,Q,a,H,h=>h
theorem ATrS.loop {P:Program} {G:Nat→Option (List AV)} {b:SC} {Q:APost} {a:List AV} {H:AHeap} (I:Nat→List AV→AHeap→Prop)
  (h0:∃n a' H',Weak G a H a' H'∧I n a' H')
  (round:∀n a H,I n a H→awpS P G b (thenA (fun a' H'=>∃n' a2 H2,n'<n∧Weak G a' H' a2 H2∧I n' a2 H2) Q) a H):ATrS P G (.loop b) Q a H:=by
 intro mk hnr c hc
 obtain⟨cb,rfl,hb⟩:=prep_inv hc
 exact ATr.loop I h0 fun n a H hI=>awpS_ok b _ a H (round n a H hI) mk hnr cb hb
theorem ATrS.mono {P:Program} {G:Nat→Option (List AV)} {s:SC} {Q Q':APost} {a:List AV} {H:AHeap} (h:ATrS P G s Q a H) (hq:∀e a H,Q e a H→Q' e a H):ATrS P G s Q' a H:=
 fun mk hnr c hc=>(h mk hnr c hc).mono hq
theorem ATrS.weak {P:Program} {G:Nat→Option (List AV)} {s:SC} {Q:APost} {a a':List AV} {H H':AHeap} (hw:Weak G a H a' H') (h:ATrS P G s Q a' H'):ATrS P G s Q a H:=
 fun mk hnr c hc=>(h mk hnr c hc).weak hw
theorem ACalls.of {P:Program} {G:Nat→Option (List AV)} {f:FuncId} {fn:Func} {s:SC} (hf:P.funcs[f]?=some fn) (hb:fn.body.map prep=some s) {args:List AV} {H:AHeap} {Q:ARes→AHeap→Prop} (rs:List ResultVar) (n:Nat)
  (hrs:fn.results.toList=rs) (hn:fn.ntmps=n)
  (h:awpS P G s (bodyA P G rs Q) (args++List.replicate (n-args.length) .und) H):ACalls P G f args H Q:=by
 simp only[Option.map_eq_some_iff]at hb
 obtain⟨c,hc,hp⟩:=hb
 exact ACalls.of_awp hf hc rs n hrs hn (awpS_ok s _ _ _ h true (by simp) c hp)
theorem ARound.of {P:Program} {G:Nat→Option (List AV)} {k:Nat} {b:List AV} {ps:List Tmp} {x y:Code} {sx sy:SC} (hx:prep x=sx) (hy:prep y=sy) (nx:noRange sx=true) (ny:noRange sy=true) {args:List AV} {H:AHeap} {K:AV→AHeap→Prop}
  (hl:args.length=ps.length)
  (h:awpS P G sx (thenA (fun a H=>H.get k=some (.loop .ready none b ps x y)∧awpS P G sy (roundA k b ps x y K) a (H.set k (.loop .busy none b ps x y))) fun _ _ _=>False) (putsA b ps args) H):ARound P G k b ps x y args H K:=by
 refine⟨hl,?_⟩
 refine(awpS_ok sx _ _ _ h false (fun _=>nx) x hx).mono ?_
 intro e a H he
 cases e with
 | normal=>exact⟨he.1,awpS_ok sy _ _ _ he.2 false (fun _=>ny) y hy⟩
 | _=>exact he
def rangedA (k:Nat) (b:List AV) (ps:List Tmp) (x y:Code) (a:List AV) (Q:APost):ARes→AHeap→Prop
 | .ret _,H=>(H.get k=some (.loop .ready none b ps x y)∧Q .normal a (H.del k))∨(H.get k=some (.loop .done (some .ret) b ps x y)∧Q .ret a (H.del k))∨(∃i,H.get k=some (.loop .done (some (.exit i)) b ps x y)∧Q (.exit i) a (H.del k))
 | .pan v,H=>Q (.pan v) a H
theorem heap_alloc_old (w:World) (o:Obj) {c:Nat} (h:c<w.heap.size):(w.alloc o).heap[c]?=w.heap[c]?:=by
 show(w.heap.push o)[c]?=_
 rw[Array.getElem?_push]
 simp only[Nat.ne_of_lt h,if_false]
theorem ATrS.range {P:Program} {G:Nat→Option (List AV)} {g:Operand} {ps:List Tmp} {sx sy:SC} {Q:APost} {a:List AV} {H:AHeap} {f:FuncId} {caps:List AV} (hg:ev a g = .func f caps) (hb:bodyT P f=true)
  (hin:∀(x y:Code),prep x=sx→prep y=sy→ACalls P G f (.yld H.next::caps) (H.alloc (.loop .ready none a ps x y)) (rangedA H.next a ps x y a Q)) :
  ATrS P G (.rangeF g ps sx sy) Q a H:=by
 intro mk hnr c hc rd hrd C w ac R hH ha D hd
 have hmk:mk=true:=by cases mk with | true=>rfl | false=>have:=hnr rfl;simp[noRange]at this
 subst hmk
 have:=hrd rfl
 subst this
 obtain⟨ps',x,y,rfl,hps,hx,hy⟩:=prep_inv hc
 subst hH
 have hgv:=ev_ok ha g
 rw[hg]at hgv
 generalize hge:ac.eval g=gv at hgv
 cases hgv with
 | func _ _ vs hl hcv=>
 refine wpIn_rangeFunc fun fn _=>?_
 have hn:C.H.free C.H.next := .inl (Nat.le_refl _)
 obtain⟨w1,hw1⟩:∃w1,(w.alloc (.deferred (some []))).alloc (.loop { state := .ready,pending:=none,fn,tmps:=ac.tmps,params:=ps',assign:=x,body:=y,defers:=w.heap.size })=w1:=⟨_,rfl⟩
 have hsz:w1.heap.size=w.heap.size+2:=by rw[←hw1];simp[World.size_alloc]
 have hL1:w1.heap[w.heap.size+1]?=some (.loop { state := .ready,pending:=none,fn,tmps:=ac.tmps,params:=ps',assign:=x,body:=y,defers:=w.heap.size }):=by
  rw[←hw1];have:=World.alloc_heap_new (w.alloc (.deferred (some []))) (.loop { state := .ready,pending:=none,fn,tmps:=ac.tmps,params:=ps',assign:=x,body:=y,defers:=w.heap.size });rwa[World.size_alloc]at this
 have hK1:w1.heap[w.heap.size]?=some (.deferred (some [])):=by
  rw[←hw1];exact(heap_alloc_old _ _ (by simp[World.size_alloc])).trans (World.alloc_heap_new w _)
 have hold:∀c,c<w.heap.size→w1.heap[c]?=w.heap[c]?:=by
  intro c hc
  rw[←hw1];exact(heap_alloc_old _ _ (by simp[World.size_alloc];omega)).trans (heap_alloc_old _ _ hc)
 obtain⟨R1,A1⟩:=R.add (w':=w1) C.H.next hn (.loop .ready none a ps x y) (some (w.heap.size+1,0)) hold (by omega) (by rw[←hw1];rfl) (by rw[←hw1];rfl) (by rw[←hw1];rfl) (by rintro c cap ⟨⟩;omega)
  (fun A=>⟨w.heap.size+1,0,_,upd_same _ _ _,hL1,rfl,rfl,VRs.mono A ha,hps,rfl,rfl⟩)
 have hH1:(C.add C.H.next (.loop .ready none a ps x y) (some (w.heap.size+1,0))).H=C.H.alloc (.loop .ready none a ps x y):=AHeap.allocAt_next _ _
 have hyl:YldOk (C.add C.H.next (.loop .ready none a ps x y) (some (w.heap.size+1,0))) C.H.next (w.heap.size+1):=by
  refine⟨by rw[hH1];simp,rfl,?_⟩
  simp only[hH1,AHeap.get_alloc_same]
  exact⟨0,upd_same _ _ _⟩
 have hno:¬(C.add C.H.next (.loop .ready none a ps x y) (some (w.heap.size+1,0))).owns w.heap.size:=by
  rintro⟨k,o,cap,hk,hm⟩
  by_cases e:k=C.H.next
  ·subst e;simp[Ctx.add]at hm
  ·simp only[Ctx.add,upd_ne _ _ e,AHeap.get_allocAt_ne _ _ e]at hk hm
   have:=R.owned_lt ⟨k,o,cap,hk,hm⟩
   omega
 have hcall:=hin x y hx hy _ w1 (#[.func (.yield (w.heap.size+1)) #[] #[]]++vs) R1 hH1 (by
  rw[Array.toList_append]
  exact VRs.append (xs:=[.yld C.H.next]) (VRs.cons (.yld _ _ hyl) (VRs.nil _)) (VRs.mono A1 ⟨by simpa using hl,fun i x y hx hy=>hcv i x y hx (by simpa using hy)⟩))
 have hbT:=hb
 unfold bodyT at hbT
 split at hbT
 case h_2=>cases hbT
 rename_i fn' hfn
 simp only[Bool.and_eq_true,Bool.not_eq_true']at hbT
 have hbn:fn'.body.isNone=false:=by
  cases hbo:fn'.body with
  | none=>rw[hbo]at hbT;simp at hbT
  | some c=>rfl
 have hrun:∀as w,(callFunc f as).run P w = .ok (.enter f as) w:=by
  intro as w
  simp only[callFunc,Sem.run_bind,run_program,Result.andThen_ok,hfn,hbT.2,Bool.false_eq_true,if_false,hbn,Sem.run_pure]
 obtain⟨acM,hacM⟩:∃acM:Act,acM=⟨ac.tmps,markOf w.heap.size::ac.defers⟩:=⟨_,rfl⟩
 have s1:(Instr.enterLoop fn ac.tmps ps' x y (WF none).round).run P w = .ok (w.heap.size+1,[markOf w.heap.size]) w1:=by
  rw[←hw1];exact run_enterLoop_outer _ _ _ _ _
 have s2:(resolve ac.eval (rangeCall g (w.heap.size+1)) 0).run P w1 = .ok { target := .fn (.func f) vs,args:=#[.func (.yield (w.heap.size+1)) #[] #[]] } w1:=by
  simp only[resolve,hge]
  simp[Deferred.ofValue,Act.eval]
 have s3:(invoke (.fn (.func f) vs) #[.func (.yield (w.heap.size+1)) #[] #[]]).run P w1 = .ok (.enter f (#[.func (.yield (w.heap.size+1)) #[] #[]]++vs)) w1:=by
  simp only[invoke]
  exact hrun _ _
 suffices hmain:CallsIn (WF none) (0-1) P f (#[.func (.yield (w.heap.size+1)) #[] #[]]++vs) w1 (rangePost (WF none) 0 P (w.heap.size+1) (Behind true D G C w Q) ⟨ac.tmps,[markOf w.heap.size]++ac.defers⟩)from
  ⟨w.heap.size+1,[markOf w.heap.size],w1,_,w1,f,_,w1,s1,s2,fun _ _=>trivial,s3,fun hh=>by simp[Fence.wide]at hh,hmain⟩
 refine(callsIn_WF (rd:=none) (n:=0-1)).2 ?_
 refine hcall.mono ?_
 rintro e w3 ⟨r,C3,q,hr,R3,A3⟩
 have A13:=A1.trans A3
 have hk3:w3.heap[w.heap.size]?=some (.deferred (some [])):=(A3.frame _ (by omega) hno).trans hK1
 have hno3:¬C3.owns w.heap.size:=fun ho=>by
  rcases A3.own _ ho with h | h
  ·omega
  ·exact hno h
 have hmark:∀(C4:Ctx) (w4:World),Adv C3 w3 C4 w4→Marked true D w C4 w4 (markOf w.heap.size::D):=by
  intro C4 w4 A4
  refine⟨[w.heap.size],rfl,by simp,by simp,fun r hr=>?_⟩
  simp only[List.mem_singleton]at hr
  subst hr
  refine⟨Nat.le_refl _,(A4.frame _ (Array.getElem?_eq_some_iff.1 hk3).1 hno3).trans hk3,fun ho=>?_⟩
  rcases A4.own _ ho with h | h
  ·have:=(Array.getElem?_eq_some_iff.1 hk3).1;omega
  ·exact hno3 h
 have hdd:∀(C4:Ctx) (w4:World),Adv C3 w3 C4 w4→Marked true D w C4 w4 ({ ac with defers:=[markOf w.heap.size]++ac.defers }:Act).defers:=fun C4 w4 A4=>by
  show Marked true D w C4 w4 (markOf w.heap.size::ac.defers)
  rw[hd];exact hmark C4 w4 A4
 cases r with
 | pan v=>
  cases e with
  | returned y=>exact hr.elim
  | panicked chain=>exact⟨.pan v,a,C3,q,hr,ha.mono A13,hdd _ _ (Adv.refl _ _),R3,A13⟩
  | outgrown=>exact hr.elim
 | ret v=>
 cases e with
 | panicked chain=>exact hr.elim
 | outgrown=>exact hr.elim
 | returned rv=>
 have shut:∀(st:LoopState) (pe:Option Code),C3.H.get C.H.next=some (.loop st pe a ps x y)→st ≠ .busy →
   ∃C4 w4,(Instr.endLoop (w.heap.size+1)).run P w3 = .ok pe w4∧C4.H=C3.H.del C.H.next∧Rel G C4 w4∧Adv C3 w3 C4 w4:=by
  intro st pe hk hst
  obtain⟨r,f1,f2,f3,_,_,_,_,f8⟩:=turn_loop R3 (hyl.mono A3) hk
  obtain⟨R4,A4⟩:=f8 .exhausted pe
  have he:=run_endLoop (P:=P) f1 (by rw[f2];exact hst)
  have e2:({ r with state:=LoopState.exhausted }:Loop)={ r with state := .exhausted,pending:=pe }:=by rw[←f3]
  rw[e2,f3]at he
  obtain⟨R5,A5⟩:=R4.drop (C3.H.del C.H.next) (Nat.le_refl _) (fun _ _ _=>rfl) (fun j=>by
   by_cases e:j=C.H.next
   ·left;simp[AHeap.get_del,e]
   ·right;rw[AHeap.get_del_ne _ e,putH,AHeap.get_set_ne _ _ e])
  exact⟨_,_,he,rfl,R5,A4.trans A5⟩
 rcases q with ⟨hk,q⟩ | ⟨hk,q⟩ | ⟨i,hk,q⟩
 ·obtain⟨C4,w4,h1,h2,R4,A4⟩:=shut _ _ hk (by simp)
  exact⟨none,w4,h1,.normal,a,C4,h2▸q,trivial,ha.mono (A13.trans A4),hdd _ _ A4,R4,A13.trans A4⟩
 ·obtain⟨C4,w4,h1,h2,R4,A4⟩:=shut _ _ hk (by simp)
  exact⟨some .ret,w4,h1,wpIn_ret ⟨.ret,a,C4,h2▸q,trivial,ha.mono (A13.trans A4),hdd _ _ A4,R4,A13.trans A4⟩⟩
 ·obtain⟨C4,w4,h1,h2,R4,A4⟩:=shut _ _ hk (by simp)
  exact⟨some (.exit i),w4,h1,wpIn_exit ⟨.exit i,a,C4,h2▸q,rfl,ha.mono (A13.trans A4),hdd _ _ A4,R4,A13.trans A4⟩⟩
end Go.Ab
namespace Go.Ab
open Go Go.Lib
def Fg:List AV→List AV→Prop
 | [],[]=>True
 | x::xs,y::ys=>(y = .und∨y=x)∧Fg xs ys
 | _,_=>False
theorem Fg.vrs {C:Ctx}:∀{a a':List AV} {ys:List Value},Fg a a'→VRs C a ys→VRs C a' ys
 | [],[],_,_,h=>h
 | x::xs,y::ys,zs,hf,h=>by
  cases zs with
  | nil=>have:=h.1;simp at this
  | cons z zs=>
   have hrest:VRs C xs zs:=⟨by have:=h.1;simpa using this,fun j a b ha hb=>h.2 (j+1) a b (by simpa using ha) (by simpa using hb)⟩
   have hz:VR C y z:=by
    rcases hf.1 with rfl | rfl
    ·exact .und z
    ·exact h.2 0 _ z rfl rfl
   exact(Fg.vrs hf.2 hrest).cons hz
 | [],_::_,_,hf,_=>hf.elim
 | _::_,[],_,hf,_=>hf.elim
def HW (H H':AHeap):Prop:=H.next≤H'.next∧∀k,H'.get k=none∨H'.get k=H.get k
theorem HW.refl (H:AHeap):HW H H:=⟨Nat.le_refl _,fun _ => .inr rfl⟩
theorem Weak.of {G:Nat→Option (List AV)} {a a':List AV} {H H':AHeap} (hf:Fg a a') (hw:HW H H'):Weak G a H a' H':=by
 intro C w R hH
 subst hH
 obtain⟨R',A'⟩:=R.drop H' hw.1 (fun _ _ _=>rfl) hw.2
 exact⟨_,rfl,R',A',fun ys h=>hf.vrs (h.mono A')⟩
theorem ATrS.loopK {P:Program} {G:Nat→Option (List AV)} {b:SC} {Q:APost} {a:List AV} {H:AHeap} {κ:Type} (st:κ→List AV) (hp:κ→AHeap) (inv:κ→Prop) (meas:κ→Nat)
  (h0:∃x,inv x∧Fg a (st x)∧HW H (hp x))
  (round:∀x,inv x→awpS P G b (thenA (fun a' H'=>∃x',inv x'∧meas x'<meas x∧Fg a' (st x')∧HW H' (hp x')) Q) (st x) (hp x)):ATrS P G (.loop b) Q a H:=by
 refine ATrS.loop (fun n a H=>∃x,inv x∧n=meas x∧a=st x∧H=hp x) ?_ ?_
 ·obtain⟨x,h1,h2,h3⟩:=h0
  exact⟨_,_,_,Weak.of h2 h3,x,h1,rfl,rfl,rfl⟩
 ·rintro n a H ⟨x,h1,rfl,rfl,rfl⟩
  have:=round x h1
  have mono:∀(s:SC) (Q Q':APost) (a:List AV) (H:AHeap),(∀e a H,Q e a H→Q' e a H)→awpS P G s Q a H→awpS P G s Q' a H:=by
   intro s
   have opsMono:∀(Q Q':APost),(∀e a H,Q e a H→Q' e a H)→∀(l:List MOp) (a:List AV) (H:AHeap),opsS P G Q l a H→opsS P G Q' l a H:=by
    intro Q Q' hq l
    have opMono2:∀(op:Op) (dst:Option Tmp) (a:List AV) (H:AHeap) (next:List AV→AHeap→Prop),opS P G op dst a H next Q→opS P G op dst a H next Q':=by
     intro op dst a H next h
     unfold opS at h ⊢
     split at h
     ·split at h
      ·rcases h with ⟨hb,hc⟩ | hext
       ·exact .inl ⟨hb,hc.mono fun r H' hr=>by cases r<;>first | exact hr | exact hq _ _ _ hr⟩
       ·exact .inr hext
      ·rcases h with ⟨hb,hc⟩ | hext
       ·exact .inl ⟨hb,hc.mono fun r H' hr=>by cases r<;>first | exact hr | exact hq _ _ _ hr⟩
       ·exact .inr hext
      ·exact h
      ·exact h.elim
     ·split at h
      ·exact hq _ _ _ h
      ·exact h.elim
     ·exact h
    induction l with
    | nil=>intro a H h;exact hq _ _ _ h
    | cons o rest ih=>
     intro a H h
     simp only[opsS]at h ⊢
     split at h
     ·exact opMono2 _ _ _ _ _ (opS_mono ih h)
     ·split at h
      ·exact⟨fun e=>opMono2 _ _ _ _ _ (opS_mono ih (h.1 e)),fun e=>ih _ _ (h.2 e)⟩
      ·exact ih _ _ h
      ·exact h.elim
   induction s with
   | skip=>intro Q Q' a H hq h;exact hq _ _ _ h
   | ops l=>intro Q Q' a H hq h;exact opsMono Q Q' hq l a H h
   | seq x y ihx ihy=>
    intro Q Q' a H hq h
    refine ihx _ _ a H ?_ h
    intro e a H he
    cases e<;>first | exact ihy _ _ a H hq he | exact hq _ _ _ he
   | cond c x y ihx ihy=>
    intro Q Q' a H hq h
    simp only[awpS]at h ⊢
    split at h
    ·exact⟨fun e=>ihx _ _ _ _ hq (h.1 e),fun e=>ihy _ _ _ _ hq (h.2 e)⟩
    ·exact h.elim
   | block id b ih=>
    intro Q Q' a H hq h
    refine ih _ _ a H ?_ h
    intro e a H he
    cases e with
    | exit i=>simp only[blockA]at he ⊢;split at he<;>(rename_i hi;simp only[hi,if_true,if_false];exact hq _ _ _ he)
    | _=>exact hq _ _ _ he
   | loop b _=>intro Q Q' a H hq h;exact ATrS.mono h hq
   | exit id=>intro Q Q' a H hq h;exact hq _ _ _ h
   | ret=>intro Q Q' a H hq h;exact hq _ _ _ h
   | draw id ops=>intro Q Q' a H hq h;exact ATrS.mono h hq
   | rangeF g ps x y _ _=>intro Q Q' a H hq h;exact ATrS.mono h hq
   | scope b ih=>intro Q Q' a H hq h;exact ih _ _ a H hq h
   | other=>intro Q Q' a H hq h;exact ATrS.mono h hq
  refine mono b _ _ _ _ ?_ this
  intro e a H he
  cases e with
  | normal=>
   obtain⟨x',i1,i2,i3,i4⟩:=he
   exact⟨meas x',st x',hp x',i2,Weak.of i3 i4,x',i1,rfl,rfl,rfl⟩
  | _=>exact he
theorem AInv.call {P:Program} {G:Nat→Option (List AV)} {f:FuncId} {args:List AV} {H:AHeap} {K Kp:AV→AHeap→Prop} (hb:bodyT P f=true) {Q:ARes→AHeap→Prop} (h:ACalls P G f args H Q)
  (hq:∀r H',Q r H'→match r with | .ret v=>K v H' | .pan v=>Kp v H'):AInv P G f args H K Kp := .inl ⟨hb,h.mono hq⟩
theorem AInv.pure {P:Program} {G:Nat→Option (List AV)} {f:FuncId} {args:List AV} {H:AHeap} {K Kp:AV→AHeap→Prop} {v:AV} (hb:bodyT P f=true) (h:ACalls P G f args H fun r H'=>r = .ret v∧Keeps H H')
  (hk:∀H',Keeps H H'→K v H'):AInv P G f args H K Kp:=
 AInv.call hb h fun _ _ ⟨hr,hH⟩=>by subst hr;exact hk _ hH
theorem Keeps.refl (H:AHeap):Keeps H H:=⟨Nat.le_refl _,rfl⟩
theorem Keeps.trans {A B C:AHeap} (h:Keeps A B) (h':Keeps B C):Keeps A C:=⟨Nat.le_trans h.1 h'.1,h'.2.trans h.2⟩
theorem Keeps.post {H H':AHeap} (h:Keeps H H'):H.next≤H'.next∧∀k,k<H.next→H'.get k=H.get k:=⟨h.1,fun _ _=>by rw[h.2]⟩
end Go.Ab
namespace Go.Ab
open Go Go.Lib
def ptrId:AV→List Nat
 | .ptr k _=>[k]
 | .slc k _=>[k]
 | .map k=>[k]
 | _=>[]
def footA (n:Nat) (a:List AV) (o:Op):Option (List Nat × List Nat):=
 match o with
 | .move _ | .assign _ | .pick _ _ _ | .build _ _ | .unOp _ _ _ | .fieldAddr _ _ _ | .field _ _ _ | .index _ _ _ | .extract _ _ | .nilCheck _ | .makeInterface _ _=>some ([],[])
 | .load _ x=>some (ptrId (ev a x),[])
 | .binOp _ _ x y _=>some (ptrId (ev a x)++ptrId (ev a y),[])
 | .slice _ x _ _ _=>some (ptrId (ev a x),[])
 | .indexAddr _ x _=>some (ptrId (ev a x),[])
 | .store _ p _=>some (ptrId (ev a p),ptrId (ev a p))
 | .buildSlice _ _ _=>some ([n],[n])
 | .call { callee := .builtin .len,args,.. }=>match args.toList with
  | [x]=>(match ev a x with | .map _=>none | _=>some ([],[]))
  | _=>none
 | .call { callee := .builtin .append,args,.. }=>match args.toList with
  | [s,x]=>some (n::ptrId (ev a s)++ptrId (ev a x),n::ptrId (ev a s))
  | _=>none
 | .alloc _=>some ([n],[n])
 | .lookup _ m _ _=>some (ptrId (ev a m),[])
 | .box _ _=>some ([n],[n])
 | .makeMap _ none=>some ([n],[n])
 | .makeSlice _ _ _=>some ([n],[n])
 | _=>none
def makesA (o:Op):Bool:=
 match o with
 | .buildSlice _ _ _=>true
 | .call { callee := .builtin .append,.. }=>true
 | .alloc _=>true
 | .box _ _=>true
 | .makeMap _ none=>true
 | .makeSlice _ _ _=>true
 | _=>false
structure LocalAt (H H' J J':AHeap) (W:List Nat):Prop where
 write:∀k,k∈W→J'.get k=H'.get k
 other:∀k,k ∉ W→J'.get k=J.get k
theorem loadA_local {P:Program} {G:Nat→Option (List AV)} {H J:AHeap} {t:TypeId} {p:AV} (h:∀k,k∈ptrId p→J.get k=H.get k):loadA P G J t p=loadA P G H t p:=by
 cases p<;>simp only[loadA,ptrId,List.mem_singleton,forall_eq]at h ⊢
 rw[h]
theorem lookupA_local {P:Program} {H J:AHeap} {t:TypeId} {m key:AV} {ok:Bool} (h:∀k,k∈ptrId m→J.get k=H.get k):lookupA P J t m key ok=lookupA P H t m key ok:=by
 have:entriesA J m=entriesA H m:=by
  cases m<;>simp only[entriesA,ptrId,List.mem_singleton,forall_eq]at h ⊢
  rw[h]
 unfold lookupA
 rw[this]
theorem binA_local {P:Program} {H J:AHeap} {op:BinOp} {t:TypeId} {ox oy:Operand} {x y:AV} (h:∀k,k∈ptrId x++ptrId y→J.get k=H.get k):binA P J op t ox oy x y=binA P H op t ox oy x y:=by
 unfold binA
 split<;>first | rfl | skip
 rename_i j a k b
 have:=h j (by simp[ptrId])
 rw[this]
theorem sliceA_local {P:Program} {H J:AHeap} {t:TypeId} {x:AV} {lo hi mx:Option AV} (h:∀k,k∈ptrId x→J.get k=H.get k):sliceA P J t x lo hi mx=sliceA P H t x lo hi mx:=by
 unfold sliceA
 split<;>first | rfl | skip
 rename_i k len
 rw[h k (by simp[ptrId])]
theorem indexAddrA_local {P:Program} {H J:AHeap} {t:TypeId} {x i:AV} (h:∀k,k∈ptrId x→J.get k=H.get k):indexAddrA P J t x i=indexAddrA P H t x i:=by
 unfold indexAddrA
 split<;>first | rfl | skip
 split<;>first | rfl | skip
 rename_i k len
 rw[h k (by simp[ptrId])]
theorem storeA_local {P:Program} {H H' J:AHeap} {t:TypeId} {p x:AV} (h:∀k,k∈ptrId p→J.get k=H.get k) (hs:storeA P H t p x=some H') :
  ∃J',storeA P J t p x=some J'∧LocalAt H H' J J' (ptrId p)∧(∀k,k ∉ ptrId p→H'.get k=H.get k)∧J'.next=J.next∧H'.next=H.next:=by
 have hs0:=hs
 unfold storeA at hs
 split at hs
 case h_2=>cases hs
 rename_i k off n hn
 have hk:=h k (by simp[ptrId])
 split at hs
 case isFalse=>cases hs
 rename_i hc
 have fin:∀o,storeA P J t (.ptr k off) x=some (J.set k o)→H'=H.set k o→(∃J',storeA P J t (.ptr k off) x=some J'∧LocalAt H H' J J' (ptrId (.ptr k off))∧(∀j,j ∉ ptrId (.ptr k off)→H'.get j=H.get j)∧J'.next=J.next∧H'.next=H.next):=by
  rintro o ho rfl
  exact⟨_,ho,⟨fun j hj=>by simp only[ptrId,List.mem_singleton]at hj;subst hj;simp,fun j hj=>by simp only[ptrId,List.mem_singleton]at hj;exact AHeap.get_set_ne _ _ hj⟩,
   fun j hj=>by simp only[ptrId,List.mem_singleton]at hj;exact AHeap.get_set_ne _ _ hj,rfl,rfl⟩
 split at hs
 ·rename_i e cs hkk
  split at hs
  ·rename_i hl;cases hs;exact fin _ (by simp only[storeA,hn,if_pos hc,hk,hkk,if_pos hl]) rfl
  ·cases hs
 ·rename_i e sz cs hkk
  split at hs
  ·rename_i hl;cases hs;exact fin _ (by simp only[storeA,hn,if_pos hc,hk,hkk,if_pos hl]) rfl
  ·cases hs
 ·cases hs
theorem srcCells_local {H J:AHeap} {size:Nat} {x:AV} (h:∀k,k∈ptrId x→J.get k=H.get k):srcCells J size x=srcCells H size x:=by
 cases x<;>simp only[srcCells,ptrId,List.mem_singleton,forall_eq]at h ⊢
 rw[h]
theorem appSrc_local {P:Program} {H J:AHeap} {size:Nat} {byte:Bool} {t0 t1:TypeId} {x:AV} (h:∀k,k∈ptrId x→J.get k=H.get k):appSrc P J size byte t0 t1 x=appSrc P H size byte t0 t1 x:=by
 unfold appSrc
 split
 ·rfl
 ·rw[srcCells_local h]
theorem appendA_local {P:Program} {H H' J:AHeap} {n:Nat} {t0 t1:TypeId} {s x v:AV} (h:∀k,k∈n::ptrId s++ptrId x→J.get k=H.get k) (hJ:J.next=H.next) (hs:appendA P H n t0 t1 s x=some (v,H')) :
  ∃J',appendA P J n t0 t1 s x=some (v,J')∧LocalAt H H' J J' (n::ptrId s)∧(∀k,k ∉ n::ptrId s→H'.get k=H.get k)∧J'.next=H'.next:=by
 unfold appendA at hs
 split at hs
 ·cases hs
 rename_i e size byte hr
 have hloc:=appSrc_local (P:=P) (H:=H) (J:=J) (size:=size) (byte:=byte) (t0:=t0) (t1:=t1) (x:=x) (fun k hk=>h k (by simp[hk]))
 split at hs
 ·cases hs
 rename_i m new hsrc
 rw[hsrc]at hloc
 split at hs
 ·split at hs
  case isFalse=>cases hs
  rename_i hc
  cases hs
  refine⟨_,by simp only[appendA,hr,hloc,if_pos hc];rfl,⟨fun k hk=>?_,fun k hk=>?_⟩,fun k hk=>?_,by simp only[AHeap.next_allocAt,hJ]⟩
  ·simp only[ptrId,List.mem_cons,List.not_mem_nil,or_false]at hk;subst hk;simp
  ·simp only[ptrId,List.mem_cons,List.not_mem_nil,or_false]at hk;exact AHeap.get_allocAt_ne _ _ hk
  ·simp only[ptrId,List.mem_cons,List.not_mem_nil,or_false]at hk;exact AHeap.get_allocAt_ne _ _ hk
 ·rename_i k len
  have hk0:=h k (by simp[ptrId])
  split at hs
  case h_2=>cases hs
  rename_i e' sz cs hk
  split at hs
  case isFalse=>cases hs
  rename_i hc
  cases hs
  refine⟨_,by simp only[appendA,hr,hloc,hk0,hk,if_pos hc];rfl,⟨fun j hj=>?_,fun j hj=>?_⟩,fun j hj=>?_,by simp only[AHeap.next_allocAt,AHeap.next_del,hJ]⟩
  ·simp only[AHeap.get_allocAt,AHeap.get_del]
   split
   ·rfl
   ·rename_i hne
    simp only[ptrId,List.mem_cons,List.not_mem_nil,or_false]at hj
    rcases hj with hj | hj
    ·exact absurd hj hne
    ·subst hj;simp
  ·simp only[ptrId,List.mem_cons,List.not_mem_nil,or_false,not_or]at hj
   rw[AHeap.get_allocAt_ne _ _ hj.1,AHeap.get_del_ne _ hj.2]
  ·simp only[ptrId,List.mem_cons,List.not_mem_nil,or_false,not_or]at hj
   rw[AHeap.get_allocAt_ne _ _ hj.1,AHeap.get_del_ne _ hj.2]
 ·cases hs
theorem sliceLit_local {P:Program} {H H' J:AHeap} {n:Nat} {t:TypeId} {len:Nat} {parts:List (Nat × AV)} {v:AV} (hJ:J.next=H.next) (hs:sliceLit P H n t len parts=some (v,H')) :
  ∃J',sliceLit P J n t len parts=some (v,J')∧LocalAt H H' J J' [n]∧(∀k,k ∉ [n]→H'.get k=H.get k)∧J'.next=H'.next:=by
 unfold sliceLit at hs ⊢
 split at hs
 ·cases hs
 split at hs
 case h_2=>cases hs
 split at hs
 case isFalse=>cases hs
 rename_i hc
 rw[if_pos hc]
 simp only[Option.map_eq_some_iff,Prod.mk.injEq]at hs
 obtain⟨cells,hf,rfl,rfl⟩:=hs
 rw[hf]
 refine⟨_,rfl,⟨fun k hk=>?_,fun k hk=>?_⟩,fun k hk=>?_,by simp only[AHeap.next_allocAt,hJ]⟩
 ·simp only[List.mem_singleton]at hk;subst hk;simp
 ·simp only[List.mem_singleton]at hk;exact AHeap.get_allocAt_ne _ _ hk
 ·simp only[List.mem_singleton]at hk;exact AHeap.get_allocAt_ne _ _ hk
theorem LocalAt.same (H J:AHeap):LocalAt H H J J []:=⟨fun k hk=>absurd hk (by simp),fun _ _=>rfl⟩
theorem alloc_local {H J:AHeap} {n:Nat} {o:AObj} {Q:Prop} {b:Bool} (hb:b=true) (hJ:J.next=H.next):LocalAt H (H.allocAt n o) J (J.allocAt n o) [n]∧(∀k,k ∉ [n]→(H.allocAt n o).get k=H.get k)∧(b=true→(J.allocAt n o).next=(H.allocAt n o).next)∧(b=false→Q):=by
 refine⟨⟨fun k hk=>?_,fun k hk=>?_⟩,fun k hk=>?_,fun _=>by simp only[AHeap.next_allocAt,hJ],fun h=>by rw[hb]at h;cases h⟩
 ·simp only[List.mem_singleton]at hk;subst hk;simp
 ·simp only[List.mem_singleton]at hk;exact AHeap.get_allocAt_ne _ _ hk
 ·simp only[List.mem_singleton]at hk;exact AHeap.get_allocAt_ne _ _ hk
theorem opA_local {P:Program} {G:Nat→Option (List AV)} {H H' J:AHeap} {n:Nat} {a:List AV} {o:Op} {v:AV} {R W:List Nat} (hf:footA n a o=some (R,W)) (h:∀k,k∈R→J.get k=H.get k) (hJ:makesA o=true→J.next=H.next)
  (ho:opA P G H n a o=some (v,H')) :
  ∃J',opA P G J n a o=some (v,J')∧LocalAt H H' J J' W∧(∀k,k ∉ W→H'.get k=H.get k)∧(makesA o=true→J'.next=H'.next)∧(makesA o=false→J'.next=J.next∧H'.next=H.next):=by
 have pure':∀{x:Option AV},x.map (·,H)=some (v,H')→∃J',x.map (·,J)=some (v,J')∧LocalAt H H' J J' []∧(∀k,k ∉ ([]:List Nat)→H'.get k=H.get k)∧J'.next=J.next∧H'.next=H.next:=by
  intro x hx
  simp only[Option.map_eq_some_iff,Prod.mk.injEq]at hx
  obtain⟨y,rfl,rfl,rfl⟩:=hx
  exact⟨J,rfl,LocalAt.same H J,fun _ _=>rfl,rfl,rfl⟩
 have lift:∀{x x':Option AV},x'=x→x.map (·,H)=some (v,H')→∃J',x'.map (·,J)=some (v,J')∧LocalAt H H' J J' []∧(∀k,k ∉ ([]:List Nat)→H'.get k=H.get k)∧J'.next=J.next∧H'.next=H.next:=by
  rintro x _ rfl hx;exact pure' hx
 have p2:∀{x:Option AV},makesA o=false→R=[]→W=[]→x.map (·,H)=some (v,H')→∃J',x.map (·,J)=some (v,J')∧LocalAt H H' J J' W∧(∀k,k ∉ W→H'.get k=H.get k)∧(makesA o=true→J'.next=H'.next)∧(makesA o=false→J'.next=J.next∧H'.next=H.next):=by
  rintro x hm rfl rfl hx
  obtain⟨J',h1,h2,h3,h4,h5⟩:=pure' hx
  exact⟨J',h1,h2,h3,(fun e=>absurd (hm.symm.trans e) (by simp)),fun _=>⟨h4,h5⟩⟩
 have l2:∀{x x':Option AV},makesA o=false→W=[]→x'=x→x.map (·,H)=some (v,H')→∃J',x'.map (·,J)=some (v,J')∧LocalAt H H' J J' W∧(∀k,k ∉ W→H'.get k=H.get k)∧(makesA o=true→J'.next=H'.next)∧(makesA o=false→J'.next=J.next∧H'.next=H.next):=by
  rintro x x' hm rfl e hx
  obtain⟨J',h1,h2,h3,h4,h5⟩:=lift e hx
  exact⟨J',h1,h2,h3,(fun e=>absurd (hm.symm.trans e) (by simp)),fun _=>⟨h4,h5⟩⟩
 unfold footA at hf
 split at hf
 case h_1=>cases hf;exact p2 (x:=some _) rfl rfl rfl ho
 case h_2=>cases hf;exact p2 (x:=some _) rfl rfl rfl ho
 case h_3 c x y=>
  cases hf
  simp only[opA]at ho ⊢
  split at ho
  ·exact p2 (x:=some _) rfl rfl rfl ho
  ·cases ho
 case h_4=>cases hf;exact p2 rfl rfl rfl ho
 case h_5=>cases hf;exact p2 rfl rfl rfl ho
 case h_6=>cases hf;exact p2 rfl rfl rfl ho
 case h_7=>cases hf;exact p2 rfl rfl rfl ho
 case h_8=>cases hf;exact p2 rfl rfl rfl ho
 case h_9=>cases hf;exact p2 rfl rfl rfl ho
 case h_10=>cases hf;exact p2 rfl rfl rfl ho
 case h_11=>cases hf;exact p2 rfl rfl rfl ho
 case h_12=>cases hf;exact l2 rfl rfl (loadA_local h) ho
 case h_13=>cases hf;exact l2 rfl rfl (binA_local h) ho
 case h_14=>cases hf;exact l2 rfl rfl (sliceA_local h) ho
 case h_15=>cases hf;exact l2 rfl rfl (indexAddrA_local h) ho
 case h_16=>
  cases hf
  simp only[opA,Option.map_eq_some_iff,Prod.mk.injEq]at ho
  obtain⟨H2,hs,rfl,rfl⟩:=ho
  obtain⟨J',h1,h2,h3,h4,h5⟩:=storeA_local h hs
  exact⟨J',by simp only[opA,h1];rfl,h2,h3,by simp[makesA],fun _=>⟨h4,h5⟩⟩
 case h_17=>
  cases hf
  obtain⟨J',h1,h2,h3,h4⟩:=sliceLit_local (J:=J) (hJ rfl) ho
  exact⟨J',h1,h2,h3,fun _=>h4,by simp[makesA]⟩
 case h_18 args at_=>
  split at hf
  case h_2=>cases hf
  rename_i x hx
  have hx2:args.toList.map (ev a)=[ev a x]:=by rw[hx];rfl
  split at hf
  ·cases hf
  ·rename_i hnm
   cases hf
   simp only[opA,hx2]at ho ⊢
   have hlen:∀t,lenA P J t (ev a x)=lenA P H t (ev a x):=by
    intro t
    unfold lenA
    split<;>first | rfl | skip
    rename_i k hk
    exact(hnm k hk).elim
   match hts:at_.toList with
   | [t]=>rw[hts]at ho;exact l2 (x:=lenA P H t (ev a x)) (x':=lenA P J t (ev a x)) rfl rfl (hlen t) ho
   | []=>rw[hts]at ho;cases ho
   | _::_::_=>rw[hts]at ho;cases ho
 case h_19 args at_=>
  split at hf
  case h_2=>cases hf
  rename_i s x hx
  cases hf
  have hx2:args.toList.map (ev a)=[ev a s,ev a x]:=by rw[hx];rfl
  simp only[opA,hx2]at ho ⊢
  match hts:at_.toList with
  | [t0,t1]=>
   rw[hts]at ho
   obtain⟨J',h1,h2,h3,h4⟩:=appendA_local h (hJ rfl) (show appendA P H n t0 t1 (ev a s) (ev a x)=some (v,H')from ho)
   exact⟨J',h1,h2,h3,fun _=>h4,by simp[makesA]⟩
  | []=>rw[hts]at ho;cases ho
  | [_]=>rw[hts]at ho;cases ho
  | _::_::_::_=>rw[hts]at ho;cases ho
 case h_20 e=>
  cases hf
  simp only[opA,Option.map_eq_some_iff,Prod.mk.injEq]at ho ⊢
  obtain⟨z,hz,rfl,rfl⟩:=ho
  refine⟨_,⟨z,hz,rfl,rfl⟩,⟨fun k hk=>?_,fun k hk=>?_⟩,fun k hk=>?_,fun _=>by simp only[AHeap.next_allocAt,hJ rfl],by simp[makesA]⟩
  ·simp only[List.mem_singleton]at hk;subst hk;simp
  ·simp only[List.mem_singleton]at hk;exact AHeap.get_allocAt_ne _ _ hk
  ·simp only[List.mem_singleton]at hk;exact AHeap.get_allocAt_ne _ _ hk
 case h_21=>cases hf;exact l2 rfl rfl (lookupA_local h) ho
 case h_22 e x=>
  cases hf
  simp only[opA]at ho ⊢
  split at ho
  ·rename_i hbx
   cases ho
   rw[if_pos hbx]
   exact⟨_,rfl,alloc_local rfl (hJ rfl)⟩
  ·cases ho
 case h_23=>
  cases hf
  simp only[opA]at ho ⊢
  cases ho
  exact⟨_,rfl,alloc_local rfl (hJ rfl)⟩
 case h_24 t x y=>
  cases hf
  simp only[opA]at ho ⊢
  unfold makeA at ho ⊢
  split at ho
  ·split at ho
   ·split at ho
    ·rename_i hcd
     cases ho
     rw[if_pos hcd]
     exact⟨_,rfl,alloc_local rfl (hJ rfl)⟩
    ·cases ho
   ·cases ho
  ·cases ho
 case h_25=>cases hf
end Go.Ab
namespace Go.Ab
open Go Go.Lib
/-! What a place holds once some of the operations have been carried out. -/
section
variable {α:Type} (listed:Nat→Bool) (W:Nat→Prop) [DecidablePred W] (val:Nat→α)
def lastOf:Nat→α
 | 0=>val 0
 | i+1=>if listed i=true∧W i then val (i+1)else lastOf i
theorem lastOf_pre {n i:Nat} (hi:i≤n) (hkeep:∀m,m<n→¬W m→val (m+1)=val m) (h1:∀m,m<i→W m→listed m=true):lastOf listed W val i=val i:=by
 induction i with
 | zero=>rfl
 | succ m ih=>
  simp only[lastOf]
  split
  ·rfl
  ·rename_i h
   have hW:¬W m:=fun hw=>h ⟨h1 m (by omega) hw,hw⟩
   rw[ih (by omega) (fun j hj hw=>h1 j (by omega) hw),hkeep m (by omega) hW]
theorem lastOf_post {n i:Nat} (h2:∀m,i≤m→m<n→W m→listed m=false):∀j,i≤j→j≤n→lastOf listed W val j=lastOf listed W val i:=by
 intro j hij
 induction hij with
 | refl=>intro _;rfl
 | step hle ih=>
  intro hj
  rename_i m
  simp only[lastOf]
  rw[if_neg,ih (by omega)]
  rintro⟨h3,h4⟩
  rw[h2 m hle (by omega) h4]at h3
  cases h3
theorem lastOf_at {n i:Nat} (hi:i<n) (hkeep:∀m,m<n→¬W m→val (m+1)=val m) (h1:∀m,m<i→W m→listed m=true) (h2:∀m,i≤m→m<n→W m→listed m=false) :
  lastOf listed W val n=val i:=by
 rw[lastOf_post listed W val h2 n (by omega) (Nat.le_refl _),lastOf_pre listed W val (Nat.le_of_lt hi) hkeep h1]
theorem lastOf_all {n:Nat} (hkeep:∀m,m<n→¬W m→val (m+1)=val m) (h:∀m,m<n→listed m=true):lastOf listed W val n=val n:=
 lastOf_pre listed W val (Nat.le_refl _) hkeep (fun m hm _=>h m hm)
theorem lastOf_none (h:∀m,listed m=false):∀n,lastOf listed W val n=val 0
 | 0=>rfl
 | n+1=>by simp[lastOf,h n,lastOf_none h n]
theorem lastOf_add {n i:Nat} {listed':Nat→Bool} (hi:i<n) (hl:∀m,m≠i→listed' m=listed m) (hli:listed' i=true) (hW:W i) (h2:∀m,i<m→m<n→W m→listed m=false) :
  lastOf listed' W val n=val (i+1):=by
 have e:lastOf listed' W val (i+1)=val (i+1):=by simp[lastOf,hli,hW]
 rw[lastOf_post listed' W val (i:=i+1) (fun m h3 h4 h5=>by rw[hl m (by omega)];exact h2 m (by omega) h4 h5) n (by omega) (Nat.le_refl _),e]
theorem lastOf_skip {i:Nat} {listed':Nat→Bool} (hl:∀m,m≠i→listed' m=listed m) (hW:¬W i):∀n,lastOf listed' W val n=lastOf listed W val n
 | 0=>rfl
 | n+1=>by
  simp only[lastOf]
  rw[lastOf_skip hl hW n]
  by_cases h:n=i
  ·subst h;simp[hW]
  ·rw[hl n h]
end
def masks:List Oper→List Nat→List Nat
 | [],acc=>acc
 | o::os,acc=>masks os (acc++[o.after.toList.foldl (fun s e=>if Region.binds .any e then s ||| 2 ^ e.on ||| acc.getD e.on 0 else s) 0])
def Closed (ops:Array Oper) (listed:Nat→Bool):Prop:=
 ∀(j:Nat) (o:Oper),ops[j]?=some o→listed j=true→∀e∈o.after,Region.binds .any e=true→listed e.on=true
theorem mask_fold {listed:Nat→Bool} {acc:List Nat} (hacc:∀j i,listed j=true→(acc.getD j 0).testBit i=true→listed i=true) :
  ∀(es:List Edge) (s:Nat),(∀i,s.testBit i=true→listed i=true)→(∀e∈es,Region.binds .any e=true→listed e.on=true) →
   ∀i,(es.foldl (fun s e=>if Region.binds .any e then s ||| 2 ^ e.on ||| acc.getD e.on 0 else s) s).testBit i=true→listed i=true
 | [],s,hs,_,i,h=>hs i h
 | e::es,s,hs,he,i,h=>by
  simp only[List.foldl_cons]at h
  refine mask_fold hacc es _ ?_ (fun e' he'=>he e' (by simp[he'])) i h
  intro i hi
  split at hi
  ·rename_i hb
   have hon:=he e (by simp) hb
   simp only[Nat.testBit_or,Bool.or_eq_true]at hi
   rcases hi with (hi | hi) | hi
   ·exact hs i hi
   ·rw[Nat.testBit_two_pow]at hi
    simp only[decide_eq_true_eq]at hi
    rw[←hi];exact hon
   ·exact hacc e.on i hon hi
  ·exact hs i hi
theorem masks_ok {ops:Array Oper} {listed:Nat→Bool} (hc:Closed ops listed):∀(os:List Oper) (acc:List Nat),(∀k o,os[k]?=some o→ops[acc.length+k]?=some o) →
  (∀j i,listed j=true→(acc.getD j 0).testBit i=true→listed i=true) →
  ∀j i,listed j=true→((masks os acc).getD j 0).testBit i=true→listed i=true
 | [],acc,_,h,j,i,hj,hi=>h j i hj hi
 | o::os,acc,ho,h,j,i,hj,hi=>by
  simp only[masks]at hi
  refine masks_ok hc os _ (fun k o' hk=>?_) ?_ j i hj hi
  ·have:=ho (k+1) o' (by simpa using hk)
   simpa[Nat.add_assoc,Nat.add_comm 1 k]using this
  ·intro j i hj hi
   by_cases hjl:j<acc.length
   ·simp only[List.getD,List.getElem?_append_left hjl]at hi
    exact h j i hj hi
   ·by_cases hje:j=acc.length
    ·subst hje
     simp only[List.getD,List.getElem?_append_right (Nat.le_refl _),Nat.sub_self,List.getElem?_cons_zero,Option.getD_some]at hi
     exact mask_fold h o.after.toList 0 (fun i h=>by simp at h) (fun e he hb=>hc acc.length o (ho 0 o rfl) hj e (by simpa using he) hb) i hi
    ·have:(acc++[List.foldl (fun s e=>if Region.binds .any e=true then s ||| 2 ^ e.on ||| acc.getD e.on 0 else s) 0 o.after.toList])[j]?=none:=by
      rw[List.getElem?_eq_none];simp;omega
     rw[List.getD,this]at hi
     simp at hi
def forcedB (ops:Array Oper) (i j:Nat):Bool:=((masks ops.toList []).getD j 0).testBit i
theorem forced_listed {ops:Array Oper} {listed:Nat→Bool} (hc:Closed ops listed) {i j:Nat} (hf:forcedB ops i j=true) (hj:listed j=true):listed i=true:=
 masks_ok hc ops.toList [] (fun k o h=>by simpa using h) (fun j i _ h=>by simp at h) j i hj hf
abbrev Place:=Option Nat
def AgreeAt (H J:AHeap):Place→Prop
 | none=>J.next=H.next
 | some k=>J.get k=H.get k
structure Trace (P:Program) (G:Nat→Option (List AV)) (ops:Array Oper) (ex:Bool) (σ:Nat→List AV × AHeap) (RO WO:Nat→List Place):Prop where
 len:∀i,i≤ops.size→(σ i).1.length=(σ 0).1.length
 step:∀(i:Nat) (o:Oper),ops[i]?=some o→∀(τ:List AV × AHeap),τ.1.length=(σ 0).1.length→(∀t,t∈o.looksAt ops→τ.1[t]?=(σ i).1[t]?)→(∀l,l∈RO i→AgreeAt (σ i).2 τ.2 l) →
  ∀(rd:Option Nat) (mb:Bool) (D:List Deferred) (C0:Ctx) (w0:World) (C:Ctx) (w:World) (ac:Act),Adv C0 w0 C w→Rel G C w→C.H.get=τ.2.get→(if ex then C.H.next=τ.2.next else τ.2.next≤C.H.next)→ActRel C τ.1 ac→ac.defers=D →
  ∀(N:Act→World→Prop) (Q:APost),
   (∀(τ':List AV × AHeap) (C':Ctx) (ac':Act) (w':World),τ'.1.length=(σ 0).1.length→(∀t,τ'.1[t]?=if o.dst=some t then(σ (i+1)).1[t]? else τ.1[t]?) →
    (∀l,(l=none→ex=true)→l∈WO i→AgreeAt (σ (i+1)).2 τ'.2 l)→(∀l,(l=none→ex=true)→l ∉ WO i→AgreeAt τ.2 τ'.2 l) →
    C'.H.get=τ'.2.get→(if ex then C'.H.next=τ'.2.next else τ.2.next≤C'.H.next∧τ'.2.next=τ.2.next)→ActRel C' τ'.1 ac'→ac'.defers=D→Rel G C' w'→Adv C0 w0 C' w'→N ac' w') →
   wpOpIn (WF rd) 0 P ops (Behind mb D G C0 w0 Q) i N ac w
 keepT:∀(i:Nat) (o:Oper),ops[i]?=some o→∀t,o.dst≠some t→(σ (i+1)).1[t]?=(σ i).1[t]?
 keepO:∀(i:Nat),i<ops.size→∀l,(l=none→ex=true)→l ∉ WO i→AgreeAt (σ i).2 (σ (i+1)).2 l
 nextLe:ex=false→∀i,i<ops.size→(σ (i+1)).2.next=(σ i).2.next
 apart:∀(i j:Nat) (oi oj:Oper),i<j→ops[i]?=some oi→ops[j]?=some oj→forcedB ops i j=true ∨
  (oi.apart ops oj=true∧(∀l,l∈WO i→l ∉ RO j∧l ∉ WO j)∧(∀l,l∈RO i→l ∉ WO j))
 edges:∀(i:Nat) (o:Oper),ops[i]?=some o→∀e∈o.after,Region.binds .any e=true→e.on<i
section
variable {P:Program} {G:Nat→Option (List AV)} {ops:Array Oper} {ex:Bool} {σ:Nat→List AV × AHeap} {RO WO:Nat→List Place}
def WT (ops:Array Oper) (t:Tmp) (i:Nat):Prop:=(ops[i]?).bind (·.dst)=some t
instance (ops:Array Oper) (t:Tmp):DecidablePred (WT ops t):=fun i=>inferInstanceAs (Decidable ((ops[i]?).bind (·.dst)=some t))
theorem wt_iff {ops:Array Oper} {t:Tmp} {i:Nat}:WT ops t i↔∃o,ops[i]?=some o∧o.dst=some t:=Option.bind_eq_some_iff
structure Mid (ops:Array Oper) (ex:Bool) (σ:Nat→List AV × AHeap) (WO:Nat→List Place) (listed:Nat→Bool) (τ:List AV × AHeap):Prop where
 len:τ.1.length=(σ 0).1.length
 tmps:∀t,τ.1[t]?=lastOf listed (WT ops t) (fun i=>(σ i).1[t]?) ops.size
 objs:∀k,τ.2.get k=lastOf listed (fun i=>some k∈WO i) (fun i=>(σ i).2.get k) ops.size
 next:τ.2.next=if ex then lastOf listed (fun i=>none∈WO i) (fun i=>(σ i).2.next) ops.size else(σ 0).2.next
theorem Trace.keepT' (T:Trace P G ops ex σ RO WO) (t:Tmp) (m:Nat) (hm:m<ops.size) (h:¬WT ops t m):(σ (m+1)).1[t]?=(σ m).1[t]?:=
 T.keepT m ops[m] (Array.getElem?_eq_getElem hm) t fun e=>h (wt_iff.2 ⟨_,Array.getElem?_eq_getElem hm,e⟩)
theorem Trace.next0 (T:Trace P G ops ex σ RO WO) (h:ex=false):∀i,i≤ops.size→(σ i).2.next=(σ 0).2.next
 | 0,_=>rfl
 | i+1,hi=>by rw[T.nextLe h i (by omega),T.next0 h i (by omega)]
theorem Mid.start (T:Trace P G ops ex σ RO WO):Mid ops ex σ WO (fun _=>false) (σ 0):={
 len:=rfl
 tmps t:=(lastOf_none _ (WT ops t) (fun i=>(σ i).1[t]?) (fun _=>rfl) _).symm
 objs k:=(lastOf_none _ (fun i=>some k∈WO i) (fun i=>(σ i).2.get k) (fun _=>rfl) _).symm
 next:=by
  split
  ·exact(lastOf_none _ (fun i=>none∈WO i) (fun i=>(σ i).2.next) (fun _=>rfl) _).symm
  ·rfl }
theorem Mid.done (T:Trace P G ops ex σ RO WO) {listed:Nat→Bool} {τ:List AV × AHeap} (M:Mid ops ex σ WO listed τ) (h:∀m,m<ops.size→listed m=true):τ=σ ops.size:=by
 have h1:τ.1=(σ ops.size).1:=List.ext_getElem? fun t=>by rw[M.tmps t];exact lastOf_all _ _ _ (fun m hm hw=>T.keepT' t m hm hw) h
 have h2:τ.2.get=(σ ops.size).2.get:=funext fun k=>by
  rw[M.objs k];exact lastOf_all _ _ _ (fun m hm hw=>T.keepO m hm (some k) (by simp) hw) h
 have h3:τ.2.next=(σ ops.size).2.next:=by
  rw[M.next]
  cases hex:ex with
  | false=>simp[T.next0 hex ops.size (Nat.le_refl _)]
  | true=>
   simp only[if_true]
   exact lastOf_all listed (fun i=>none∈WO i) (fun i=>(σ i).2.next) (fun m hm hw=>T.keepO m hm none (fun _=>hex) hw) h
 obtain⟨τ1,n,g⟩:=τ
 generalize hs:σ ops.size=s at h1 h2 h3
 obtain⟨s1,sn,sg⟩:=s
 simp only at h1 h2 h3
 subst h1;subst h2;subst h3;rfl
theorem Trace.ahead (T:Trace P G ops ex σ RO WO) {listed:Nat→Bool} (hc:Closed ops listed) {i:Nat} {o:Oper} (hi:ops[i]?=some o) (hl:listed i=false)
  (hr:∀e∈o.after,Region.binds .any e=true→listed e.on=true) {m:Nat} (hm:m<i) {om:Oper} (hom:ops[m]?=some om) (hf:forcedB ops m i=true):listed m=true:=by
 have hc':Closed ops (fun j=>listed j||j==i):=by
  intro j oj hj hlj e he hb
  by_cases hji:j=i
  ·subst hji
   rw[hi]at hj;cases hj
   simp[hr e he hb]
  ·have:listed j=true:=by simpa[hji]using hlj
   simp[hc j oj hj this e he hb]
 have:=forced_listed hc' hf (by simp)
 simp only[Bool.or_eq_true,beq_iff_eq]at this
 rcases this with h | h
 ·exact h
 ·omega
theorem Trace.behind (T:Trace P G ops ex σ RO WO) {listed:Nat→Bool} (hc:Closed ops listed) {i:Nat} (hl:listed i=false) {m:Nat} (hf:forcedB ops i m=true):listed m=false:=by
 cases h:listed m with
 | false=>rfl
 | true=>rw[forced_listed hc hf h]at hl;cases hl
theorem Trace.reads (T:Trace P G ops ex σ RO WO) {listed:Nat→Bool} {τ:List AV × AHeap} (M:Mid ops ex σ WO listed τ) (hc:Closed ops listed) {i:Nat} {o:Oper} (hi:ops[i]?=some o) (hl:listed i=false)
  (hr:∀e∈o.after,Region.binds .any e=true→listed e.on=true):(∀t,t∈o.looksAt ops→τ.1[t]?=(σ i).1[t]?)∧(∀l,l∈RO i→AgreeAt (σ i).2 τ.2 l):=by
 have hlt:i<ops.size:=(Array.getElem?_eq_some_iff.1 hi).1
 have A:∀l,l∈RO i→(∀m,m<i→l∈WO m→listed m=true)∧(∀m,i≤m→m<ops.size→l∈WO m→listed m=false):=by
  intro l hlr
  refine⟨fun m hm hw=>?_,fun m hm hms hw=>?_⟩
  ·have hms:m<ops.size:=by omega
   rcases T.apart m i ops[m] o hm (Array.getElem?_eq_getElem hms) hi with hf | ⟨_,h1,_⟩
   ·exact T.ahead hc hi hl hr hm (Array.getElem?_eq_getElem hms) hf
   ·exact absurd hlr (h1 l hw).1
  ·rcases Nat.lt_or_ge i m with hm' | hm'
   ·rcases T.apart i m o ops[m] hm' hi (Array.getElem?_eq_getElem hms)with hf | ⟨_,_,h2⟩
    ·exact T.behind hc hl hf
    ·exact absurd hw (h2 l hlr)
   ·have:m=i:=by omega
    rw[this];exact hl
 refine⟨fun t ht=>?_,fun l hlr=>?_⟩
 ·rw[M.tmps t]
  refine lastOf_at listed (WT ops t) (fun i=>(σ i).1[t]?) hlt (fun m hm hw=>T.keepT' t m hm hw) ?_ ?_
  ·intro m hm hwt
   obtain⟨om,hom,hd⟩:=wt_iff.1 hwt
   rcases T.apart m i om o hm hom hi with hf | ⟨h0,_,_⟩
   ·exact T.ahead hc hi hl hr hm hom hf
   ·exact absurd ht ((Oper.apart_spec h0).1 t hd)
  ·intro m hm hms hwt
   obtain⟨om,hom,hd⟩:=wt_iff.1 hwt
   rcases Nat.lt_or_ge i m with hm' | hm'
   ·rcases T.apart i m o om hm' hi hom with hf | ⟨h0,_,_⟩
    ·exact T.behind hc hl hf
    ·exact absurd ht ((Oper.apart_spec h0).2.2 t hd)
   ·have:m=i:=by omega
    rw[this];exact hl
 ·obtain⟨h1,h2⟩:=A l hlr
  cases l with
  | some k=>
   simp only[AgreeAt]
   rw[M.objs k]
   exact lastOf_at listed (fun i=>some k∈WO i) (fun i=>(σ i).2.get k) hlt (fun m hm hw=>T.keepO m hm (some k) (by simp) hw) h1 h2
  | none=>
   simp only[AgreeAt]
   rw[M.next]
   cases hex:ex with
   | false=>simp[T.next0 hex i (by omega)]
   | true=>
    simp only[if_true]
    exact lastOf_at listed (fun i=>none∈WO i) (fun i=>(σ i).2.next) hlt (fun m hm hw=>T.keepO m hm none (fun _=>hex) hw) h1 h2
theorem Trace.moves (T:Trace P G ops ex σ RO WO) {listed listed':Nat→Bool} {τ τ':List AV × AHeap} (M:Mid ops ex σ WO listed τ) (hc:Closed ops listed) {i:Nat} {o:Oper} (hi:ops[i]?=some o) (hl:listed i=false)
  (e1:∀m,m≠i→listed' m=listed m) (e2:listed' i=true)
  (h0:τ'.1.length=(σ 0).1.length) (h1:∀t,τ'.1[t]?=if o.dst=some t then(σ (i+1)).1[t]? else τ.1[t]?)
  (h2:∀l,(l=none→ex=true)→l∈WO i→AgreeAt (σ (i+1)).2 τ'.2 l) (h3:∀l,(l=none→ex=true)→l ∉ WO i→AgreeAt τ.2 τ'.2 l)
  (h4:ex=false→τ'.2.next=τ.2.next):Mid ops ex σ WO listed' τ':=by
 have hlt:i<ops.size:=(Array.getElem?_eq_some_iff.1 hi).1
 have A:∀l,l∈WO i→∀m,i<m→m<ops.size→l∈WO m→listed m=false:=by
  intro l hlw m hm hms hw
  rcases T.apart i m o ops[m] hm hi (Array.getElem?_eq_getElem hms)with hf | ⟨_,h,_⟩
  ·exact T.behind hc hl hf
  ·exact absurd hw (h l hlw).2
 refine⟨h0,fun t=>?_,fun k=>?_,?_⟩
 ·rw[h1 t]
  split
  ·rename_i hd
   refine(lastOf_add listed (WT ops t) (fun i=>(σ i).1[t]?) hlt e1 e2 (wt_iff.2 ⟨o,hi,hd⟩) ?_).symm
   intro m hm hms hwt
   obtain⟨om,hom,hdm⟩:=wt_iff.1 hwt
   rcases T.apart i m o om hm hi hom with hf | ⟨ha,_,_⟩
   ·exact T.behind hc hl hf
   ·exact absurd hdm ((Oper.apart_spec ha).2.1 t hd)
  ·rename_i hd
   rw[M.tmps t]
   refine(lastOf_skip listed (WT ops t) (fun i=>(σ i).1[t]?) e1 ?_ _).symm
   intro hwt
   obtain⟨o',ho',hd'⟩:=wt_iff.1 hwt
   rw[hi]at ho';cases ho'
   exact hd hd'
 ·by_cases hw:some k∈WO i
  ·have:=h2 (some k) (by simp) hw
   simp only[AgreeAt]at this
   rw[this]
   exact(lastOf_add listed (fun i=>some k∈WO i) (fun i=>(σ i).2.get k) hlt e1 e2 hw (A _ hw)).symm
  ·have:=h3 (some k) (by simp) hw
   simp only[AgreeAt]at this
   rw[this,M.objs k]
   exact(lastOf_skip listed (fun i=>some k∈WO i) (fun i=>(σ i).2.get k) e1 hw _).symm
 ·cases hex:ex with
  | false=>
   rw[h4 hex,M.next,hex];rfl
  | true=>
   simp only[if_true]
   by_cases hw:none∈WO i
   ·have:=h2 none (fun _=>hex) hw
    simp only[AgreeAt]at this
    rw[this]
    exact(lastOf_add listed (fun i=>none∈WO i) (fun i=>(σ i).2.next) hlt e1 e2 hw (A _ hw)).symm
   ·have:=h3 none (fun _=>hex) hw
    simp only[AgreeAt]at this
    have M3:=M.next
    rw[hex]at M3
    simp only[if_true]at M3
    rw[this,M3]
    exact(lastOf_skip listed (fun i=>none∈WO i) (fun i=>(σ i).2.next) e1 hw _).symm
theorem Trace.any (T:Trace P G ops ex σ RO WO) {rd:Option Nat} {mb:Bool} {D:List Deferred} {C0:Ctx} {w0:World} {Q:APost}
  (fin:∀(C:Ctx) (ac:Act) (w:World),C.H.get=(σ ops.size).2.get→(if ex then C.H.next=(σ ops.size).2.next else(σ ops.size).2.next≤C.H.next)→ActRel C (σ ops.size).1 ac→ac.defers=D→Rel G C w→Adv C0 w0 C w→Behind mb D G C0 w0 Q .normal ac w) :
  ∀(fuel:Nat) (listed:Array Bool) (τ:List AV × AHeap) (C:Ctx) (ac:Act) (w:World),listed.size=ops.size→((List.range ops.size).filter fun m => !listed.getD m false).length≤fuel →
   Mid ops ex σ WO (fun m=>listed.getD m false) τ→Closed ops (fun m=>listed.getD m false)→C.H.get=τ.2.get→(if ex then C.H.next=τ.2.next else τ.2.next≤C.H.next)→ActRel C τ.1 ac→ac.defers=D →
   Rel G C w→Adv C0 w0 C w→wpAnyIn (WF rd) 0 P .any ops (Behind mb D G C0 w0 Q) fuel listed ac w:=by
 intro fuel
 have doneOf:∀(listed:Array Bool) (τ:List AV × AHeap) (C:Ctx) (ac:Act) (w:World),(∀m,m<ops.size→listed.getD m false=true)→
   Mid ops ex σ WO (fun m=>listed.getD m false) τ→C.H.get=τ.2.get→(if ex then C.H.next=τ.2.next else τ.2.next≤C.H.next)→ActRel C τ.1 ac→ac.defers=D→Rel G C w→Adv C0 w0 C w→Behind mb D G C0 w0 Q .normal ac w:=by
  intro listed τ C ac w hall M hg hn ha hd R A
  have:=M.done T hall
  subst this
  exact fin C ac w hg hn ha hd R A
 have noneReady:∀(listed:Array Bool),listed.size=ops.size→Region.ready .any ops listed=[]→∀m,m<ops.size→listed.getD m false=true:=by
  intro listed hsz hr m
  induction m using Nat.strongRecOn with
  | _ m ih=>
   intro hm
   cases hlm:listed.getD m false with
   | true=>rfl
   | false=>
    have:m∈Region.ready .any ops listed:=by
     rw[mem_ready]
     refine⟨?_,ops[m],Array.getElem?_eq_getElem hm,fun e he hb=>?_⟩
     ·have hml:m<listed.size:=by omega
      simp[hml]at hlm ⊢
      exact hlm
     ·have:=T.edges m ops[m] (Array.getElem?_eq_getElem hm) e he hb
      exact ih e.on this (by omega)
    rw[hr]at this
    cases this
 induction fuel with
 | zero=>
  intro listed τ C ac w hsz hcnt M hc hg hn ha hd R A
  have hall:∀m,m<ops.size→listed.getD m false=true:=by
   intro m hm
   cases hlm:listed.getD m false with
   | true=>rfl
   | false=>
    have:m∈(List.range ops.size).filter fun m => !listed.getD m false:=by rw[List.mem_filter];exact⟨List.mem_range.2 hm,by rw[hlm];rfl⟩
    have:=List.length_pos_of_mem this
    omega
  refine⟨?_,doneOf listed τ C ac w hall M hg hn ha hd R A⟩
  apply List.eq_nil_iff_forall_not_mem.2
  intro m hm
  obtain⟨h1,o,ho,_⟩:=mem_ready.1 hm
  have hms:m<ops.size:=(Array.getElem?_eq_some_iff.1 ho).1
  have h2:=hall m hms
  have hml:m<listed.size:=by omega
  simp[hml]at h1 h2
  rw[h1]at h2;cases h2
 | succ fuel ih=>
  intro listed τ C ac w hsz hcnt M hc hg hn ha hd R A
  refine⟨fun hr=>doneOf listed τ C ac w (noneReady listed hsz hr) M hg hn ha hd R A,fun i hi=>?_⟩
  obtain⟨h1,o,ho,hr⟩:=mem_ready.1 hi
  have his:i<ops.size:=(Array.getElem?_eq_some_iff.1 ho).1
  have hil:i<listed.size:=by omega
  have hl:listed.getD i false=false:=by simp[hil]at h1 ⊢;exact h1
  obtain⟨r1,r2⟩:=T.reads M hc ho hl hr
  refine T.step i o ho τ M.len r1 r2 rd mb D C0 w0 C w ac A R hg hn ha hd _ Q ?_
  intro τ' C' ac' w' k0 k1 k2 k3 k4 k5 k6 k7 k8 k9
  have e1:∀m,m≠i→(listed.setIfInBounds i true).getD m false=listed.getD m false:=fun m hm=>getD_set_ne false (Ne.symm hm)
  have e2:(listed.setIfInBounds i true).getD i false=true:=by simp[hil]
  have hM':Mid ops ex σ WO (fun m=>(listed.setIfInBounds i true).getD m false) τ':=by
   refine T.moves M hc ho hl e1 e2 k0 k1 k2 k3 ?_
   intro hex
   rw[hex]at k5
   exact k5.2
  refine ih _ τ' C' ac' w' (by simp[hsz]) ?_ hM' ?_ k4 ?_ k6 k7 k8 k9
  ·have:((List.range ops.size).filter fun m => !(listed.setIfInBounds i true).getD m false).length<((List.range ops.size).filter fun m => !listed.getD m false).length:=by
    have hmem:i∈(List.range ops.size).filter fun m => !listed.getD m false:=by rw[List.mem_filter];exact⟨List.mem_range.2 his,by rw[hl];rfl⟩
    have e3:((List.range ops.size).filter fun m => !(listed.setIfInBounds i true).getD m false)=((List.range ops.size).filter fun m => !listed.getD m false).filter fun m=>m != i:=by
     rw[List.filter_filter]
     apply List.filter_congr
     intro m _
     by_cases hm:m=i
     ·subst hm;rw[e2];simp
     ·rw[e1 m hm];simp[hm]
    rw[e3]
    exact List.length_filter_lt_length_iff_exists.2 ⟨i,hmem,by simp⟩
   omega
  ·intro j oj hj hlj e he hb
   by_cases hji:j=i
   ·subst hji
    rw[ho]at hj;cases hj
    exact getD_set_true (hr e he hb)
   ·have hlj':listed.getD j false=true:=by rw[←e1 j hji];exact hlj
    exact getD_set_true (hc j oj hj hlj' e he hb)
  ·cases hex:ex with
   | true=>rw[hex]at k5;simpa using k5
   | false=>
    rw[hex]at k5 hn
    simp only[Bool.false_eq_true,if_false]at k5 hn ⊢
    rw[k5.2]
    exact k5.1
theorem ATrS.draw {id:Nat} {Q:APost} (hm:P.follows .mixedOrders=true) (T:Trace P G ops ex σ RO WO)
  (fin:∀m,(if ex then m=(σ ops.size).2.next else(σ ops.size).2.next≤m)→Q .normal (σ ops.size).1 { (σ ops.size).2 with next:=m }):ATrS P G (.draw id ops) Q (σ 0).1 (σ 0).2:=by
 intro mb _ c hc rd _ C w ac R hH ha D hd
 have hcc:c = .region id ops true:=prep_inv hc
 subst hcc
 have A0:Adv C w C { w with drawn:=w.drawn+1 }:=Adv.same rfl rfl rfl rfl
 refine wpIn_region_any hm (T.any (C0:=C) (w0:=w) ?_ ops.size _ (σ 0) C ac _ (by simp) ?_ ?_ ?_ (by rw[hH]) ?_ ha hd (R.same rfl rfl rfl rfl) A0)
 ·intro C' ac' w' hg hn ha' hd' R' A'
  refine⟨.normal,(σ ops.size).1,C',?_,trivial,ha',Marked.of_eq hd',R',A'⟩
  have:=fin C'.H.next hn
  have e:(⟨C'.H.next,(σ ops.size).2.get⟩:AHeap)=C'.H:=by
   rw[←hg]
  exact e▸this
 ·refine Nat.le_trans (List.length_filter_le _ _) ?_
  simp
 ·have e:(fun m=>(Array.replicate ops.size false).getD m false)=fun _=>false:=by
   funext m
   simp only[Array.getD_eq_getD_getElem?,Array.getElem?_replicate]
   split<;>rfl
  rw[e]
  exact Mid.start T
 ·intro j oj hj hlj
  simp only[Array.getD_eq_getD_getElem?,Array.getElem?_replicate]at hlj
  split at hlj<;>cases hlj
 ·rw[hH];split
  ·rfl
  ·exact Nat.le_refl _
end
end Go.Ab
namespace Go.Ab
open Go Go.Lib
abbrev Foot:=List Place × List Place
theorem ev_agree {ops:Array Oper} {o:Oper} {a a':List AV} (h:∀t,t∈o.looksAt ops→a'[t]?=a[t]?):∀x,x∈o.op.operands→ev a' x=ev a x:=by
 intro x hx
 cases x with
 | tmp t=>
  have:t∈o.looksAt ops:=List.mem_append_left _ (List.mem_filterMap.2 ⟨.tmp t,by simpa using hx,rfl⟩)
  simp only[ev,List.getD,h t this]
 | _=>rfl
theorem opA_congr {P:Program} {G:Nat→Option (List AV)} {J:AHeap} {n n':Nat} {a a':List AV} {o:Op} {F:List Nat × List Nat} (hf:footA n a o=some F) (h:∀x,x∈o.operands→ev a' x=ev a x) (hn:makesA o=true→n'=n) :
  opA P G J n' a' o=opA P G J n a o:=by
 have pairs:∀ps:Array (Nat × Operand),(∀x,x∈(ps.toList.map (·.2)).toArray→ev a' x=ev a x)→(ps.toList.map fun p=>(p.1,ev a' p.2))=(ps.toList.map fun p=>(p.1,ev a p.2)):=by
  intro ps hp
  apply List.map_congr_left
  intro p hm
  rw[hp p.2 (by simp only[List.mem_toArray,List.mem_map];exact⟨p,hm,rfl⟩)]
 have lists:∀xs:Array Operand,(∀x,x∈xs→ev a' x=ev a x)→xs.toList.map (ev a')=xs.toList.map (ev a):=by
  intro xs hx
  apply List.map_congr_left
  intro x hm
  exact hx x (by simpa using hm)
 unfold footA at hf
 split at hf
 case h_1 x=>simp only[opA,h x (by simp[Op.operands])]
 case h_2 x=>simp only[opA,h x (by simp[Op.operands])]
 case h_3 c x y=>simp only[opA,h x (by simp[Op.operands]),h y (by simp[Op.operands]),h c (by simp[Op.operands])]
 case h_4 ps=>simp only[opA,pairs ps h]
 case h_5 x=>simp only[opA,h x (by simp[Op.operands])]
 case h_6 x _=>simp only[opA,h x (by simp[Op.operands])]
 case h_7 x _=>simp only[opA,h x (by simp[Op.operands])]
 case h_8 x y=>simp only[opA,h x (by simp[Op.operands]),h y (by simp[Op.operands])]
 case h_9 x _=>simp only[opA,h x (by simp[Op.operands])]
 case h_10 x=>simp only[opA,h x (by simp[Op.operands])]
 case h_11 x=>simp only[opA,h x (by simp[Op.operands])]
 case h_12 x=>simp only[opA,h x (by simp[Op.operands])]
 case h_13 x y _=>simp only[opA,h x (by simp[Op.operands]),h y (by simp[Op.operands])]
 case h_14 x lo hi mx=>
  have e:∀z:Option Operand,(∀x,x∈z.toArray→ev a' x=ev a x)→z.map (ev a')=z.map (ev a):=by
   intro z hz
   cases z with
   | none=>rfl
   | some z=>simp[hz z (by simp)]
  simp only[opA,h x (by simp[Op.operands]),e lo (fun x hx=>h x (by simp only[Op.operands,Array.mem_append];simp_all)),e hi (fun x hx=>h x (by simp only[Op.operands,Array.mem_append];simp_all)),e mx (fun x hx=>h x (by simp only[Op.operands,Array.mem_append];simp_all))]
 case h_15 x y=>simp only[opA,h x (by simp[Op.operands]),h y (by simp[Op.operands])]
 case h_16 x y=>simp only[opA,h x (by simp[Op.operands]),h y (by simp[Op.operands])]
 case h_17 ps=>simp only[opA,pairs ps h,hn rfl]
 case h_18 args at_=>
  have e:=lists args (fun x hx=>h x (by simp[Op.operands,Call.operands,hx]))
  have e2:∀l ts,builtinA P J n' .len ts l=builtinA P J n .len ts l:=by
   intro l ts
   unfold builtinA
   split<;>first | rfl | contradiction
  simp only[opA,e,e2]
 case h_19 args at_=>
  have e:=lists args (fun x hx=>h x (by simp[Op.operands,Call.operands,hx]))
  simp only[opA,e,hn rfl]
 case h_20 e=>simp only[opA,hn rfl]
 case h_21 m x _=>simp only[opA,h m (by simp[Op.operands]),h x (by simp[Op.operands])]
 case h_22 e x=>simp only[opA,h x (by simp[Op.operands]),hn rfl]
 case h_23=>simp only[opA,hn rfl]
 case h_24 t x y=>simp only[opA,h x (by simp[Op.operands]),h y (by simp[Op.operands]),hn rfl]
 case h_25=>cases hf
def LCalls (P:Program) (G:Nat→Option (List AV)) (f:FuncId) (args:List AV) (H:AHeap) (R W:List Nat) (v:AV) (Hg:Nat→Option AObj):Prop:=
 bodyT P f=true∧(∀k,k ∉ W→Hg k=H.get k) ∧
 ∀J:AHeap,(∀k,k∈R→J.get k=H.get k)→ACalls P G f args J fun r J'=>r = .ret v∧(∀k,k∈W→J'.get k=Hg k)∧(∀k,k ∉ W→J'.get k=J.get k)∧J.next≤J'.next
theorem LCalls.pure {P:Program} {G:Nat→Option (List AV)} {f:FuncId} {args:List AV} {H:AHeap} {v:AV} (hb:bodyT P f=true) (h:PureCall P G f args v):LCalls P G f args H [] [] v H.get:=
 ⟨hb,fun _ _=>rfl,fun J _=>(h J).mono fun r J' hr=>⟨hr.1,fun k hk=>absurd hk (by simp),fun k _=>by rw[hr.2.2],hr.2.1⟩⟩
def callW (P:Program) (G:Nat→Option (List AV)) (ex:Bool) (g:FuncId) (args:List AV) (H:AHeap) (d:Option Tmp) (a:List AV) (next:List AV→AHeap→Foot→Prop):Prop:=
 ex=false∧∃R W v Hg,LCalls P G g args H R W v Hg∧next (putA a d v) ⟨H.next,Hg⟩ (R.map some,W.map some)
def fNext (ex:Bool) (mk:Bool) (next:List AV→AHeap→Foot→Prop) (d:Option Tmp) (a:List AV) (p:AV × AHeap) (F:List Nat × List Nat):Prop:=
 (mk=true→ex=true)∧next (putA a d p.1) p.2 (F.1.map some++(bif mk then [none]else []),F.2.map some++(bif mk then [none]else []))
def oNext (ex:Bool) (op:Op) (n:Nat) (next:List AV→AHeap→Foot→Prop) (d:Option Tmp) (a:List AV) (p:AV × AHeap):Prop:=must (footA n a op) (fNext ex (makesA op) next d a p)
def stepW (P:Program) (G:Nat→Option (List AV)) (ex:Bool) (op:Op) (d:Option Tmp) (a:List AV) (H:AHeap) (next:List AV→AHeap→Foot→Prop):Prop:=
 match op with
 | .call { callee := .value f,args,.. }=>match ev a f with
  | .func g caps=>callW P G ex g (args.toList.map (ev a)++caps) H d a next
  | _=>False
 | .panic _=>False
 | op=>must (opA P G H H.next a op) (oNext ex op H.next next d a)
def drawW (P:Program) (G:Nat→Option (List AV)) (ex:Bool) (K:List AV→AHeap→List Foot→Prop):List MOp→List AV→AHeap→List Foot→Prop
 | [],a,H,log=>K a H log
 | o::rest,a,H,log=>match o.g with
  | none=>stepW P G ex o.op o.d a H fun a' H' F=>drawW P G ex K rest a' H' (log++[F])
  | some (d,want)=>match a.getD d .und with
   | .bool b=>(b=want→stepW P G ex o.op o.d (a.set d (.bool want)) H fun a' H' F=>drawW P G ex K rest a' H' (log++[F])) ∧
     (b = !want→drawW P G ex K rest (putA (a.set d (.bool (!want))) o.d (.tup [])) H (log++[([],[])]))
   | .tup []=>drawW P G ex K rest (putA a o.d (.tup [])) H (log++[([],[])])
   | _=>False
structure StepOk (P:Program) (G:Nat→Option (List AV)) (ops:Array Oper) (ex:Bool) (i:Nat) (o:Oper) (s s':List AV × AHeap) (F:Foot):Prop where
 step:∀(τ:List AV × AHeap),τ.1.length=s.1.length→(∀t,t∈o.looksAt ops→τ.1[t]?=s.1[t]?)→(∀l,l∈F.1→AgreeAt s.2 τ.2 l) →
  ∀(rd:Option Nat) (mb:Bool) (D:List Deferred) (C0:Ctx) (w0:World) (C:Ctx) (w:World) (ac:Act),Adv C0 w0 C w→Rel G C w→C.H.get=τ.2.get→(if ex then C.H.next=τ.2.next else τ.2.next≤C.H.next)→ActRel C τ.1 ac→ac.defers=D →
  ∀(N:Act→World→Prop) (Q:APost),
   (∀(τ':List AV × AHeap) (C':Ctx) (ac':Act) (w':World),τ'.1.length=s.1.length→(∀t,τ'.1[t]?=if o.dst=some t then s'.1[t]? else τ.1[t]?) →
    (∀l,(l=none→ex=true)→l∈F.2→AgreeAt s'.2 τ'.2 l)→(∀l,(l=none→ex=true)→l ∉ F.2→AgreeAt τ.2 τ'.2 l) →
    C'.H.get=τ'.2.get→(if ex then C'.H.next=τ'.2.next else τ.2.next≤C'.H.next∧τ'.2.next=τ.2.next)→ActRel C' τ'.1 ac'→ac'.defers=D→Rel G C' w'→Adv C0 w0 C' w'→N ac' w') →
   wpOpIn (WF rd) 0 P ops (Behind mb D G C0 w0 Q) i N ac w
 keepT:∀t,o.dst≠some t→s'.1[t]?=s.1[t]?
 keepO:∀l,(l=none→ex=true)→l ∉ F.2→AgreeAt s.2 s'.2 l
 nextLe:ex=false→s'.2.next=s.2.next
 len:s'.1.length=s.1.length
theorem putA_len (a:List AV) (d:Option Tmp) (v:AV):(putA a d v).length=a.length:=by cases d<;>simp[putA]
theorem putA_keep (a:List AV) (d:Option Tmp) (v:AV) (t:Tmp) (h:d≠some t):(putA a d v)[t]?=a[t]?:=by
 cases d with
 | none=>rfl
 | some d=>simp only[putA];rw[List.getElem?_set_ne];intro e;exact h (by rw[e])
theorem putA_both {a b:List AV} {d:Option Tmp} {v:AV} (hl:a.length=b.length) (t:Tmp):(putA a d v)[t]?=if d=some t then(putA b d v)[t]? else a[t]?:=by
 split
 ·rename_i h;subst h
  simp only[putA,List.getElem?_set_self',List.getElem?_set]
  by_cases ht:t<a.length
  ·have hb:t<b.length:=hl▸ht
   simp[ht,hb]
  ·have hb:¬t<b.length:=hl▸ht
   simp[ht,hb]
 ·rename_i h;exact putA_keep _ _ _ _ h
section
variable {P:Program} {G:Nat→Option (List AV)} {ops:Array Oper} {ex:Bool}
theorem stepW_ok {o:Oper} {i:Nat} (hi:ops[i]?=some o) {a:List AV} {H:AHeap} {next:List AV→AHeap→Foot→Prop} (h:stepW P G ex o.op o.dst a H next)
  (hw:∀{C:Ctx} {b:List AV} {ac:Act},ActRel C b ac→(∀t,t∈o.looksAt ops→b[t]?=a[t]?)→Region.wanted o (yielded ops ac.tmps)=true) :
  ∃s' F,StepOk P G ops ex i o (a,H) s' F∧next s'.1 s'.2 F:=by
 have fin:∀(v:AV) (s2:AHeap) (R W:List Nat) (mk:Bool),(mk=true→ex=true)→(mk=false→s2.next=H.next)→(∀k,k ∉ W→s2.get k=H.get k) →
   (∀(τ:List AV × AHeap),(∀t,t∈o.looksAt ops→τ.1[t]?=a[t]?)→∀J:AHeap,(∀k,k∈R→J.get k=H.get k)→(mk=true→J.next=H.next)→∀(nx:List AV→AHeap→Prop) (Q:APost),
    (∀J':AHeap,(∀k,k∈W→J'.get k=s2.get k)→(∀k,k ∉ W→J'.get k=J.get k)→(mk=true→J'.next=s2.next)→(mk=false→J.next≤J'.next∧(ex=true→J'.next=J.next))→nx (putA τ.1 o.dst v) J') →
    opS P G o.op o.dst τ.1 J nx Q) →
   StepOk P G ops ex i o (a,H) (putA a o.dst v,s2) (R.map some++(bif mk then [none]else []),W.map some++(bif mk then [none]else [])):=by
  intro v s2 R W mk hmk hnm hWk hop
  refine⟨?_,fun t ht=>putA_keep _ _ _ _ ht,?_,?_,putA_len _ _ _⟩
  ·intro τ hl ht hr rd mb D C0 w0 C w ac A Rr hg hn ha hd N Q hN
   unfold wpOpIn
   simp only[hi]
   rw[if_pos (hw ha ht)]
   refine(awpOp_ok (a:=τ.1) (H:=C.H) (next:=fun a' H'=>a'=putA τ.1 o.dst v∧((∀k,k∈W→H'.get k=s2.get k)∧(∀k,k ∉ W→H'.get k=C.H.get k)∧(mk=true→H'.next=s2.next)∧(mk=false→C.H.next≤H'.next∧(ex=true→H'.next=C.H.next)))) A Rr rfl ha hd ?_ ?_)
   ·rintro a' C' ac' w' ⟨rfl,h1,h2,h3,h4⟩ ha' hd' R' A'
    refine hN (putA τ.1 o.dst v,bif ex then C'.H else⟨τ.2.next,C'.H.get⟩) C' ac' w' ?_ ?_ ?_ ?_ ?_ ?_ ha' hd' R' A'
    ·simp only[putA_len];exact hl
    ·intro t;exact putA_both hl t
    ·intro l hl' hlw
     simp only[List.mem_append,List.mem_map]at hlw
     rcases hlw with ⟨k,hk,rfl⟩ | hlw
     ·simp only[AgreeAt]
      cases ex<;>exact h1 k hk
     ·cases mk with
      | false=>simp at hlw
      | true=>
       simp at hlw;subst hlw
       have hex:=hmk rfl
       subst hex
       exact h3 rfl
    ·intro l hl' hlw
     simp only[List.mem_append,List.mem_map,not_or,not_exists,not_and]at hlw
     cases l with
     | some k=>
      have hkW:k ∉ W:=fun hk=>hlw.1 k hk rfl
      simp only[AgreeAt]
      have e:=h2 k hkW
      rw[hg]at e
      cases ex<;>exact e
     | none=>
      have hex:=hl' rfl
      subst hex
      cases mk with
      | true=>exact absurd (by simp) hlw.2
      | false=>
       simp only[AgreeAt,cond_true,if_true]at hn ⊢
       rw[(h4 rfl).2 rfl,hn]
    ·cases ex<;>rfl
    ·cases ex with
     | true=>simp
     | false=>
      simp only[Bool.false_eq_true,if_false,cond_false]at hn ⊢
      refine⟨?_,trivial⟩
      cases mk with
      | false=>have:=(h4 rfl).1;omega
      | true=>exact absurd (hmk rfl) (by simp)
   ·refine hop τ ht C.H ?_ ?_ _ Q ?_
    ·intro k hk
     have:=hr (some k) (by simp only[List.mem_append,List.mem_map];exact .inl ⟨k,hk,rfl⟩)
     rw[hg];exact this
    ·intro hm
     have hex:=hmk hm
     have:=hr none (by simp[hm])
     simp only[hex,if_true]at hn
     rw[hn];exact this
    ·intro J' h1 h2 h3 h4
     exact⟨rfl,h1,h2,h3,h4⟩
  ·intro l hl hlw
   simp only[List.mem_append,List.mem_map,not_or,not_exists,not_and]at hlw
   cases l with
   | some k=>exact hWk k fun hk=>hlw.1 k hk rfl
   | none=>
    cases mk with
    | true=>exact absurd (by simp) hlw.2
    | false=>exact hnm rfl
  ·intro hex
   cases mk with
   | true=>exact absurd ((hmk rfl).symm.trans hex) (by simp)
   | false=>exact hnm rfl
 unfold stepW at h
 split at h
 ·rename_i f args at_ heq
  split at h
  case h_2=>exact h.elim
  rename_i g caps hf
  obtain⟨hex,R,W,v,Hg,⟨hb,hk,hc⟩,hn⟩:=h
  have S:=fin v ⟨H.next,Hg⟩ R W false (by simp) (fun _=>rfl) hk ?_
  ·simp only[cond_false,List.append_nil]at S
   exact⟨_,_,S,hn⟩
  ·intro τ ht J hJ _ nx Q hnx
   have hops:=ev_agree (o:=o) ht
   rw[heq]at hops
   have e1:ev τ.1 f = .func g caps:=by rw[hops f (by simp[Op.operands,Call.operands]),hf]
   have e2:args.toList.map (ev τ.1)=args.toList.map (ev a):=by
    apply List.map_congr_left
    intro x hm
    exact hops x (by simp only[Op.operands,Call.operands,Array.mem_append];simp_all)
   simp only[opS,heq,e1,e2]
   refine AInv.call hb (hc J hJ) ?_
   rintro r J' ⟨rfl,h1,h2,h3⟩
   exact hnx J' h1 h2 (by simp) fun _=>⟨h3,fun e=>absurd (hex.symm.trans e) (by simp)⟩
 ·exact h.elim
 ·rename_i hnc hnp
  obtain⟨⟨v,H'⟩,ho,⟨R,W⟩,hfo,hmk,hn⟩:=h
  obtain⟨_,_,_,h3,_,h5⟩:=opA_local (J:=H) hfo (fun _ _=>rfl) (fun _=>rfl) ho
  refine⟨_,_,fin v H' R W (makesA o.op) hmk (fun hm=>(h5 hm).2) h3 ?_,hn⟩
  intro τ ht J hJ hJn nx Q hnx
  obtain⟨J',g1,g2,g3,g4,g5⟩:=opA_local (J:=J) hfo hJ hJn ho
  have e:=opA_congr (P:=P) (G:=G) (J:=J) (n':=J.next) (a':=τ.1) hfo (ev_agree (o:=o) ht) hJn
  unfold opS
  split
  ·rename_i heq;exact absurd heq (hnc _ _ _)
  ·rename_i heq;exact absurd heq (hnp _)
  ·refine⟨(v,J'),e.trans g1,hnx J' g2.write g2.other g4 fun hm=>⟨?_,fun _=>(g5 hm).1⟩⟩
   rw[(g5 hm).1];exact Nat.le_refl _
theorem skipW_ok {o:Oper} {i:Nat} (hi:ops[i]?=some o) {a:List AV} {H:AHeap}
  (hw:∀{C:Ctx} {b:List AV} {ac:Act},ActRel C b ac→(∀t,t∈o.looksAt ops→b[t]?=a[t]?)→Region.wanted o (yielded ops ac.tmps)=false) :
  StepOk P G ops ex i o (a,H) (putA a o.dst (.tup []),H) ([],[]):=by
 refine⟨?_,fun t ht=>putA_keep _ _ _ _ ht,?_,fun _=>rfl,putA_len _ _ _⟩
 ·intro τ hl ht hr rd mb D C0 w0 C w ac A Rr hg hn ha hd N Q hN
  unfold wpOpIn
  simp only[hi]
  rw[if_neg (by rw[hw ha ht];simp)]
  refine⟨fun _ _=>trivial,?_⟩
  refine hN (putA τ.1 o.dst (.tup []),τ.2) C _ w ?_ ?_ ?_ ?_ hg ?_ (ha.put o.dst (vr_undef C)) (by rw[put_defers];exact hd) Rr A
  ·simp only[putA_len];exact hl
  ·intro t;exact putA_both hl t
  ·intro l _ hlw;cases hlw
  ·intro l _ _
   cases l<;>rfl
  ·cases ex with
   | true=>exact hn
   | false=>exact⟨hn,rfl⟩
 ·intro l _ _
  cases l<;>rfl
def mayWrite:Op→Bool
 | .store _ _ _ | .buildSlice _ _ _ | .alloc _ | .box _ _ | .makeMap _ _ | .makeSlice _ _ _=>true
 | .call { callee := .builtin .append,.. }=>true
 | .call { callee := .value _,.. }=>true
 | _=>false
def touches:Op→Bool
 | .move _ | .assign _ | .pick _ _ _ | .build _ _ | .unOp _ _ _ | .fieldAddr _ _ _ | .field _ _ _ | .index _ _ _ | .extract _ _ | .nilCheck _ | .makeInterface _ _=>false
 | .call { callee := .builtin .len,.. }=>false
 | _=>true
structure FootOk (op:Op) (F:Foot):Prop where
 w:mayWrite op=false→F.2=[]
 r:touches op=false→F=([],[])
theorem stepW_foot {op:Op} {d:Option Tmp} {a:List AV} {H:AHeap} {next:List AV→AHeap→Foot→Prop} (h:stepW P G ex op d a H next):stepW P G ex op d a H fun a' H' F=>next a' H' F∧FootOk op F:=by
 unfold stepW at h ⊢
 split at h
 ·split at h
  ·obtain⟨hex,R,W,v,Hg,hc,hn⟩:=h
   exact⟨hex,R,W,v,Hg,hc,hn,⟨by simp[mayWrite],by simp[touches]⟩⟩
  ·exact h.elim
 ·exact h.elim
 ·obtain⟨p,hp,F,hF,hm,hn⟩:=h
  refine⟨p,hp,F,hF,hm,hn,?_⟩
  clear hn hp hm
  unfold footA at hF
  split at hF
  case h_18=>
   split at hF
   ·split at hF
    ·cases hF
    ·cases hF;exact⟨fun _=>rfl,fun _=>rfl⟩
   ·cases hF
  case h_19=>exact⟨by simp[mayWrite],by simp[touches]⟩
  case h_25=>cases hF
  all_goals (cases hF;first | exact⟨fun _=>rfl,fun _=>rfl⟩ | exact⟨fun _=>rfl,by simp[touches]⟩ | exact⟨by simp[mayWrite],by simp[touches]⟩)
theorem set_self {a:List AV} {d:Nat} {b:Bool} (hb:a.getD d .und = .bool b):a.set d (.bool b)=a:=by
 apply List.ext_getElem?
 intro j
 rw[List.getElem?_set]
 by_cases hj:d=j
 ·subst hj
  cases hx:a[d]? with
  | none=>simp[List.getD,hx]at hb
  | some x=>
   simp only[List.getD,hx,Option.getD_some]at hb
   subst hb
   simp[(List.getElem?_eq_some_iff.1 hx).1]
 ·simp[hj]
theorem drawW_chain {K:List AV→AHeap→List Foot→Prop}:∀(os:List Oper) (i:Nat),(∀k o,os[k]?=some o→ops[i+k]?=some o)→∀(a:List AV) (H:AHeap) (log:List Foot),
  drawW P G ex K (os.map (prepOp ops)) a H log→∃(σ:Nat→List AV × AHeap) (RW:Nat→Foot),σ 0=(a,H) ∧
   (∀k o,os[k]?=some o→StepOk P G ops ex (i+k) o (σ k) (σ (k+1)) (RW k)∧FootOk o.op (RW k))∧K (σ os.length).1 (σ os.length).2 (log++(List.range os.length).map RW)
 | [],i,_,a,H,log,h=>⟨fun _=>(a,H),fun _=>([],[]),rfl,fun k o hk=>by simp at hk,by simpa[drawW]using h⟩
 | o::os,i,hos,a,H,log,h=>by
  have hi:ops[i]?=some o:=hos 0 o rfl
  have hos':∀k o,os[k]?=some o→ops[(i+1)+k]?=some o:=fun k o' hk=>by
   have:=hos (k+1) o' (by simpa using hk)
   rw[←this];congr 1;omega
  have glue:∀(s':List AV × AHeap) (F:Foot),StepOk P G ops ex i o (a,H) s' F→FootOk o.op F→drawW P G ex K (os.map (prepOp ops)) s'.1 s'.2 (log++[F]) →
    ∃(σ:Nat→List AV × AHeap) (RW:Nat→Foot),σ 0=(a,H)∧(∀k o',(o::os)[k]?=some o'→StepOk P G ops ex (i+k) o' (σ k) (σ (k+1)) (RW k)∧FootOk o'.op (RW k)) ∧
     K (σ (o::os).length).1 (σ (o::os).length).2 (log++(List.range (o::os).length).map RW):=by
   intro s' F hs hf hd
   obtain⟨σ,RW,h0,h1,h2⟩:=drawW_chain os (i+1) hos' s'.1 s'.2 _ hd
   refine⟨fun | 0=>(a,H) | k+1=>σ k,fun | 0=>F | k+1=>RW k,rfl,?_,?_⟩
   ·intro k o' hk
    cases k with
    | zero=>
     simp only[List.getElem?_cons_zero,Option.some.injEq]at hk
     subst hk
     refine⟨?_,hf⟩
     show StepOk P G ops ex i o (a,H) (σ 0) F
     rw[h0];exact hs
    | succ k=>
     have:=h1 k o' (by simpa using hk)
     rw[show i+1+k=i+(k+1) by omega]at this
     exact this
   ·simp only[List.length_cons,List.range_succ_eq_map,List.map_cons,List.map_map]
    simp only[List.append_assoc,List.singleton_append]at h2
    exact h2
  simp only[List.map_cons,drawW]at h
  cases hg:o.guard with
  | none=>
   simp only[prepOp,hg]at h
   obtain⟨s',F,hs,hn,hf⟩:=stepW_ok (o:=o) hi (stepW_foot h) (fun _ _=>by simp only[Region.wanted,hg])
   exact glue s' F hs hf hn
  | some p=>
   obtain⟨j,want⟩:=p
   simp only[prepOp,hg]at h
   cases hd:(ops[j]?).bind (·.dst)with
   | none=>simp only[hd,stepW]at h
   | some d=>
    simp only[hd]at h
    have hla:d∈o.looksAt ops:=List.mem_append_right _ (by simp only[hg,hd];simp)
    split at h
    case h_3=>exact h.elim
    case h_2=>
     rename_i hb
     refine glue _ _ (skipW_ok hi (fun {C b' ac} ha ht=>?_)) ⟨fun _=>rfl,fun _=>rfl⟩ h
     have:b'.getD d .und = .tup []:=by rw[←hb];simp only[List.getD,ht d hla]
     simp only[Region.wanted,hg,rel_skip ha hd this]
     cases want<;>rfl
    rename_i b hb
    have hy:∀{C:Ctx} {b':List AV} {ac:Act},ActRel C b' ac→(∀t,t∈o.looksAt ops→b'[t]?=a[t]?)→yielded ops ac.tmps j=some b:=by
     intro C b' ac ha ht
     have:b'.getD d .und = .bool b:=by rw[←hb];simp only[List.getD,ht d hla]
     unfold yielded
     rw[hd]
     simp only[Option.bind_some,rel_getD ha this]
    by_cases hbw:b=want
    ·subst hbw
     have h1:=h.1 rfl
     rw[set_self hb]at h1
     obtain⟨s',F,hs,hn,hf⟩:=stepW_ok (o:=o) hi (stepW_foot h1) (fun ha ht=>by simp only[Region.wanted,hg,hy ha ht];cases b<;>rfl)
     exact glue s' F hs hf hn
    ·have hbn:b = !want:=by cases b<;>cases want<;>simp_all
     have h1:=h.2 hbn
     rw[←hbn,set_self hb]at h1
     exact glue _ _ (skipW_ok hi (fun ha ht=>by simp only[Region.wanted,hg,hy ha ht,hbn];cases want<;>rfl)) ⟨fun _=>rfl,fun _=>rfl⟩ h1
def drawPlan (ops:Array Oper):Option (List (Nat × Nat)):=
 if(List.range ops.size).all (fun j=>match ops[j]? with
   | some oj=>oj.after.toList.all (fun e => !Region.binds .any e||decide (e.on<j))&&(List.range j).all (fun i=>match ops[i]? with
    | some oi=>forcedB ops i j||oi.apart ops oj
    | none=>true)
   | none=>true)then
  some ((List.range ops.size).flatMap fun j=>(List.range j).filterMap fun i=>match ops[i]?,ops[j]? with
   | some oi,some oj=>if forcedB ops i j || !(touches oi.op&&touches oj.op&&(mayWrite oi.op||mayWrite oj.op))then none else some (i,j)
   | _,_=>none)
 else none
def footApart (F F':Foot):Prop:=(∀l,l∈F.2→l ∉ F'.1∧l ∉ F'.2)∧(∀l,l∈F.1→l ∉ F'.2)
def pairsOk:List (Nat × Nat)→List Foot→Prop
 | [],_=>True
 | p::ps,log=>footApart (log.getD p.1 ([],[])) (log.getD p.2 ([],[]))∧pairsOk ps log
theorem pairsOk_mem {log:List Foot}:∀{ps:List (Nat × Nat)},pairsOk ps log→∀p,p∈ps→footApart (log.getD p.1 ([],[])) (log.getD p.2 ([],[]))
 | [],_,p,hp=>by cases hp
 | q::ps,h,p,hp=>by
  rcases List.mem_cons.1 hp with rfl | hp
  ·exact h.1
  ·exact pairsOk_mem h.2 p hp
theorem drawPlan_spec {pairs:List (Nat × Nat)} (h:drawPlan ops=some pairs) :
  (∀j oj,ops[j]?=some oj→∀e∈oj.after,Region.binds .any e=true→e.on<j) ∧
  (∀i j oi oj,i<j→ops[i]?=some oi→ops[j]?=some oj→forcedB ops i j=true∨oi.apart ops oj=true) ∧
  (∀i j oi oj,i<j→ops[i]?=some oi→ops[j]?=some oj→forcedB ops i j=true∨(touches oi.op=false∨touches oj.op=false∨(mayWrite oi.op=false∧mayWrite oj.op=false))∨(i,j)∈pairs):=by
 unfold drawPlan at h
 split at h
 case isFalse=>cases h
 rename_i hc
 cases h
 have hj:∀(j:Nat) (oj:Oper),ops[j]?=some oj→oj.after.toList.all (fun e => !Region.binds .any e||decide (e.on<j))=true∧∀i,i<j→∀oi,ops[i]?=some oi→(forcedB ops i j||oi.apart ops oj)=true:=by
  intro j oj hoj
  have hlt:j<ops.size:=(Array.getElem?_eq_some_iff.1 hoj).1
  have:=List.all_eq_true.1 hc j (List.mem_range.2 hlt)
  simp only[hoj,Bool.and_eq_true]at this
  refine⟨this.1,fun i hi oi hoi=>?_⟩
  have:=List.all_eq_true.1 this.2 i (List.mem_range.2 hi)
  simpa only[hoi]using this
 refine⟨?_,?_,?_⟩
 ·intro j oj hoj e he hb
  have:=List.all_eq_true.1 (hj j oj hoj).1 e (by simpa using he)
  simpa[hb]using this
 ·intro i j oi oj hij hoi hoj
  have:=(hj j oj hoj).2 i hij oi hoi
  simpa using this
 ·intro i j oi oj hij hoi hoj
  have hlt:j<ops.size:=(Array.getElem?_eq_some_iff.1 hoj).1
  by_cases hq:(forcedB ops i j || !(touches oi.op&&touches oj.op&&(mayWrite oi.op||mayWrite oj.op)))=true
  ·simp only[Bool.or_eq_true,Bool.not_eq_true',Bool.and_eq_false_iff,Bool.or_eq_false_iff]at hq
   rcases hq with hq | (hq | hq) | hq
   ·exact .inl hq
   ·exact .inr (.inl (.inl hq))
   ·exact .inr (.inl (.inr (.inl hq)))
   ·exact .inr (.inl (.inr (.inr hq)))
  ·refine .inr (.inr (List.mem_flatMap.2 ⟨j,List.mem_range.2 hlt,List.mem_filterMap.2 ⟨i,List.mem_range.2 hij,?_⟩⟩))
   simp only[hoi,hoj]
   rw[if_neg hq]
def drawEnd (pairs:List (Nat × Nat)) (ex:Bool) (Q:APost) (a:List AV) (H:AHeap) (log:List Foot):Prop:=pairsOk pairs log∧∀m,(if ex then m=H.next else H.next≤m)→Q .normal a { H with next:=m }
theorem drawW_ok {id:Nat} {Q:APost} {a:List AV} {H:AHeap} (hm:P.follows .mixedOrders=true) {L:List MOp} {pairs:List (Nat × Nat)} (hL:ops.toList.map (prepOp ops)=L) (hp:drawPlan ops=some pairs)
  (h:drawW P G ex (drawEnd pairs ex Q) L a H []):ATrS P G (.draw id ops) Q a H:=by
 subst hL
 obtain⟨σ,RW,h0,h1,hpo,hq⟩:=drawW_chain ops.toList 0 (fun k o hk=>by simpa using hk) a H [] h
 obtain⟨p1,p2,p3⟩:=drawPlan_spec hp
 simp only[Array.length_toList]at hq hpo
 have hstep:∀(i:Nat) (o:Oper),ops[i]?=some o→StepOk P G ops ex i o (σ i) (σ (i+1)) (RW i)∧FootOk o.op (RW i):=by
  intro i o hi
  have:=h1 i o (by simpa using hi)
  simpa using this
 have hlen:∀i,i≤ops.size→(σ i).1.length=(σ 0).1.length:=by
  intro i
  induction i with
  | zero=>intro _;rfl
  | succ i ih=>
   intro hi
   rw[(hstep i ops[i] (Array.getElem?_eq_getElem (by omega))).1.len,ih (by omega)]
 have T:Trace P G ops ex σ (fun i=>(RW i).1) (fun i=>(RW i).2):=by
  refine⟨hlen,?_,?_,?_,?_,?_,p1⟩
  ·intro i o hi τ hl ht hr rd mb D C0 w0 C w ac A Rr hg hn ha hd N Q hN
   have hlt:i<ops.size:=(Array.getElem?_eq_some_iff.1 hi).1
   have e:=hlen i (by omega)
   exact(hstep i o hi).1.step τ (by rw[hl,e]) ht hr rd mb D C0 w0 C w ac A Rr hg hn ha hd N Q fun τ' C' ac' w' k0=>hN τ' C' ac' w' (by rw[k0,e])
  ·intro i o hi;exact(hstep i o hi).1.keepT
  ·intro i hi;exact(hstep i ops[i] (Array.getElem?_eq_getElem hi)).1.keepO
  ·intro hex i hi;exact(hstep i ops[i] (Array.getElem?_eq_getElem hi)).1.nextLe hex
  ·intro i j oi oj hij hoi hoj
   rcases p2 i j oi oj hij hoi hoj with hf | hap
   ·exact .inl hf
   rcases p3 i j oi oj hij hoi hoj with hf | hq | hin
   ·exact .inl hf
   ·refine .inr ⟨hap,?_⟩
    have fi:=(hstep i oi hoi).2
    have fj:=(hstep j oj hoj).2
    rcases hq with h | h | ⟨h,h'⟩
    ·have:=fi.r h
     simp[this]
    ·have:=fj.r h
     simp[this]
    ·have e1:=fi.w h
     have e2:=fj.w h'
     simp[e1,e2]
   ·refine .inr ⟨hap,?_⟩
    have hlt:j<ops.size:=(Array.getElem?_eq_some_iff.1 hoj).1
    have hlt':i<ops.size:=by omega
    have:=pairsOk_mem hpo _ hin
    simp only[List.nil_append,List.getD,List.getElem?_map,List.getElem?_range hlt,List.getElem?_range hlt',Option.map_some,Option.getD_some]at this
    exact this
 have:=ATrS.draw (id:=id) hm T hq
 rw[h0]at this
 exact this
def drawEndF (pairs:List (Nat × Nat)) (Q:APost) (a:List AV) (H:AHeap) (log:List Foot):Prop:=pairsOk pairs log∧Q .normal a H
theorem drawW_fixed {id:Nat} {Q:APost} {a:List AV} {H:AHeap} (hm:P.follows .mixedOrders=true) {L:List MOp} {pairs:List (Nat × Nat)} (hL:ops.toList.map (prepOp ops)=L) (hp:drawPlan ops=some pairs)
  (h:drawW P G true (drawEndF pairs Q) L a H []):ATrS P G (.draw id ops) Q a H:=by
 refine drawW_ok (ex:=true) hm hL hp ?_
 have e:drawEnd pairs true Q=drawEndF pairs Q:=by
  funext a' H' log
  simp[drawEnd,drawEndF]
 rw[e]
 exact h
end
end Go.Ab
