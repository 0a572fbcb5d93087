/- A logic over the kit's 'Calls' and 'Code.wp': statements whose order is open and that make several objects: each at a number that was kept back. -/
import Derived.Test.YtojncnpmlhhccaaGreatDoorAbC
set_option linter.all false
namespace Go.Ab
open Go Go.Lib
def makesH:Op→Bool
 | .alloc _=>true
 | .box _ _=>true
 | .makeMap _ none=>true
 | .makeSlice _ _ _=>true
 | .buildSlice _ _ _=>true
 | _=>false
section
variable {P:Program} {G:Nat→Option (List AV)} {ops:Array Oper}
theorem makeH_form {op:Op} (hm:makesH op=true) {A:Nat} {a:List AV} {H H':AHeap} {v:AV} (h:opA P G H A a op=some (v,H')):∃ob,H'=H.allocAt A ob∧∀J:AHeap,opA P G J A a op=some (v,J.allocAt A ob):=by
 unfold makesH at hm
 split at hm
 ·simp only[opA,Option.map_eq_some_iff,Prod.mk.injEq]at h ⊢
  obtain⟨z,hz,rfl,rfl⟩:=h
  exact⟨_,rfl,fun J=>⟨z,hz,rfl,rfl⟩⟩
 ·simp only[opA]at h ⊢
  split at h
  case isFalse=>cases h
  rename_i hb
  cases h
  exact⟨_,rfl,fun J=>by rw[if_pos hb]⟩
 ·simp only[opA]at h ⊢
  cases h
  exact⟨_,rfl,fun J=>rfl⟩
 ·rename_i t l c
  simp only[opA,makeA]at h ⊢
  split at h
  case h_2=>cases h
  rename_i kl l' kc c' e size b h1 h2 h3
  split at h
  case h_2=>cases h
  rename_i z hz
  split at h
  case isFalse=>cases h
  rename_i hc
  cases h
  refine⟨_,rfl,fun J=>?_⟩
  simp only[h1,h2,h3,hz,if_pos hc]
 ·rename_i t len parts
  simp only[opA,sliceLit]at h ⊢
  split at h
  ·cases h
  rename_i e he
  split at h
  case h_2=>cases h
  rename_i z size hz hs
  split at h
  case isFalse=>cases h
  rename_i hc
  simp only[Option.map_eq_some_iff,Prod.mk.injEq]at h
  obtain⟨cells,hf,rfl,rfl⟩:=h
  refine⟨_,rfl,fun J=>?_⟩
  simp only[he,hz,hs,if_pos hc,hf,Option.map_some]
 ·cases hm
theorem makesH_foot {op:Op} (hm:makesH op=true) (n:Nat) (a:List AV):footA n a op=some ([n],[n])∧(∀c,op ≠ .defer c):=by
 unfold makesH at hm
 split at hm<;>first | exact⟨rfl,fun c h=>by cases h⟩ | cases hm
theorem heldMake_ok {o:Oper} {i:Nat} (hi:ops[i]?=some o) (hm:makesH o.op=true) {a:List AV} {H H2:AHeap} {A:Nat} {v:AV} (hA:H.get A=some .held) (hop:opA P G H A a o.op=some (v,H2))
  (hw:∀{C:Ctx} {b:List AV} {ac:Act},ActRel C b ac→(∀t,t∈o.looksAt ops→b[t]?=a[t]?)→Region.wanted o (yielded ops ac.tmps)=true) :
  StepOk P G ops false i o (a,H) (putA a o.dst v,⟨H.next,H2.get⟩) ([some A],[some A]):=by
 obtain⟨ob,rfl,hall⟩:=makeH_form hm hop
 obtain⟨hft,hnc⟩:=makesH_foot hm A a
 refine⟨?_,fun t ht=>putA_keep _ _ _ _ ht,?_,fun _=>rfl,putA_len _ _ _⟩
 ·intro τ hl ht hr rd mb D C0 w0 C w ac A0 Rr hg hn ha hd N Q hN
  unfold wpOpIn
  simp only[hi]
  rw[if_pos (hw ha ht)]
  have hAt:C.H.get A=some .held:=by
   rw[hg]
   have h1:τ.2.get A=H.get A:=hr (some A) (by simp)
   exact h1.trans hA
  have hop':opA P G C.H A τ.1 o.op=some (v,C.H.allocAt A ob):=by
   rw[opA_congr (n:=A) (a:=a) hft (ev_agree ht) (fun _=>rfl)]
   exact hall C.H
  obtain⟨r,w',C',hrun,hH',hv,R',A'⟩:=opA_ok Rr ha (.inr hAt) hop'
  have fin:N (ac.put o.dst r) w':=by
   refine hN (putA τ.1 o.dst v,⟨τ.2.next,C'.H.get⟩) C' _ w' ?_ ?_ ?_ ?_ rfl ?_ ((ha.mono A').put o.dst hv) (by rw[put_defers];exact hd) R' (A0.trans A')
   ·simp only[putA_len];exact hl
   ·intro t;exact putA_both hl t
   ·intro l _ hlw
    simp only[List.mem_singleton]at hlw
    subst hlw
    simp only[AgreeAt,hH',AHeap.get_allocAt_same]
   ·intro l hl' hlw
    cases l with
    | none=>exact absurd (hl' rfl) (by simp)
    | some k=>
     have hk:k≠A:=fun e=>hlw (by simp[e])
     simp only[AgreeAt,hH',AHeap.get_allocAt_ne _ _ hk]
     rw[hg]
   ·simp only[Bool.false_eq_true,if_false]at hn ⊢
    refine⟨Nat.le_trans hn ?_,trivial⟩
    rw[hH',AHeap.next_allocAt]
    exact Nat.le_max_left _ _
  refine⟨fun _ _=>trivial,?_⟩
  rw[Oper.semAt_eq _ _ _ (fun c hc=>absurd hc (hnc c))]
  rcases hrun with hrun | ⟨hrun,rfl⟩
  ·rw[hrun];exact fin
  ·rw[hrun];exact fin
 ·intro l hl hlw
  cases l with
  | none=>exact absurd (hl rfl) (by simp)
  | some k=>
   have hk:k≠A:=fun e=>hlw (by simp[e])
   simp only[AgreeAt,AHeap.get_allocAt_ne _ _ hk]
def gNext (next:List AV→AHeap→Foot→Prop) (n A:Nat) (d:Option Tmp) (a:List AV) (p:AV × AHeap):Prop:=next (putA a d p.1) ⟨n,p.2.get⟩ ([some A],[some A])
def heldS (P:Program) (G:Nat→Option (List AV)) (op:Op) (d:Option Tmp) (a:List AV) (H:AHeap) (next:List AV→AHeap→Foot→Prop):Prop:=
 ∃A,H.get A=some .held∧must (opA P G H A a op) (gNext next H.next A d a)
def stepG (P:Program) (G:Nat→Option (List AV)) (op:Op) (d:Option Tmp) (a:List AV) (H:AHeap) (next:List AV→AHeap→Foot→Prop):Prop:=
 bif makesH op then heldS P G op d a H next else stepW P G false op d a H next
def drawG (P:Program) (G:Nat→Option (List AV)) (K:List AV→AHeap→List Foot→Prop):List MOp→List AV→AHeap→List Foot→Prop
 | [],a,H,log=>K a H log
 | o::rest,a,H,log=>match o.g with
  | none=>stepG P G o.op o.d a H fun a' H' F=>drawG P G K rest a' H' (log++[F])
  | some _=>False
theorem stepG_ok {o:Oper} {i:Nat} (hi:ops[i]?=some o) {a:List AV} {H:AHeap} {next:List AV→AHeap→Foot→Prop} (h:stepG P G o.op o.dst a H next)
  (hw:∀{C:Ctx} {b:List AV} {ac:Act},ActRel C b ac→(∀t,t∈o.looksAt ops→b[t]?=a[t]?)→Region.wanted o (yielded ops ac.tmps)=true) :
  ∃s' F,StepOk P G ops false i o (a,H) s' F∧FootOk o.op F∧next s'.1 s'.2 F:=by
 unfold stepG at h
 cases hm:makesH o.op with
 | true=>
  rw[hm,cond_true]at h
  obtain⟨A,h1,⟨v,H2⟩,h2,h3⟩:=h
  refine⟨_,_,heldMake_ok hi hm h1 h2 hw,?_,h3⟩
  unfold makesH at hm
  split at hm<;>first | (rename_i heq;exact⟨by rw[heq];simp[mayWrite],by rw[heq];simp[touches]⟩) | cases hm
 | false=>
  rw[hm,cond_false]at h
  obtain⟨s',F,hs,hn,hf⟩:=stepW_ok (o:=o) hi (stepW_foot h) hw
  exact⟨s',F,hs,hf,hn⟩
theorem drawG_chain {K:List AV→AHeap→List Foot→Prop}:∀(os:List Oper) (i:Nat),(∀k o,os[k]?=some o→ops[i+k]?=some o)→∀(a:List AV) (H:AHeap) (log:List Foot),
  drawG P G K (os.map (prepOp ops)) a H log→∃(σ:Nat→List AV × AHeap) (RW:Nat→Foot),σ 0=(a,H) ∧
   (∀k o,os[k]?=some o→StepOk P G ops false (i+k) o (σ k) (σ (k+1)) (RW k)∧FootOk o.op (RW k))∧K (σ os.length).1 (σ os.length).2 (log++(List.range os.length).map RW)
 | [],i,_,a,H,log,h=>⟨fun _=>(a,H),fun _=>([],[]),rfl,fun k o hk=>by simp at hk,by simpa[drawG]using h⟩
 | o::os,i,hos,a,H,log,h=>by
  have hi:ops[i]?=some o:=hos 0 o rfl
  have hos':∀k o,os[k]?=some o→ops[(i+1)+k]?=some o:=fun k o' hk=>by
   have:=hos (k+1) o' (by simpa using hk)
   rw[←this];congr 1;omega
  have glue:∀(s':List AV × AHeap) (F:Foot),StepOk P G ops false i o (a,H) s' F→FootOk o.op F→drawG P G K (os.map (prepOp ops)) s'.1 s'.2 (log++[F]) →
    ∃(σ:Nat→List AV × AHeap) (RW:Nat→Foot),σ 0=(a,H)∧(∀k o',(o::os)[k]?=some o'→StepOk P G ops false (i+k) o' (σ k) (σ (k+1)) (RW k)∧FootOk o'.op (RW k)) ∧
     K (σ (o::os).length).1 (σ (o::os).length).2 (log++(List.range (o::os).length).map RW):=by
   intro s' F hs hf hd
   obtain⟨σ,RW,h0,h1,h2⟩:=drawG_chain os (i+1) hos' s'.1 s'.2 _ hd
   refine⟨fun | 0=>(a,H) | k+1=>σ k,fun | 0=>F | k+1=>RW k,rfl,?_,?_⟩
   ·intro k o' hk
    cases k with
    | zero=>
     simp only[List.getElem?_cons_zero,Option.some.injEq]at hk
     subst hk
     refine⟨?_,hf⟩
     show StepOk P G ops false i o (a,H) (σ 0) F
     rw[h0];exact hs
    | succ k=>
     have:=h1 k o' (by simpa using hk)
     rw[show i+1+k=i+(k+1) by omega]at this
     exact this
   ·simp only[List.length_cons,List.range_succ_eq_map,List.map_cons,List.map_map]
    simp only[List.append_assoc,List.singleton_append]at h2
    exact h2
  simp only[List.map_cons,drawG]at h
  cases hg:o.guard with
  | none=>
   simp only[prepOp,hg]at h
   obtain⟨s',F,hs,hf,hn⟩:=stepG_ok (o:=o) hi h (fun _ _=>by simp only[Region.wanted,hg])
   exact glue s' F hs hf hn
  | some p=>
   obtain⟨j,want⟩:=p
   simp only[prepOp,hg]at h
   cases hd:(ops[j]?).bind (·.dst)with
   | none=>simp only[hd,stepG,makesH,cond_false,stepW]at h
   | some d=>simp only[hd]at h
theorem drawG_ok {id:Nat} {Q:APost} {a:List AV} {H:AHeap} (hm:P.follows .mixedOrders=true) {L:List MOp} {pairs:List (Nat × Nat)} (hL:ops.toList.map (prepOp ops)=L) (hp:drawPlan ops=some pairs)
  (h:drawG P G (drawEnd pairs false Q) L a H []):ATrS P G (.draw id ops) Q a H:=by
 subst hL
 obtain⟨σ,RW,h0,h1,hpo,hq⟩:=drawG_chain ops.toList 0 (fun k o hk=>by simpa using hk) a H [] h
 obtain⟨p1,p2,p3⟩:=drawPlan_spec hp
 simp only[Array.length_toList]at hq hpo
 have hstep:∀(i:Nat) (o:Oper),ops[i]?=some o→StepOk P G ops false i o (σ i) (σ (i+1)) (RW i)∧FootOk o.op (RW i):=by
  intro i o hi
  have:=h1 i o (by simpa using hi)
  simpa using this
 have hlen:∀i,i≤ops.size→(σ i).1.length=(σ 0).1.length:=by
  intro i
  induction i with
  | zero=>intro _;rfl
  | succ i ih=>
   intro hi
   rw[(hstep i ops[i] (Array.getElem?_eq_getElem (by omega))).1.len,ih (by omega)]
 have T:Trace P G ops false σ (fun i=>(RW i).1) (fun i=>(RW i).2):=by
  refine⟨hlen,?_,?_,?_,?_,?_,p1⟩
  ·intro i o hi τ hl ht hr rd mb D C0 w0 C w ac A Rr hg hn ha hd N Q hN
   have hlt:i<ops.size:=(Array.getElem?_eq_some_iff.1 hi).1
   have e:=hlen i (by omega)
   exact(hstep i o hi).1.step τ (by rw[hl,e]) ht hr rd mb D C0 w0 C w ac A Rr hg hn ha hd N Q fun τ' C' ac' w' k0=>hN τ' C' ac' w' (by rw[k0,e])
  ·intro i o hi;exact(hstep i o hi).1.keepT
  ·intro i hi;exact(hstep i ops[i] (Array.getElem?_eq_getElem hi)).1.keepO
  ·intro hex i hi;exact(hstep i ops[i] (Array.getElem?_eq_getElem hi)).1.nextLe hex
  ·intro i j oi oj hij hoi hoj
   rcases p2 i j oi oj hij hoi hoj with hf | hap
   ·exact .inl hf
   rcases p3 i j oi oj hij hoi hoj with hf | hq | hin
   ·exact .inl hf
   ·refine .inr ⟨hap,?_⟩
    have fi:=(hstep i oi hoi).2
    have fj:=(hstep j oj hoj).2
    rcases hq with h | h | ⟨h,h'⟩
    ·have:=fi.r h
     simp[this]
    ·have:=fj.r h
     simp[this]
    ·have e1:=fi.w h
     have e2:=fj.w h'
     simp[e1,e2]
   ·refine .inr ⟨hap,?_⟩
    have hlt:j<ops.size:=(Array.getElem?_eq_some_iff.1 hoj).1
    have hlt':i<ops.size:=by omega
    have:=pairsOk_mem hpo _ hin
    simp only[List.nil_append,List.getD,List.getElem?_map,List.getElem?_range hlt,List.getElem?_range hlt',Option.map_some,Option.getD_some]at this
    exact this
 have:=ATrS.draw (id:=id) hm T hq
 rw[h0]at this
 exact this
end
def dgNext (P:Program) (G:Nat→Option (List AV)) (K:List AV→AHeap→List Foot→Prop) (log:List Foot) (l:List MOp) (a:List AV) (H:AHeap) (F:Foot):Prop:=drawG P G K l a H (log++[F])
section
variable {P:Program} {G:Nat→Option (List AV)} {K:List AV→AHeap→List Foot→Prop} {a:List AV} {H:AHeap} {log:List Foot}
theorem w_gop (d:Option Tmp) (op:Op) (l:List MOp):drawG P G K (⟨none,d,op⟩::l) a H log=stepG P G op d a H (dgNext P G K log l):=id rfl
theorem w_gnext (l:List MOp) (F:Foot):dgNext P G K log l a H F=drawG P G K l a H (log++[F]):=id rfl
theorem w_gnil:drawG P G K [] a H log=K a H log:=id rfl
theorem w_gmake (next:List AV→AHeap→Foot→Prop) (n A:Nat) (d:Option Tmp) (v:AV) (H':AHeap):gNext next n A d a (v,H')=next (putA a d v) ⟨n,H'.get⟩ ([some A],[some A]):=id rfl
end
end Go.Ab
