/- A logic over the kit's 'Calls' and 'Code.wp' in which memory is a table of objects by number, and slices are lists. This text: values, objects, what they stand for in a world, and how that moves on. A logic over the kit's 'Calls' and 'Code.wp': how a reading moves on when memory is laid, written or drawn. A logic over the kit's 'Calls' and 'Code.wp': loads and stores. A logic over the kit's 'Calls' and 'Code.wp': memory that is made: variables, slices, append. A logic over the kit's 'Calls' and 'Code.wp': values that are built, variables and slices that are made. A logic over the kit's 'Calls' and 'Code.wp': operations that only compute. A logic over the kit's 'Calls' and 'Code.wp': places, parts, kinds. A logic over the kit's 'Calls' and 'Code.wp': conversions, maps, the range over a string. A logic over the kit's 'Calls' and 'Code.wp': maps written, the range over a string, and each operation of a region but calls. -/
import Derived.ProofKit
import Derived.Laws.AppendOwn
import Derived.Lib.AppendStr
import Derived.Laws.MakeOwn
import Derived.Great.BuildSlice
import Derived.Laws.StructEq
import Derived.Laws.Build
import Derived.Lib.ConvBytes
import Derived.Laws.BytesArg
set_option linter.all false
namespace Go.Ab
open Go
inductive AV where
 | und
 | any
 | bool (b:Bool)
 | int (k:IntKind) (n:Int)
 | flt (k:FloatKind) (bits:Nat)
 | str (s:List UInt8)
 | nilp
 | anyp
 | ptr (id off:Nat)
 | gptr (g off:Nat)
 | nils
 | slc (id len:Nat)
 | lst (len:Nat) (cells:List AV)
 | lptr (cells:List AV) (off:Nat)
 | nilm
 | map (id:Nat)
 | nilf
 | func (f:FuncId) (caps:List AV)
 | bfunc (f:FuncId) (bound caps:List AV)
 | yld (l:Nat)
 | nili
 | iface (t:TypeId) (v:AV)
 | agg (cells:List AV)
 | tup (vs:List AV)
 deriving Inhabited
inductive AObj where
 | cells (e:TypeId) (cs:List AV)
 | row (e:TypeId) (size:Nat) (cs:List AV)
 | map (es:List (AV × AV))
 | iter (s:List UInt8) (pos:Nat)
 | loop (st:LoopState) (pe:Option Code) (a:List AV) (ps:List Tmp) (x y:Code)
 | held
structure AHeap where
 next:Nat
 get:Nat→Option AObj
namespace AHeap
def res (_:AHeap) (_:Nat):Bool:=false
def set (H:AHeap) (k:Nat) (o:AObj):AHeap:={ H with get:=fun j=>if j=k then some o else H.get j }
def del (H:AHeap) (k:Nat):AHeap:={ H with get:=fun j=>if j=k then none else H.get j }
def allocAt (H:AHeap) (n:Nat) (o:AObj):AHeap:={ next:=max H.next (n+1),get:=fun j=>if j=n then some o else H.get j }
def alloc (H:AHeap) (o:AObj):AHeap:={ next:=H.next+1,get:=fun j=>if j=H.next then some o else H.get j }
theorem allocAt_next (H:AHeap) (o:AObj):H.allocAt H.next o=H.alloc o:=by simp[allocAt,alloc,Nat.max_eq_right (Nat.le_succ H.next)]
def bump (H:AHeap) (n:Nat):AHeap:={ H with next:=n }
@[simp] theorem next_set (H:AHeap) (k:Nat) (o:AObj):(H.set k o).next=H.next:=rfl
@[simp] theorem next_del (H:AHeap) (k:Nat):(H.del k).next=H.next:=rfl
@[simp] theorem next_alloc (H:AHeap) (o:AObj):(H.alloc o).next=H.next+1:=rfl
theorem next_allocAt (H:AHeap) (n:Nat) (o:AObj):(H.allocAt n o).next=max H.next (n+1):=rfl
theorem get_allocAt (H:AHeap) (n j:Nat) (o:AObj):(H.allocAt n o).get j=if j=n then some o else H.get j:=rfl
@[simp] theorem get_allocAt_same (H:AHeap) (n:Nat) (o:AObj):(H.allocAt n o).get n=some o:=by simp[get_allocAt]
theorem get_allocAt_ne (H:AHeap) {n j:Nat} (o:AObj) (h:j≠n):(H.allocAt n o).get j=H.get j:=by simp[get_allocAt,h]
theorem res_allocAt (H:AHeap) (n j:Nat) (o:AObj):(H.allocAt n o).res j=if j=n then false else H.res j:=by simp[res]
@[simp] theorem res_set (H:AHeap) (k:Nat) (o:AObj):(H.set k o).res=H.res:=rfl
@[simp] theorem res_del (H:AHeap) (k:Nat):(H.del k).res=H.res:=rfl
@[simp] theorem res_bump (H:AHeap) (n:Nat):(H.bump n).res=H.res:=rfl
@[simp] theorem next_bump (H:AHeap) (n:Nat):(H.bump n).next=n:=rfl
theorem get_set (H:AHeap) (k j:Nat) (o:AObj):(H.set k o).get j=if j=k then some o else H.get j:=rfl
theorem get_del (H:AHeap) (k j:Nat):(H.del k).get j=if j=k then none else H.get j:=rfl
theorem get_alloc (H:AHeap) (j:Nat) (o:AObj):(H.alloc o).get j=if j=H.next then some o else H.get j:=rfl
@[simp] theorem get_bump (H:AHeap) (j n:Nat):(H.bump n).get j=H.get j:=rfl
@[simp] theorem get_set_same (H:AHeap) (k:Nat) (o:AObj):(H.set k o).get k=some o:=by simp[get_set]
@[simp] theorem get_alloc_same (H:AHeap) (o:AObj):(H.alloc o).get H.next=some o:=by simp[get_alloc]
theorem get_set_ne (H:AHeap) {k j:Nat} (o:AObj) (h:j≠k):(H.set k o).get j=H.get j:=by simp[get_set,h]
theorem get_del_ne (H:AHeap) {k j:Nat} (h:j≠k):(H.del k).get j=H.get j:=by simp[get_del,h]
theorem get_alloc_ne (H:AHeap) {j:Nat} (o:AObj) (h:j≠H.next):(H.alloc o).get j=H.get j:=by simp[get_alloc,h]
end AHeap
structure Ctx where
 H:AHeap
 μ:Nat→Option (Nat × Nat)
 I:Nat→Option (List Value)
def Ctx.owns (C:Ctx) (c:Nat):Prop:=∃k o cap,C.H.get k=some o∧C.μ k=some (c,cap)
def PtrOk (C:Ctx) (k off:Nat) (a':Addr):Prop:=
 k<C.H.next∧C.H.res k=false ∧
 match C.H.get k with
 | none=>True
 | some (.map _)=>False
 | some .held=>False
 | some _=>∃c cap,C.μ k=some (c,cap)∧a'=⟨c,off,none⟩
def SlcOk (C:Ctx) (k len:Nat) (v:Value):Prop:=
 k<C.H.next∧C.H.res k=false ∧
 match C.H.get k with
 | none=>True
 | some (.cells _ _)=>∃c cap cap',C.μ k=some (c,cap')∧v = .slice (some ⟨c,0,none⟩) len cap∧len≤cap
 | some (.row _ size cs)=>(len*size≤cs.length) ∧
   match C.μ k with
   | some (c,cap)=>v = .slice (some ⟨c,0,none⟩) len cap
   | none=>len=0∧v = .slice none 0 0
 | some _=>False
def MapOk (C:Ctx) (k:Nat) (r:Nat):Prop:=
 k<C.H.next∧C.H.res k=false ∧
 match C.H.get k with
 | none=>True
 | some (.map _)=>∃cap,C.μ k=some (r,cap)
 | some _=>False
def YldOk (C:Ctx) (k:Nat) (l:Nat):Prop:=
 k<C.H.next∧C.H.res k=false ∧
 match C.H.get k with
 | none=>True
 | some (.loop ..)=>∃cap,C.μ k=some (l,cap)
 | some _=>False
inductive VR (C:Ctx):AV→Value→Prop where
 | und (v:Value):VR C .und v
 | any (v:Value) (h:v.oneCell'=true):VR C .any v
 | bool (b:Bool):VR C (.bool b) (.bool b)
 | int (k:IntKind) (n:Int):VR C (.int k n) (.int k n)
 | flt (k:FloatKind) (b:Nat):VR C (.flt k b) (.float k b)
 | str (s:List UInt8):VR C (.str s) (.string ⟨s.toArray⟩)
 | nilp:VR C .nilp (.pointer none)
 | anyp (p:Option Addr):VR C .anyp (.pointer p)
 | ptr (k off:Nat) (a':Addr) (h:PtrOk C k off a'):VR C (.ptr k off) (.pointer (some a'))
 | gptr (g off:Nat):VR C (.gptr g off) (.pointer (some ⟨g,off,none⟩))
 | nils:VR C .nils (.slice none 0 0)
 | slc (k len:Nat) (a:Option Addr) (cap:Nat) (h:SlcOk C k len (.slice a len cap)):VR C (.slc k len) (.slice a len cap)
 | lst (len:Nat) (cells:List AV) (c off cap:Nat) (arr:List Value) (f:Nat→Value) (hI:C.I c=some arr) (hl:len≤cap)
   (h1:∀(i:Nat) (x:AV),cells[i]?=some x→arr[off+i]?=some (f i)) (h2:∀(i:Nat) (x:AV),cells[i]?=some x→VR C x (f i)):VR C (.lst len cells) (.slice (some ⟨c,off,none⟩) len cap)
 | lstNil:VR C (.lst 0 []) (.slice none 0 0)
 | lptr (cells:List AV) (off c base:Nat) (arr:List Value) (f:Nat→Value) (hI:C.I c=some arr)
   (h1:∀(i:Nat) (x:AV),cells[i]?=some x→arr[base+i]?=some (f i)) (h2:∀(i:Nat) (x:AV),cells[i]?=some x→VR C x (f i)) :
   VR C (.lptr cells off) (.pointer (some ⟨c,base+off,none⟩))
 | nilm:VR C .nilm (.map none)
 | map (k r:Nat) (h:MapOk C k r):VR C (.map k) (.map (some r))
 | nilf:VR C .nilf .nilFunc
 | func (f:FuncId) (caps:List AV) (vs:Array Value) (hl:caps.length=vs.size) (h:∀(i:Nat) (x:AV) (y:Value),caps[i]?=some x→vs[i]?=some y→VR C x y) :
   VR C (.func f caps) (.func (.func f) #[] vs)
 | bfunc (f:FuncId) (bound caps:List AV) (bs vs:Array Value) (hb:bound.length=bs.size) (h0:∀(i:Nat) (x:AV) (y:Value),bound[i]?=some x→bs[i]?=some y→VR C x y) (hl:caps.length=vs.size) (h:∀(i:Nat) (x:AV) (y:Value),caps[i]?=some x→vs[i]?=some y→VR C x y) :
   VR C (.bfunc f bound caps) (.func (.func f) bs vs)
 | yld (k l:Nat) (h:YldOk C k l):VR C (.yld k) (.func (.yield l) #[] #[])
 | nili:VR C .nili .nilIface
 | iface (t:TypeId) (x:AV) (y:Value) (h:VR C x y):VR C (.iface t x) (.iface t y)
 | agg (cells:List AV) (vs:Array Value) (hl:cells.length=vs.size) (h:∀(i:Nat) (x:AV) (y:Value),cells[i]?=some x→vs[i]?=some y→VR C x y):VR C (.agg cells) (.agg vs)
 | tup (cells:List AV) (vs:Array Value) (hl:cells.length=vs.size) (h:∀(i:Nat) (x:AV) (y:Value),cells[i]?=some x→vs[i]?=some y→VR C x y):VR C (.tup cells) (.tuple vs)
def VRs (C:Ctx) (xs:List AV) (ys:List Value):Prop:=xs.length=ys.length∧∀(i:Nat) (x:AV) (y:Value),xs[i]?=some x→ys[i]?=some y→VR C x y
def SigLe (C C':Ctx) (k:Nat):Prop:=
 match C.H.get k with
 | none=>C'.H.get k=none
 | some (.cells _ _)=>C'.H.get k=none∨(∃e cs,C'.H.get k=some (.cells e cs))∧C'.μ k=C.μ k
 | some (.row _ size cs)=>C'.H.get k=none∨(∃e cs',C'.H.get k=some (.row e size cs')∧cs'.length=cs.length)∧C'.μ k=C.μ k
 | some (.map _)=>C'.H.get k=none∨(∃es,C'.H.get k=some (.map es))∧C'.μ k=C.μ k
 | some (.iter _ _)=>C'.H.get k=none∨(∃s p,C'.H.get k=some (.iter s p))∧C'.μ k=C.μ k
 | some (.loop ..)=>C'.H.get k=none∨(∃st pe a ps x y,C'.H.get k=some (.loop st pe a ps x y))∧C'.μ k=C.μ k
 | some .held=>True
structure Adv (C:Ctx) (w:World) (C':Ctx) (w':World):Prop where
 next:C.H.next≤C'.H.next
 sig:∀k,k<C.H.next→C.H.res k=false→C'.H.res k=false∧SigLe C C' k
 imm:∀c a,C.I c=some a→C'.I c=some a
 own:∀c,C'.owns c→w.heap.size≤c∨C.owns c
 immNew:∀c a,C'.I c=some a→C.I c=some a∨w.heap.size≤c∨C.owns c
 frame:∀c,c<w.heap.size→¬C.owns c→w'.heap[c]?=w.heap[c]?
 size:w.heap.size≤w'.heap.size
 os:w'.os=w.os
 tape:w'.tape=w.tape
 output:w'.output=w.output
theorem SigLe.refl (C:Ctx) (k:Nat):SigLe C C k:=by
 unfold SigLe
 cases h:C.H.get k with
 | none=>rfl
 | some o=>
  cases o with
  | cells e cs=>exact .inr ⟨⟨e,cs,rfl⟩,rfl⟩
  | row e s cs=>exact .inr ⟨⟨e,cs,rfl,rfl⟩,rfl⟩
  | map es=>exact .inr ⟨⟨es,rfl⟩,rfl⟩
  | iter s p=>exact .inr ⟨⟨s,p,rfl⟩,rfl⟩
  | loop st pe a ps x y=>exact .inr ⟨⟨st,pe,a,ps,x,y,rfl⟩,rfl⟩
  | held=>trivial
theorem Adv.refl (C:Ctx) (w:World):Adv C w C w:=
 ⟨Nat.le_refl _,fun k _ hr=>⟨hr,SigLe.refl C k⟩,fun _ _ h=>h,fun _ h => .inr h,fun _ _ h => .inl h,fun _ _ _=>rfl,Nat.le_refl _,rfl,rfl,rfl⟩
theorem SigLe.trans {A B C:Ctx} {k:Nat} (h:SigLe A B k) (h':SigLe B C k):SigLe A C k:=by
 unfold SigLe at *
 cases hA:A.H.get k with
 | none=>simp only[hA]at h;simp only[h]at h';exact h'
 | some o=>
  cases o with
  | cells e cs=>
   simp only[hA]at h ⊢
   rcases h with h | ⟨⟨e1,c1,h1⟩,h2⟩
   ·simp only[h]at h';exact .inl h'
   ·simp only[h1]at h';rcases h' with h' | ⟨h3,h4⟩
    ·exact .inl h'
    ·exact .inr ⟨h3,h4.trans h2⟩
  | row e s cs=>
   simp only[hA]at h ⊢
   rcases h with h | ⟨⟨e1,c1,h1,hl⟩,h2⟩
   ·simp only[h]at h';exact .inl h'
   ·simp only[h1]at h';rcases h' with h' | ⟨⟨e2,c2,h3,hl2⟩,h4⟩
    ·exact .inl h'
    ·exact .inr ⟨⟨e2,c2,h3,hl2.trans hl⟩,h4.trans h2⟩
  | map es=>
   simp only[hA]at h ⊢
   rcases h with h | ⟨⟨e1,h1⟩,h2⟩
   ·simp only[h]at h';exact .inl h'
   ·simp only[h1]at h';rcases h' with h' | ⟨h3,h4⟩
    ·exact .inl h'
    ·exact .inr ⟨h3,h4.trans h2⟩
  | iter s p=>
   simp only[hA]at h ⊢
   rcases h with h | ⟨⟨e1,p1,h1⟩,h2⟩
   ·simp only[h]at h';exact .inl h'
   ·simp only[h1]at h';rcases h' with h' | ⟨h3,h4⟩
    ·exact .inl h'
    ·exact .inr ⟨h3,h4.trans h2⟩
  | loop st pe a ps x y=>
   simp only[hA]at h ⊢
   rcases h with h | ⟨⟨e1,p1,e2,e3,e4,e5,h1⟩,h2⟩
   ·simp only[h]at h';exact .inl h'
   ·simp only[h1]at h';rcases h' with h' | ⟨h3,h4⟩
    ·exact .inl h'
    ·exact .inr ⟨h3,h4.trans h2⟩
  | held=>simp only[hA]
theorem Adv.trans {A B C:Ctx} {u v w:World} (h:Adv A u B v) (h':Adv B v C w):Adv A u C w:={
 next:=Nat.le_trans h.next h'.next
 sig k hk hr:=by
  obtain⟨h1,h2⟩:=h.sig k hk hr
  obtain⟨h3,h4⟩:=h'.sig k (Nat.lt_of_lt_of_le hk h.next) h1
  exact⟨h3,h2.trans h4⟩
 imm c a hc:=h'.imm c a (h.imm c a hc)
 own c hc:=by
  rcases h'.own c hc with h1 | h1
  ·exact .inl (Nat.le_trans h.size h1)
  ·exact h.own c h1
 immNew c a hc:=by
  rcases h'.immNew c a hc with h1 | h1 | h1
  ·exact h.immNew c a h1
  ·exact .inr (.inl (Nat.le_trans h.size h1))
  ·exact .inr (h.own c h1)
 frame c hc hn:=by
  rw[h'.frame c (Nat.lt_of_lt_of_le hc h.size) (fun ho=>by rcases h.own c ho with h1 | h1;exact absurd hc (by omega);exact hn h1)]
  exact h.frame c hc hn
 size:=Nat.le_trans h.size h'.size
 os:=h'.os.trans h.os
 tape:=h'.tape.trans h.tape
 output:=h'.output.trans h.output }
theorem PtrOk.mono {C C':Ctx} {w w':World} (A:Adv C w C' w') {k off:Nat} {a:Addr} (h:PtrOk C k off a):PtrOk C' k off a:=by
 obtain⟨h1,hr,h2⟩:=h
 obtain⟨hr',hs⟩:=A.sig k h1 hr
 refine⟨Nat.lt_of_lt_of_le h1 A.next,hr',?_⟩
 unfold SigLe at hs
 cases hk:C.H.get k with
 | none=>simp only[hk]at hs;simp only[hs]
 | some o=>
  cases o with
  | cells e cs=>
   simp only[hk]at hs h2
   rcases hs with hs | ⟨⟨e1,c1,hs⟩,hm⟩
   ·simp only[hs]
   ·simp only[hs,hm];exact h2
  | row e s cs=>
   simp only[hk]at hs h2
   rcases hs with hs | ⟨⟨e1,c1,hs,_⟩,hm⟩
   ·simp only[hs]
   ·simp only[hs,hm];exact h2
  | map es=>simp only[hk]at h2
  | iter s p=>
   simp only[hk]at hs h2
   rcases hs with hs | ⟨⟨e1,c1,hs⟩,hm⟩
   ·simp only[hs]
   ·simp only[hs,hm];exact h2
  | loop st pe a ps x y=>
   simp only[hk]at hs h2
   rcases hs with hs | ⟨⟨e1,c1,c2,c3,c4,c5,hs⟩,hm⟩
   ·simp only[hs]
   ·simp only[hs,hm];exact h2
  | held=>simp only[hk]at h2
theorem SlcOk.mono {C C':Ctx} {w w':World} (A:Adv C w C' w') {k len:Nat} {v:Value} (h:SlcOk C k len v):SlcOk C' k len v:=by
 obtain⟨h1,hr,h2⟩:=h
 obtain⟨hr',hs⟩:=A.sig k h1 hr
 refine⟨Nat.lt_of_lt_of_le h1 A.next,hr',?_⟩
 unfold SigLe at hs
 cases hk:C.H.get k with
 | none=>simp only[hk]at hs;simp only[hs]
 | some o=>
  cases o with
  | cells e cs=>
   simp only[hk]at hs h2
   rcases hs with hs | ⟨⟨e1,c1,hs⟩,hm⟩
   ·simp only[hs]
   ·simp only[hs,hm];exact h2
  | row e s cs=>
   simp only[hk]at hs h2
   rcases hs with hs | ⟨⟨e1,c1,hs,hl⟩,hm⟩
   ·simp only[hs]
   ·simp only[hs,hm,hl];exact h2
  | map es=>simp only[hk]at h2
  | iter s p=>simp only[hk]at h2
  | loop st pe a ps x y=>simp only[hk]at h2
  | held=>simp only[hk]at h2
theorem MapOk.mono {C C':Ctx} {w w':World} (A:Adv C w C' w') {k r:Nat} (h:MapOk C k r):MapOk C' k r:=by
 obtain⟨h1,hr,h2⟩:=h
 obtain⟨hr',hs⟩:=A.sig k h1 hr
 refine⟨Nat.lt_of_lt_of_le h1 A.next,hr',?_⟩
 unfold SigLe at hs
 cases hk:C.H.get k with
 | none=>simp only[hk]at hs;simp only[hs]
 | some o=>
  cases o with
  | map es=>
   simp only[hk]at hs h2
   rcases hs with hs | ⟨⟨e1,hs⟩,hm⟩
   ·simp only[hs]
   ·simp only[hs,hm];exact h2
  | _=>simp only[hk]at h2
theorem YldOk.mono {C C':Ctx} {w w':World} (A:Adv C w C' w') {k r:Nat} (h:YldOk C k r):YldOk C' k r:=by
 obtain⟨h1,hr,h2⟩:=h
 obtain⟨hr',hs⟩:=A.sig k h1 hr
 refine⟨Nat.lt_of_lt_of_le h1 A.next,hr',?_⟩
 unfold SigLe at hs
 cases hk:C.H.get k with
 | none=>simp only[hk]at hs;simp only[hs]
 | some o=>
  cases o with
  | loop st pe a ps x y=>
   simp only[hk]at hs h2
   rcases hs with hs | ⟨⟨e1,e2,e3,e4,e5,e6,hs⟩,hm⟩
   ·simp only[hs]
   ·simp only[hs,hm];exact h2
  | _=>simp only[hk]at h2
theorem VR.mono {C C':Ctx} {w w':World} (A:Adv C w C' w') {x:AV} {v:Value} (h:VR C x v):VR C' x v:=by
 induction h with
 | und v=>exact .und v
 | any v h=>exact .any v h
 | bool b=>exact .bool b
 | int k n=>exact .int k n
 | flt k b=>exact .flt k b
 | str s=>exact .str s
 | nilp=>exact .nilp
 | anyp p=>exact .anyp p
 | ptr k off a h=>exact .ptr k off a (h.mono A)
 | gptr g off=>exact .gptr g off
 | nils=>exact .nils
 | slc k len a cap h=>exact .slc k len a cap (h.mono A)
 | lst len cells c off cap arr f hI hl h1 _ ih=>exact .lst len cells c off cap arr f (A.imm c arr hI) hl h1 ih
 | lstNil=>exact .lstNil
 | lptr cells off c base arr f hI h1 _ ih=>exact .lptr cells off c base arr f (A.imm c arr hI) h1 ih
 | nilm=>exact .nilm
 | map k r h=>exact .map k r (h.mono A)
 | nilf=>exact .nilf
 | func f caps vs hl _ ih=>exact .func f caps vs hl ih
 | bfunc f bound caps bs vs hb _ hl _ ih0 ih=>exact .bfunc f bound caps bs vs hb ih0 hl ih
 | yld k l h=>exact .yld k l (h.mono A)
 | nili=>exact .nili
 | iface t x y _ ih=>exact .iface t x y ih
 | agg cells vs hl _ ih=>exact .agg cells vs hl ih
 | tup cells vs hl _ ih=>exact .tup cells vs hl ih
theorem VRs.mono {C C':Ctx} {w w':World} (A:Adv C w C' w') {xs:List AV} {ys:List Value} (h:VRs C xs ys):VRs C' xs ys:=
 ⟨h.1,fun i x y hx hy=>(h.2 i x y hx hy).mono A⟩
def ObjRel (C:Ctx) (w:World) (k:Nat):AObj→Prop
 | .cells e cs=>∃c cap arr lo hi,C.μ k=some (c,cap)∧(∃e',w.heap[c]?=some (.cells arr e' (lo,hi))∧(e≠0→e'=e∧arr.size=cs.length∧lo=0∧hi=0))∧(∀(i:Nat) (x:AV),cs[i]?=some x→∃y,arr[i]?=some y∧VR C x y)∧(hi≤lo∨arr.size≤lo)
 | .row e size cs=>∃n v ys,w.ownsRow 0 e size v n ys∧VRs C cs ys ∧
   (match C.μ k with
   | some (c,cap)=>v = .slice (some ⟨c,0,none⟩) n cap
   | none=>v = .slice none 0 0)
 | .map es=>∃c cap es' clock,C.μ k=some (c,cap)∧w.heap[c]?=some (.map es' clock)∧es.length=es'.size ∧
   ∀(i:Nat) (x:AV × AV) (y:MapEntry),es[i]?=some x→es'[i]?=some y→VR C x.1 y.key∧VR C x.2 y.val
 | .iter s pos=>∃c cap,C.μ k=some (c,cap)∧w.heap[c]?=some (.stringIter ⟨s.toArray⟩ pos)
 | .loop st pe a ps x y=>∃c cap r,C.μ k=some (c,cap)∧w.heap[c]?=some (.loop r)∧r.state=st∧r.pending=pe∧VRs C a r.tmps.toList∧r.params.toList=ps∧r.assign=x∧r.body=y
 | .held=>C.μ k=none
structure Rel (G:Nat→Option (List AV)) (C:Ctx) (w:World):Prop where
 pres:∀k o,C.H.get k=some o→k<C.H.next∧C.H.res k=false∧ObjRel C w k o
 inj:∀k1 k2 o1 o2 c cap1 cap2,C.H.get k1=some o1→C.H.get k2=some o2→C.μ k1=some (c,cap1)→C.μ k2=some (c,cap2)→k1=k2
 imm:∀c a,C.I c=some a→¬C.owns c∧∃arr e fz,w.heap[c]?=some (.cells arr e fz)∧arr.toList=a
 glob:∀g cs,G g=some cs→∃a,C.I g=some a∧VRs C cs a
theorem Rel.owned_lt {G:Nat→Option (List AV)} {C:Ctx} {w:World} (R:Rel G C w) {c:Nat} (h:C.owns c):c<w.heap.size:=by
 obtain⟨k,o,cap,hk,hm⟩:=h
 have hlt:∀{o:Obj},w.heap[c]?=some o→c<w.heap.size:=fun h=>(Array.getElem?_eq_some_iff.1 h).1
 have ho:=(R.pres k o hk).2.2
 cases o with
 | cells e cs=>obtain⟨c',cap',arr,lo,hi,h1,⟨_,h2,_⟩,_⟩:=ho;rw[hm]at h1;cases h1;exact hlt h2
 | row e s cs=>
  obtain⟨n,v,ys,hown,_,hv⟩:=ho
  simp only[hm]at hv
  rcases hown.2 with ⟨h1,_⟩ | ⟨g,cap',cur,h1,_,h2,_⟩
  ·rw[h1]at hv;cases hv
  ·rw[h1]at hv;cases hv;exact hlt h2
 | map es=>obtain⟨c',cap',es',cl,h1,h2,_⟩:=ho;rw[hm]at h1;cases h1;exact hlt h2
 | iter s p=>obtain⟨c',cap',h1,h2⟩:=ho;rw[hm]at h1;cases h1;exact hlt h2
 | loop st pe a ps x y=>obtain⟨c',cap',r,h1,h2,_⟩:=ho;rw[hm]at h1;cases h1;exact hlt h2
 | held=>exact absurd (hm.symm.trans ho) (by simp)
end Go.Ab
namespace Go.Ab
open Go
theorem VRs.nil (C:Ctx):VRs C [] []:=⟨rfl,fun _ _ _ h=>by simp at h⟩
theorem VRs.cons {C:Ctx} {x:AV} {y:Value} {xs:List AV} {ys:List Value} (h:VR C x y) (hs:VRs C xs ys):VRs C (x::xs) (y::ys):=by
 refine⟨by simp[hs.1],fun i a b ha hb=>?_⟩
 cases i with
 | zero=>simp at ha hb;subst ha;subst hb;exact h
 | succ i=>simp at ha hb;exact hs.2 i a b ha hb
theorem VRs.append {C:Ctx} {xs xs':List AV} {ys ys':List Value} (h:VRs C xs ys) (h':VRs C xs' ys'):VRs C (xs++xs') (ys++ys'):=by
 refine⟨by simp[h.1,h'.1],fun i a b ha hb=>?_⟩
 by_cases hi:i<xs.length
 ·rw[List.getElem?_append_left hi]at ha
  rw[List.getElem?_append_left (by rw[←h.1];exact hi)]at hb
  exact h.2 i a b ha hb
 ·have hi':xs.length≤i:=by omega
  rw[List.getElem?_append_right hi']at ha
  rw[List.getElem?_append_right (by rw[←h.1];exact hi'),←h.1]at hb
  exact h'.2 _ a b ha hb
theorem VRs.get {C:Ctx} {xs:List AV} {ys:List Value} (h:VRs C xs ys) {i:Nat} {x:AV} (hx:xs[i]?=some x):∃y,ys[i]?=some y∧VR C x y:=by
 have hi:i<ys.length:=by rw[←h.1];exact(List.getElem?_eq_some_iff.1 hx).1
 exact⟨ys[i],by simp[hi],h.2 i x _ hx (by simp[hi])⟩
theorem VRs.set {C:Ctx} {xs:List AV} {ys:List Value} (h:VRs C xs ys) (i:Nat) {x:AV} {y:Value} (hx:VR C x y):VRs C (xs.set i x) (ys.set i y):=by
 refine⟨by simp[h.1],fun j a b ha hb=>?_⟩
 rw[List.getElem?_set]at ha hb
 by_cases hij:i=j
 ·subst hij
  simp only[if_true]at ha hb
  split at ha
  ·split at hb
   ·cases ha;cases hb;exact hx
   ·cases hb
  ·cases ha
 ·simp only[hij,if_false]at ha hb
  exact h.2 j a b ha hb
theorem VRs.take {C:Ctx} {xs:List AV} {ys:List Value} (h:VRs C xs ys) (n:Nat):VRs C (xs.take n) (ys.take n):=by
 refine⟨by simp[h.1],fun i a b ha hb=>?_⟩
 rw[List.getElem?_take]at ha hb
 split at ha
 ·rename_i hi;simp only[hi,if_true]at hb;exact h.2 i a b ha hb
 ·cases ha
theorem VRs.drop {C:Ctx} {xs:List AV} {ys:List Value} (h:VRs C xs ys) (n:Nat):VRs C (xs.drop n) (ys.drop n):=by
 refine⟨by simp[h.1],fun i a b ha hb=>?_⟩
 rw[List.getElem?_drop]at ha hb
 exact h.2 _ a b ha hb
theorem VRs.getD {C:Ctx} {xs:List AV} {ys:List Value} (h:VRs C xs ys) (i:Nat):VR C (xs.getD i .und) (ys.getD i undef):=by
 cases hx:xs[i]? with
 | none=>simp only[List.getD,hx,Option.getD_none];exact .und _
 | some x=>obtain⟨y,hy,hv⟩:=h.get hx;simp only[List.getD,hx,hy,Option.getD_some];exact hv
theorem VRs.replicate {C:Ctx} {x:AV} {y:Value} (n:Nat) (h:VR C x y):VRs C (List.replicate n x) (List.replicate n y):=by
 refine⟨by simp,fun i a b ha hb=>?_⟩
 simp only[List.getElem?_replicate]at ha hb
 split at ha
 ·rename_i hi;simp only[hi,if_true]at hb;cases ha;cases hb;exact h
 ·cases ha
theorem ObjRel.keep {C C':Ctx} {w w':World} (A:Adv C w C' w') {k:Nat} {o:AObj} (h:ObjRel C w k o) (hm:C'.μ k=C.μ k)
  (hb:∀c cap,C.μ k=some (c,cap)→w'.heap[c]?=w.heap[c]?):ObjRel C' w' k o:=by
 cases o with
 | cells e cs=>
  obtain⟨c,cap,arr,lo,hi,h1,⟨e',h2,h5⟩,h3,h4⟩:=h
  exact⟨c,cap,arr,lo,hi,hm.trans h1,⟨e',(hb c cap h1).trans h2,h5⟩,fun i x hx=>(h3 i x hx).imp fun _ h=>⟨h.1,h.2.mono A⟩,h4⟩
 | row e s cs=>
  obtain⟨n,v,ys,⟨hl,hown⟩,hys,hv⟩:=h
  refine⟨n,v,ys,⟨hl,?_⟩,hys.mono A,by rw[hm];exact hv⟩
  rcases hown with h1 | ⟨g,cap,cur,h1,h2,h3,h4⟩
  ·exact .inl h1
  ·cases hmk:C.μ k with
   | none=>simp only[hmk]at hv;rw[hv]at h1;cases h1
   | some p=>
    obtain⟨c,cap'⟩:=p
    simp only[hmk]at hv
    rw[hv]at h1
    injection h1 with h1 _ h1'
    injection h1 with h1
    injection h1 with h1
    subst h1;subst h1'
    exact .inr ⟨c,cap',cur,hv,h2,(hb c cap' hmk).trans h3,h4⟩
 | map es=>
  obtain⟨c,cap,es',cl,h1,h2,h3,h4⟩:=h
  exact⟨c,cap,es',cl,hm.trans h1,(hb c cap h1).trans h2,h3,fun i x y hx hy=>⟨(h4 i x y hx hy).1.mono A,(h4 i x y hx hy).2.mono A⟩⟩
 | iter s p=>
  obtain⟨c,cap,h1,h2⟩:=h
  exact⟨c,cap,hm.trans h1,(hb c cap h1).trans h2⟩
 | loop st pe a ps x y=>
  obtain⟨c,cap,r,h1,h2,h3,h4,h5,h6⟩:=h
  exact⟨c,cap,r,hm.trans h1,(hb c cap h1).trans h2,h3,h4,h5.mono A,h6⟩
 | held=>exact hm.trans h
theorem ObjRel.blocks {C:Ctx} {w w':World} {k:Nat} {o:AObj} (h:ObjRel C w k o) (hb:∀c cap,C.μ k=some (c,cap)→w'.heap[c]?=w.heap[c]?):ObjRel C w' k o:=by
 cases o with
 | cells e cs=>
  obtain⟨c,cap,arr,lo,hi,h1,⟨e',h2,h5⟩,h3⟩:=h
  exact⟨c,cap,arr,lo,hi,h1,⟨e',(hb c cap h1).trans h2,h5⟩,h3⟩
 | row e s cs=>
  obtain⟨n,v,ys,⟨hl,hown⟩,hys,hv⟩:=h
  refine⟨n,v,ys,⟨hl,?_⟩,hys,hv⟩
  rcases hown with h1 | ⟨g,cap,cur,h1,h2,h3,h4⟩
  ·exact .inl h1
  ·cases hmk:C.μ k with
   | none=>simp only[hmk]at hv;rw[hv]at h1;cases h1
   | some p=>
    obtain⟨c,cap'⟩:=p
    simp only[hmk]at hv
    rw[hv]at h1
    injection h1 with h1 _ h1'
    injection h1 with h1
    injection h1 with h1
    subst h1;subst h1'
    exact .inr ⟨c,cap',cur,hv,h2,(hb c cap' hmk).trans h3,h4⟩
 | map es=>
  obtain⟨c,cap,es',cl,h1,h2,h3⟩:=h
  exact⟨c,cap,es',cl,h1,(hb c cap h1).trans h2,h3⟩
 | iter s p=>
  obtain⟨c,cap,h1,h2⟩:=h
  exact⟨c,cap,h1,(hb c cap h1).trans h2⟩
 | loop st pe a ps x y=>
  obtain⟨c,cap,r,h1,h2,h3⟩:=h
  exact⟨c,cap,r,h1,(hb c cap h1).trans h2,h3⟩
 | held=>exact h
theorem Rel.elsewhere {G:Nat→Option (List AV)} {C:Ctx} {w w':World} (R:Rel G C w) {r:Nat} {o:Obj} (hr:w.heap[r]?=some o) (hn:¬C.owns r) (hc:∀arr e fz,o ≠ .cells arr e fz)
  (hw:∀b,b≠r→w'.heap[b]?=w.heap[b]?):Rel G C w' where
 pres k o' hk:=⟨(R.pres k o' hk).1,(R.pres k o' hk).2.1,(R.pres k o' hk).2.2.blocks fun c cap hm=>hw c fun e=>hn (e▸⟨k,o',cap,hk,hm⟩)⟩
 inj:=R.inj
 imm c a hI:=by
  obtain⟨h1,arr,e,fz,h2,h3⟩:=R.imm c a hI
  exact⟨h1,arr,e,fz,(hw c fun e2=>by subst e2;rw[hr]at h2;cases h2;exact hc _ _ _ rfl).trans h2,h3⟩
 glob:=R.glob
theorem Adv.same {C:Ctx} {w w':World} (hh:w'.heap=w.heap) (h1:w'.os=w.os) (h2:w'.tape=w.tape) (h3:w'.output=w.output):Adv C w C w':=
 ⟨Nat.le_refl _,fun k _ hr=>⟨hr,SigLe.refl C k⟩,fun _ _ h=>h,fun _ h => .inr h,fun _ _ h => .inl h,fun _ _ _=>by rw[hh],by rw[hh];exact Nat.le_refl _,h1,h2,h3⟩
theorem Rel.same {G:Nat→Option (List AV)} {C:Ctx} {w w':World} (R:Rel G C w) (hh:w'.heap=w.heap) (h1:w'.os=w.os) (h2:w'.tape=w.tape) (h3:w'.output=w.output):Rel G C w':={
 pres k o hk:=⟨(R.pres k o hk).1,(R.pres k o hk).2.1,(R.pres k o hk).2.2.keep (Adv.same hh h1 h2 h3) rfl (fun _ _ _=>by rw[hh])⟩
 inj:=R.inj
 imm c a hc:=by rw[hh];exact R.imm c a hc
 glob:=R.glob }
def upd (μ:Nat→Option (Nat × Nat)) (k:Nat) (p:Option (Nat × Nat)):Nat→Option (Nat × Nat):=fun j=>if j=k then p else μ j
@[simp] theorem upd_same (μ:Nat→Option (Nat × Nat)) (k:Nat) (p:Option (Nat × Nat)):upd μ k p k=p:=by simp[upd]
theorem upd_ne (μ:Nat→Option (Nat × Nat)) {k j:Nat} (p:Option (Nat × Nat)) (h:j≠k):upd μ k p j=μ j:=by simp[upd,h]
def Ctx.add (C:Ctx) (n:Nat) (o:AObj) (p:Option (Nat × Nat)):Ctx:={ H:=C.H.allocAt n o,μ:=upd C.μ n p,I:=C.I }
def AHeap.free (H:AHeap) (n:Nat):Prop:=H.next≤n∨H.get n=some .held
theorem Rel.get_free {G:Nat→Option (List AV)} {C:Ctx} {w:World} (R:Rel G C w) {k:Nat} (h:C.H.free k):C.H.get k=none∨C.H.get k=some .held:=by
 rcases h with h | h
 ·cases hk:C.H.get k with
  | none=>exact .inl rfl
  | some o=>
   obtain⟨h1,h2,_⟩:=R.pres k o hk
   omega
 ·exact .inr h
theorem SigLe.add {C:Ctx} {n:Nat} {o:AObj} {p:Option (Nat × Nat)} {k:Nat} (hk:k≠n):SigLe C (C.add n o p) k:=by
 have h1:(C.add n o p).H.get k=C.H.get k:=AHeap.get_allocAt_ne _ _ hk
 have h2:(C.add n o p).μ k=C.μ k:=upd_ne _ _ hk
 unfold SigLe
 rw[h1,h2]
 exact SigLe.refl C k
theorem Rel.add {G:Nat→Option (List AV)} {C:Ctx} {w w':World} (R:Rel G C w) (n:Nat) (hn:C.H.free n) (o:AObj) (p:Option (Nat × Nat))
  (hold:∀c,c<w.heap.size→w'.heap[c]?=w.heap[c]?) (hsz:w.heap.size≤w'.heap.size)
  (h1:w'.os=w.os) (h2:w'.tape=w.tape) (h3:w'.output=w.output)
  (hp:∀c cap,p=some (c,cap)→w.heap.size≤c)
  (ho:Adv C w (C.add n o p) w'→ObjRel (C.add n o p) w' n o):Rel G (C.add n o p) w'∧Adv C w (C.add n o p) w':=by
 have hown:∀c,(C.add n o p).owns c→w.heap.size≤c∨C.owns c:=by
  rintro c ⟨k,o',cap,hk,hm⟩
  by_cases e:k=n
  ·subst e
   simp only[Ctx.add,upd_same]at hm
   exact .inl (hp c cap hm)
  ·simp only[Ctx.add,upd_ne _ _ e,AHeap.get_allocAt_ne _ _ e]at hm hk
   exact .inr ⟨k,o',cap,hk,hm⟩
 have hsig:∀k,k<C.H.next→SigLe C (C.add n o p) k:=by
  intro k hk
  by_cases e:k=n
  ·subst e
   rcases hn with hn | hn
   ·omega
   ·unfold SigLe;simp only[hn]
  ·exact SigLe.add e
 have A:Adv C w (C.add n o p) w':=
  ⟨by simp only[Ctx.add,AHeap.next_allocAt];omega,fun k hk hr=>⟨rfl,hsig k hk⟩,fun _ _ h=>h,hown,fun _ _ h => .inl h,fun c hc _=>hold c hc,hsz,h1,h2,h3⟩
 refine⟨⟨fun k o' hk=>?_,fun k1 k2 o1 o2 c cap1 cap2 hk1 hk2 hm1 hm2=>?_,fun c a hc=>?_,fun g cs hg=>?_⟩,A⟩
 ·by_cases e:k=n
  ·subst e
   simp only[Ctx.add,AHeap.get_allocAt_same,Option.some.injEq]at hk
   subst hk
   exact⟨by simp only[Ctx.add,AHeap.next_allocAt];omega,by simp[Ctx.add,AHeap.res_allocAt],ho A⟩
  ·simp only[Ctx.add,AHeap.get_allocAt_ne _ _ e]at hk
   have h:=R.pres k o' hk
   refine⟨by simp only[Ctx.add,AHeap.next_allocAt];omega,by simp only[Ctx.add,AHeap.res_allocAt,e,if_false];exact h.2.1,h.2.2.keep A (by simp[Ctx.add,upd_ne _ _ e]) (fun c cap hm=>hold c (R.owned_lt ⟨k,o',cap,hk,hm⟩))⟩
 ·by_cases e1:k1=n<;>by_cases e2:k2=n
  ·rw[e1,e2]
  ·subst e1
   simp only[Ctx.add,upd_same,upd_ne _ _ e2,AHeap.get_allocAt_ne _ _ e2]at hm1 hm2 hk2
   have:=R.owned_lt ⟨k2,o2,cap2,hk2,hm2⟩
   have:=hp c cap1 hm1
   omega
  ·subst e2
   simp only[Ctx.add,upd_same,upd_ne _ _ e1,AHeap.get_allocAt_ne _ _ e1]at hm1 hm2 hk1
   have:=R.owned_lt ⟨k1,o1,cap1,hk1,hm1⟩
   have:=hp c cap2 hm2
   omega
  ·simp only[Ctx.add,upd_ne _ _ e1,upd_ne _ _ e2,AHeap.get_allocAt_ne _ _ e1,AHeap.get_allocAt_ne _ _ e2]at hm1 hm2 hk1 hk2
   exact R.inj k1 k2 o1 o2 c cap1 cap2 hk1 hk2 hm1 hm2
 ·obtain⟨hno,arr,e,fz,hh,ha⟩:=R.imm c a hc
  have hlt:c<w.heap.size:=(Array.getElem?_eq_some_iff.1 hh).1
  refine⟨fun h=>?_,arr,e,fz,(hold c hlt).trans hh,ha⟩
  rcases hown c h with h | h
  ·omega
  ·exact hno h
 ·obtain⟨a,ha,hv⟩:=R.glob g cs hg
  exact⟨a,ha,hv.mono A⟩
def Ctx.put (C:Ctx) (k:Nat) (o:AObj):Ctx:={ C with H:=C.H.set k o }
def AObj.alike:AObj→AObj→Prop
 | .cells _ _,.cells _ _=>True
 | .row _ s cs,.row _ s' cs'=>s'=s∧cs'.length=cs.length
 | .map _,.map _=>True
 | .iter _ _,.iter _ _=>True
 | .loop ..,.loop ..=>True
 | _,_=>False
theorem Rel.put {G:Nat→Option (List AV)} {C:Ctx} {w w':World} (R:Rel G C w) {k:Nat} {o o':AObj} (hk:C.H.get k=some o) (hal:o.alike o')
  {c cap:Nat} (hm:C.μ k=some (c,cap))
  (hold:∀b,b≠c→w'.heap[b]?=w.heap[b]?) (hsz:w'.heap.size=w.heap.size)
  (h1:w'.os=w.os) (h2:w'.tape=w.tape) (h3:w'.output=w.output)
  (ho:Adv C w (C.put k o') w'→ObjRel (C.put k o') w' k o'):Rel G (C.put k o') w'∧Adv C w (C.put k o') w':=by
 have hown:∀b,(C.put k o').owns b→C.owns b:=by
  rintro b ⟨j,oj,cap',hj,hmj⟩
  by_cases e:j=k
  ·subst e;exact⟨j,o,cap',hk,hmj⟩
  ·simp only[Ctx.put,AHeap.get_set_ne _ _ e]at hj
   exact⟨j,oj,cap',hj,hmj⟩
 have hc:C.owns c:=⟨k,o,cap,hk,hm⟩
 have A:Adv C w (C.put k o') w':=by
  refine⟨Nat.le_refl _,fun j hj hr=>⟨hr,?_⟩,fun _ _ h=>h,fun b hb => .inr (hown b hb),fun _ _ h => .inl h,fun b _ hb=>hold b (fun e=>hb (e▸hc)),by omega,h1,h2,h3⟩
  by_cases e:j=k
  ·subst e
   unfold SigLe
   simp only[Ctx.put,AHeap.get_set_same,hk]
   cases o<;>cases o'<;>simp only[AObj.alike]at hal
   ·exact .inr ⟨⟨_,_,rfl⟩,trivial⟩
   ·obtain⟨rfl,hl⟩:=hal
    exact .inr ⟨⟨_,_,⟨rfl,hl⟩⟩,trivial⟩
   ·exact .inr ⟨⟨_,rfl⟩,trivial⟩
   ·exact .inr ⟨⟨_,_,rfl⟩,trivial⟩
   ·exact .inr ⟨⟨_,_,_,_,_,_,rfl⟩,trivial⟩
  ·have h1:(C.put k o').H.get j=C.H.get j:=AHeap.get_set_ne _ _ e
   unfold SigLe
   rw[h1]
   exact SigLe.refl C j
 refine⟨⟨fun j oj hj=>?_,fun k1 k2 o1 o2 b cap1 cap2 hk1 hk2 hm1 hm2=>?_,fun b a hb=>?_,fun g cs hg=>?_⟩,A⟩
 ·by_cases e:j=k
  ·subst e
   simp only[Ctx.put,AHeap.get_set_same,Option.some.injEq]at hj
   subst hj
   exact⟨(R.pres j o hk).1,(R.pres j o hk).2.1,ho A⟩
  ·simp only[Ctx.put,AHeap.get_set_ne _ _ e]at hj
   have h:=R.pres j oj hj
   refine⟨h.1,h.2.1,h.2.2.keep A rfl (fun b cap' hmb=>hold b (fun eb=>e ?_))⟩
   subst eb
   exact R.inj j k oj o b cap' cap hj hk hmb hm
 ·have f:∀j oj,(C.put k o').H.get j=some oj→∃o'',C.H.get j=some o'':=by
   intro j oj hj
   by_cases e:j=k
   ·subst e;exact⟨o,hk⟩
   ·simp only[Ctx.put,AHeap.get_set_ne _ _ e]at hj;exact⟨oj,hj⟩
  obtain⟨p1,q1⟩:=f k1 o1 hk1
  obtain⟨p2,q2⟩:=f k2 o2 hk2
  exact R.inj k1 k2 p1 p2 b cap1 cap2 q1 q2 hm1 hm2
 ·obtain⟨hn,arr,e,fz,hh,ha⟩:=R.imm b a hb
  refine⟨fun h=>hn (hown b h),arr,e,fz,?_,ha⟩
  rw[hold b (fun eb=>hn (eb▸hc))];exact hh
 ·obtain⟨a,ha,hv⟩:=R.glob g cs hg
  exact⟨a,ha,hv.mono A⟩
theorem Rel.drop {G:Nat→Option (List AV)} {C:Ctx} {w:World} (R:Rel G C w) (H':AHeap) (hn:C.H.next≤H'.next) (hr:∀k,k<C.H.next→C.H.res k=false→H'.res k=false) (hs:∀k,H'.get k=none∨H'.get k=C.H.get k) :
  Rel G { C with H:=H' } w∧Adv C w { C with H:=H' } w:=by
 have hsub:∀k o,H'.get k=some o→C.H.get k=some o:=fun k o hk=>by
  rcases hs k with h | h
  ·rw[h]at hk;cases hk
  ·rw[←h];exact hk
 have hown:∀b,Ctx.owns { C with H:=H' } b→C.owns b:=fun b ⟨j,oj,cap',hj,hmj⟩=>⟨j,oj,cap',hsub j oj hj,hmj⟩
 have A:Adv C w { C with H:=H' } w:=by
  refine⟨hn,fun k hk hrk=>⟨hr k hk hrk,?_⟩,fun _ _ h=>h,fun b hb => .inr (hown b hb),fun _ _ h => .inl h,fun _ _ _=>rfl,Nat.le_refl _,rfl,rfl,rfl⟩
  have hsig:=SigLe.refl C k
  unfold SigLe at hsig ⊢
  rcases hs k with h | h
  ·simp only[h]
   cases hk:C.H.get k with
   | none=>trivial
   | some o=>cases o<;>first | exact .inl trivial | trivial
  ·simp only[h,and_true]
   simp only[eq_self_iff_true,and_true]at hsig
   exact hsig
 refine⟨⟨fun j oj hj=>?_,fun k1 k2 o1 o2 b cap1 cap2 hk1 hk2 hm1 hm2=>R.inj k1 k2 o1 o2 b cap1 cap2 (hsub _ _ hk1) (hsub _ _ hk2) hm1 hm2,fun b a hb=>?_,fun g cs hg=>?_⟩,A⟩
 ·have h:=R.pres j oj (hsub j oj hj)
  exact⟨Nat.lt_of_lt_of_le h.1 hn,hr j h.1 h.2.1,h.2.2.keep A rfl (fun _ _ _=>rfl)⟩
 ·obtain⟨h1,h2⟩:=R.imm b a hb
  exact⟨fun h=>h1 (hown b h),h2⟩
 ·obtain⟨a,ha,hv⟩:=R.glob g cs hg
  exact⟨a,ha,hv.mono A⟩
end Go.Ab
namespace Go.Ab
open Go
def ActRel (C:Ctx) (a:List AV) (ac:Act):Prop:=VRs C a ac.tmps.toList
def ofFlat:Value→AV
 | .bool b => .bool b
 | .int k n => .int k n
 | .float k b => .flt k b
 | .string s => .str s.data.toList
 | .pointer none => .nilp
 | .slice none 0 0 => .nils
 | .map none => .nilm
 | .nilFunc => .nilf
 | .nilIface => .nili
 | _ => .und
def ofConst:Value→AV
 | .agg cs => .agg (cs.toList.map ofFlat)
 | v=>ofFlat v
def ev (a:List AV):Operand→AV
 | .tmp t=>a.getD t .und
 | .const v=>ofConst v
 | .global g => .gptr g 0
 | .func f => .func f []
theorem VR.ofFlat (C:Ctx) (v:Value):VR C (ofFlat v) v:=by
 unfold Ab.ofFlat
 split<;>constructor
theorem VR.ofConst (C:Ctx) (v:Value):VR C (ofConst v) v:=by
 unfold Ab.ofConst
 split
 ·rename_i cs
  refine .agg _ _ (by simp) (fun i x y hx hy=>?_)
  simp only[List.getElem?_map,Option.map_eq_some_iff]at hx
  obtain⟨u,hu,rfl⟩:=hx
  rw[Array.getElem?_toList,hy]at hu
  cases hu
  exact VR.ofFlat C _
 ·exact VR.ofFlat C _
theorem ev_ok {C:Ctx} {a:List AV} {ac:Act} (h:ActRel C a ac) (x:Operand):VR C (ev a x) (ac.eval x):=by
 cases x with
 | tmp t=>
  have:=VRs.getD h t
  simp only[ev,Act.eval]
  rw[Array.getD_eq_getD_getElem?,←Array.getElem?_toList]
  exact this
 | const v=>exact VR.ofConst C v
 | global g=>exact .gptr g 0
 | func f=>exact .func f [] #[] rfl (fun i x y h=>by simp at h)
def isAggT (d:TypeDesc):Bool:=match d with | .struct _ | .array _ _=>true | _=>false
/-! What is asked of the program's types, a small question each. -/
def szT (P:Program) (t:TypeId):Option Nat:=(P.info? t).map (·.size)
def aggT (P:Program) (t:TypeId):Option Bool:=(P.underlying t).map isAggT
def elemT (P:Program) (t:TypeId):Option TypeId:=match P.underlying t with | some (.slice e)=>some e | _=>none
def arrT (P:Program) (t:TypeId):Option (Nat × TypeId):=match P.underlying t with | some (.array n e)=>some (n,e) | _=>none
def intT (P:Program) (t:TypeId):Option IntKind:=match P.underlying t with | some (.int k)=>some k | _=>none
def strT (P:Program) (t:TypeId):Bool:=match P.underlying t with | some .string=>true | _=>false
def ifaceT (P:Program) (t:TypeId):Option Bool:=match P.underlying t with | some (.interface _)=>some true | some _=>some false | none=>none
def mapT (P:Program) (t:TypeId):Option (TypeId × TypeId):=match P.underlying t with | some (.map k e)=>some (k,e) | _=>none
def zeroA (P:Program) (t:TypeId):Option AV:=((P.info? t).bind (·.zero)).map ofConst
def fieldT (P:Program) (s:TypeId) (f:Nat):Option (Nat × TypeId):=match P.underlying s with | some (.struct fs)=>(fs[f]?).map fun f=>(f.offset,f.type) | _=>none
def partA (P:Program) (t:TypeId) (cs:List AV) (off:Nat):Option AV:=
 match aggT P t,szT P t with
 | some true,some n=>if off+n≤cs.length then some (.agg ((cs.drop off).take n))else none
 | some false,some _=>cs[off]?
 | _,_=>none
theorem szT_info {P:Program} {t n:Nat} (h:szT P t=some n):∃i,P.info? t=some i∧i.size=n:=by
 simpa[szT,Option.map_eq_some_iff]using h
theorem aggT_run {P:Program} {t:TypeId} {b:Bool} (h:aggT P t=some b) (w:World):(isAgg t).run P w = .ok b w:=by
 simp only[aggT,Option.map_eq_some_iff]at h
 obtain⟨d,hd,hb⟩:=h
 simp only[isAgg,Sem.run_bind,run_underlying hd,Result.andThen]
 cases d<;>simp only[isAggT]at hb<;>subst hb<;>rfl
def loadA (P:Program) (G:Nat→Option (List AV)) (H:AHeap) (t:TypeId):AV→Option AV
 | .ptr k off=>match H.get k with
  | some (.cells _ cs)=>partA P t cs off
  | some (.row _ _ cs)=>partA P t cs off
  | _=>none
 | .gptr g off=>match G g with
  | some cs=>partA P t cs off
  | none=>none
 | .lptr cs off=>partA P t cs off
 | _=>none
def CellsAt (C:Ctx) (w:World) (cs:List AV) (c base:Nat):Prop:=
 ∃arr e fz,w.heap[c]?=some (.cells arr e fz)∧∀(i:Nat) (x:AV),cs[i]?=some x→∃y,arr[base+i]?=some y∧VR C x y
theorem CellsAt.load {P:Program} {C:Ctx} {w:World} {cs:List AV} {c base:Nat} (h:CellsAt C w cs c base) {t:TypeId} {off:Nat} {x:AV} (hp:partA P t cs off=some x) :
  ∃y,(loadVar t ⟨c,base+off,none⟩).run P w = .ok y w∧VR C x y:=by
 obtain⟨arr,e,fz,hh,hc⟩:=h
 have hcell:∀j,w.cell? ⟨c,j,none⟩=arr[j]?:=fun j=>by simp[World.cell?,hh]
 unfold partA at hp
 split at hp
 ·rename_i n hag hsz
  obtain⟨i,hi,rfl⟩:=szT_info hsz
  split at hp
  case isFalse=>cases hp
  case isTrue hle=>
   cases hp
   have hload:=run_loadCells (P:=P) w ⟨c,base+off,none⟩ i.size (fun j=>(arr[base+off+j]?).getD undef) (fun j hj=>by
    obtain⟨y,hy,_⟩:=hc (off+j) (cs[off+j]'(by omega)) (by simp)
    have ha:(⟨c,base+off,none⟩:Addr).add j=⟨c,base+off+j,none⟩:=by unfold Addr.add;split<;>simp_all
    rw[ha,hcell]
    rw[Nat.add_assoc,hy];rfl)
   refine⟨.agg ((List.range i.size).map fun j=>(arr[base+off+j]?).getD undef).toArray,?_,?_⟩
   ·simp[loadVar,aggT_run hag,sizeOf,typeInfo,hi,hload]
   ·refine .agg _ _ (by simp;omega) (fun j x y hx hy=>?_)
    simp only[List.getElem?_take,List.getElem?_drop]at hx
    split at hx
    case isFalse=>cases hx
    case isTrue hj=>
     obtain⟨y',hy',hv⟩:=hc (off+j) x hx
     simp[hj,Nat.add_assoc,hy']at hy
     rw[←hy];exact hv
 ·rename_i hag hsz
  obtain⟨y,hy,hv⟩:=hc off x hp
  refine⟨y,?_,hv⟩
  simp[loadVar,aggT_run hag,hcell,hy]
 ·cases hp
theorem ObjRel.cellsAt_cells {C:Ctx} {w:World} {k:Nat} {e:TypeId} {cs:List AV} (h:ObjRel C w k (.cells e cs)) {c cap:Nat} (hm:C.μ k=some (c,cap)):CellsAt C w cs c 0:=by
 obtain⟨c',cap',arr,lo,hi,h1,⟨e',h2,_⟩,h3,_⟩:=h
 rw[hm]at h1;cases h1
 refine⟨arr,e',(lo,hi),h2,fun i x hx=>?_⟩
 rw[Nat.zero_add]
 exact h3 i x hx
theorem ObjRel.row_block {C:Ctx} {w:World} {k:Nat} {e:TypeId} {size:Nat} {cs:List AV} (h:ObjRel C w k (.row e size cs)) {c cap:Nat} (hm:C.μ k=some (c,cap)) :
  ∃n cur,w.heap[c]?=some (.cells cur e (0,0))∧n≤cap∧cap≤maxLen∧cur.size=cap*size∧cs.length=n*size∧VRs C cs (cur.toList.take (n*size)):=by
 obtain⟨n,v,ys,⟨hl,hown⟩,hys,hv⟩:=h
 simp only[hm]at hv
 rcases hown with ⟨h1,_⟩ | ⟨g,cap',cur,h1,_,h3,h4,h5,h6,h7⟩
 ·rw[h1]at hv;cases hv
 ·rw[h1]at hv
  cases hv
  subst h7
  exact⟨n,cur,h3,h4,h5,h6,hys.1.trans hl,hys⟩
theorem ObjRel.cellsAt_row {C:Ctx} {w:World} {k:Nat} {e:TypeId} {size:Nat} {cs:List AV} (h:ObjRel C w k (.row e size cs)) {c cap:Nat} (hm:C.μ k=some (c,cap)):CellsAt C w cs c 0:=by
 obtain⟨n,cur,h1,_,_,_,_,h2⟩:=h.row_block hm
 refine⟨cur,e,(0,0),h1,fun i x hx=>?_⟩
 obtain⟨y,hy,hv⟩:=h2.get hx
 rw[List.getElem?_take]at hy
 split at hy
 ·exact⟨y,by rw[Nat.zero_add,←Array.getElem?_toList];exact hy,hv⟩
 ·cases hy
theorem loadA_ok {P:Program} {G:Nat→Option (List AV)} {C:Ctx} {w:World} (R:Rel G C w) {t:TypeId} {p:AV} {p':Value} {x:AV} (hp:VR C p p') (h:loadA P G C.H t p=some x) :
  ∃y,(Instr.loadAt t p').run P w = .ok y w∧VR C x y:=by
 have go:∀(c base off:Nat) (cs:List AV),CellsAt C w cs c base→partA P t cs off=some x→∃y,(Instr.loadAt t (.pointer (some ⟨c,base+off,none⟩))).run P w = .ok y w∧VR C x y:=by
  intro c base off cs hc hpt
  obtain⟨y,h1,h2⟩:=hc.load hpt
  exact⟨y,by simpa[Instr.loadAt,Instr.sureAddr]using h1,h2⟩
 unfold loadA at h
 split at h
 ·rename_i k off
  cases hp with
  | ptr _ _ a' hpo=>
  obtain⟨_,_,hpo⟩:=hpo
  split at h
  ·rename_i e cs hk
   simp only[hk]at hpo
   obtain⟨c,cap,hm,rfl⟩:=hpo
   have:=go c 0 off cs ((R.pres k _ hk).2.2.cellsAt_cells hm) h
   simpa using this
  ·rename_i e s cs hk
   simp only[hk]at hpo
   obtain⟨c,cap,hm,rfl⟩:=hpo
   have:=go c 0 off cs ((R.pres k _ hk).2.2.cellsAt_row hm) h
   simpa using this
  ·cases h
 ·rename_i g off
  cases hp
  split at h
  ·rename_i cs hg
   obtain⟨a,hI,hv⟩:=R.glob g cs hg
   obtain⟨_,arr,e,fz,hh,rfl⟩:=R.imm g a hI
   have:=go g 0 off cs ⟨arr,e,fz,hh,fun i x hx=>by
    obtain⟨y,hy,hxy⟩:=hv.get hx
    exact⟨y,by rw[Nat.zero_add,←Array.getElem?_toList];exact hy,hxy⟩⟩ h
   simpa using this
  ·cases h
 ·rename_i cs off
  cases hp with
  | lptr _ _ c base arr f hI h1 h2=>
  obtain⟨_,arr',e,fz,hh,ha⟩:=R.imm c arr hI
  exact go c base off cs ⟨arr',e,fz,hh,fun i x hx=>⟨f i,by rw[←Array.getElem?_toList,ha];exact h1 i x hx,h2 i x hx⟩⟩ h
 ·cases h
def AV.one:AV→Bool
 | .und | .agg _ | .tup _=>false
 | _=>true
theorem VR.one {C:Ctx} {x:AV} {y:Value} (h:VR C x y) (hx:x.one=true):y.oneCell'=true:=by
 cases h with
 | und=>cases hx
 | agg=>cases hx
 | tup=>cases hx
 | any _ h=>exact h
 | _=>rfl
def AV.cellsOf:AV→List AV
 | .agg cs=>cs
 | v=>[v]
def setCells (cs:List AV) (off:Nat):List AV→List AV
 | []=>cs
 | x::xs=>setCells (cs.set off x) (off+1) xs
theorem setCells_length:∀(xs cs:List AV) (off:Nat),(setCells cs off xs).length=cs.length
 | [],_,_=>rfl
 | x::xs,cs,off=>by simp[setCells,setCells_length xs]
def storeA (P:Program) (H:AHeap) (t:TypeId) (p x:AV):Option AHeap:=
 match p,szT P t with
 | .ptr k off,some n=>
  if x.cellsOf.length=n∧x.cellsOf.all AV.one=true then
   match H.get k with
   | some (.cells e cs)=>if off+n≤cs.length then some (H.set k (.cells e (setCells cs off x.cellsOf)))else none
   | some (.row e s cs)=>if off+n≤cs.length then some (H.set k (.row e s (setCells cs off x.cellsOf)))else none
   | _=>none
  else none
 | _,_=>none
theorem frozen_none {w:World} {c off:Nat} {arr:Array Value} {e:TypeId} {lo hi:Nat} (hh:w.heap[c]?=some (.cells arr e (lo,hi))) (hf:hi≤lo∨arr.size≤lo) (ho:off<arr.size) :
  w.frozen? ⟨c,off,none⟩=false:=by
 simp only[World.frozen?,hh]
 simp only[Bool.and_eq_false_iff,decide_eq_false_iff_not]
 omega
theorem setCell_heap {w:World} {c off:Nat} {arr:Array Value} {e:TypeId} {fz:Nat × Nat} {y:Value} (hh:w.heap[c]?=some (.cells arr e fz)) :
  (w.setCell ⟨c,off,none⟩ y).heap[c]?=some (.cells (arr.setIfInBounds off y) e fz):=by
 simp only[World.setCell]
 rw[Array.getElem?_modify]
 simp[hh]
theorem setCell_other {w:World} {c off:Nat} {y:Value} {b:Nat} (hb:b≠c):(w.setCell ⟨c,off,none⟩ y).heap[b]?=w.heap[b]?:=by
 simp only[World.setCell,Array.getElem?_modify]
 have:¬(c=b):=fun e=>hb e.symm
 simp[this]
theorem store_one {P:Program} {G:Nat→Option (List AV)} {C:Ctx} {w:World} (R:Rel G C w) {k off:Nat} {o:AObj} {cs:List AV} (mk:List AV→AObj)
  (hmk:(∃e,mk = .cells e)∨∃e s,mk = .row e s) (hk:C.H.get k=some o) (ho:o=mk cs) {c cap:Nat} (hm:C.μ k=some (c,cap)) (hoff:off<cs.length)
  {x:AV} {y:Value} (hv:VR C x y) (hx:x.one=true) :
  (store ⟨c,off,none⟩ y).run P w = .ok () (w.setCell ⟨c,off,none⟩ y) ∧
   Rel G (C.put k (mk (cs.set off x))) (w.setCell ⟨c,off,none⟩ y)∧Adv C w (C.put k (mk (cs.set off x))) (w.setCell ⟨c,off,none⟩ y):=by
 subst ho
 have hobj:=(R.pres k _ hk).2.2
 have hy:=hv.one hx
 have key:∃arr e lo hi,w.heap[c]?=some (.cells arr e (lo,hi))∧(hi≤lo∨arr.size≤lo)∧off<arr.size:=by
  rcases hmk with ⟨e,rfl⟩ | ⟨e,s,rfl⟩
  ·obtain⟨c',cap',arr,lo,hi,h1,⟨e',h2,_⟩,h3,h4⟩:=hobj
   rw[hm]at h1;cases h1
   obtain⟨y0,hy0,_⟩:=h3 off cs[off] (by simp)
   exact⟨arr,e',lo,hi,h2,h4,(Array.getElem?_eq_some_iff.1 hy0).1⟩
  ·obtain⟨n,cur,h1,h2,h3,h4,h5,h6⟩:=hobj.row_block hm
   refine⟨cur,e,0,0,h1,.inl (Nat.le_refl _),?_⟩
   have:n*s≤cap*s:=Nat.mul_le_mul_right _ h2
   omega
 obtain⟨arr,e,lo,hi,hh,hfz,hlt⟩:=key
 have hcell:w.cell? ⟨c,off,none⟩=some arr[off]:=by simp[World.cell?,hh,hlt]
 have hrun:(store ⟨c,off,none⟩ y).run P w = .ok () (w.setCell ⟨c,off,none⟩ y):=by
  rw[run_store P w _ y _ hy,hcell]
  simp[frozen_none hh hfz hlt]
 refine⟨hrun,?_⟩
 refine R.put hk ?_ hm (fun b hb=>setCell_other hb) (by simp) rfl rfl rfl (fun A=>?_)
 ·rcases hmk with ⟨e,rfl⟩ | ⟨e,s,rfl⟩
  ·trivial
  ·exact⟨rfl,by simp⟩
 ·rcases hmk with ⟨e',rfl⟩ | ⟨e',s,rfl⟩
  ·obtain⟨c',cap',arr',lo',hi',h1,⟨e2,h2,h5⟩,h3,h4⟩:=hobj
   rw[hm]at h1;cases h1
   refine⟨c,cap,_,lo',hi',hm,⟨e2,setCell_heap h2,fun he=>by simpa using h5 he⟩,fun i z hz=>?_,by simpa using h4⟩
   rw[List.getElem?_set]at hz
   by_cases hij:off=i
   ·subst hij
    simp only[if_true,hoff]at hz
    cases hz
    obtain⟨y0,hy0,_⟩:=h3 off cs[off] (by simp)
    exact⟨y,by simp[(Array.getElem?_eq_some_iff.1 hy0).1],hv.mono A⟩
   ·simp only[hij,if_false]at hz
    obtain⟨y0,hy0,hv0⟩:=h3 i z hz
    exact⟨y0,by rw[Array.getElem?_setIfInBounds_ne hij];exact hy0,hv0.mono A⟩
  ·obtain⟨n,cur,h1,h2,h3,h4,h5,h6⟩:=hobj.row_block hm
   have hlen:n*s≤cap*s:=Nat.mul_le_mul_right _ h2
   refine⟨n,.slice (some ⟨c,0,none⟩) n cap,((cur.setIfInBounds off y).toList.take (n*s)),⟨?_,.inr ⟨c,cap,_,rfl,Nat.zero_le _,setCell_heap h1,h2,h3,by simpa using h4,rfl⟩⟩,?_,by simp[Ctx.put,hm]⟩
   ·simp;omega
   ·have h7:=(h6.mono A).set off (hv.mono A)
    have e1:(cur.setIfInBounds off y).toList.take (n*s)=(cur.toList.take (n*s)).set off y:=by
     rw[Array.toList_setIfInBounds,List.take_set]
    rw[e1];exact h7
theorem VRs.all_cells {C:Ctx} {x:AV} {y:Value} (h:VR C x y) (hx:x.cellsOf.all AV.one=true):VRs C x.cellsOf y.cells.toList:=by
 cases h with
 | agg cells vs hl h=>exact⟨by simpa[AV.cellsOf,Value.cells]using hl,fun i a b ha hb=>h i a b ha (by simpa[Value.cells]using hb)⟩
 | und=>simp[AV.cellsOf,AV.one]at hx
 | tup=>simp[AV.cellsOf,AV.one]at hx
 | any _ hv=>
  have:y.cells=#[y]:=by cases y<;>first | rfl | cases hv
  rw[this]
  exact(VRs.nil C).cons (.any y hv)
 | _=>exact(VRs.nil C).cons (by constructor<;>assumption)
theorem store_many {P:Program} {G:Nat→Option (List AV)} {k:Nat} {c cap:Nat} (mk:List AV→AObj) (hmk:(∃e,mk = .cells e)∨∃e s,mk = .row e s) (base:Nat) :
  ∀(xs:List AV) (ys:List Value) (i:Nat) (cs:List AV) (C:Ctx) (w:World),Rel G C w→C.H.get k=some (mk cs)→C.μ k=some (c,cap)→base+i+xs.length≤cs.length →
   VRs C xs ys→(∀x∈xs,x.one=true) →
   ∃w',(storeCells ⟨c,base,none⟩ ys i).run P w = .ok () w'∧Rel G (C.put k (mk (setCells cs (base+i) xs))) w'∧Adv C w (C.put k (mk (setCells cs (base+i) xs))) w'
 | [],ys,i,cs,C,w,R,hk,hm,hle,hv,h1=>by
  have:ys=[]:=List.eq_nil_of_length_eq_zero (by rw[←hv.1];rfl)
  subst this
  have hH:(C.put k (mk cs))=C:=by
   have:C.H.set k (mk cs)=C.H:=by
    unfold AHeap.set
    have:(fun j=>if j=k then some (mk cs)else C.H.get j)=C.H.get:=by
     funext j;split
     ·rename_i e;rw[e,hk]
     ·rfl
    rw[this]
   simp[Ctx.put,this]
  refine⟨w,by simp[storeCells],?_⟩
  simp only[setCells,hH]
  exact⟨R,Adv.refl C w⟩
 | x::xs,ys,i,cs,C,w,R,hk,hm,hle,hv,h1=>by
  cases ys with
  | nil=>have:=hv.1;simp at this
  | cons y ys=>
  simp only[List.length_cons]at hle
  have hxy:VR C x y:=hv.2 0 x y rfl rfl
  have hrest:VRs C xs ys:=⟨by have:=hv.1;simpa using this,fun j a b ha hb=>hv.2 (j+1) a b (by simpa using ha) (by simpa using hb)⟩
  obtain⟨hs,R1,A1⟩:=store_one (P:=P) R mk hmk hk rfl hm (off:=base+i) (by omega) hxy (h1 x (by simp))
  have hk1:(C.put k (mk (cs.set (base+i) x))).H.get k=some (mk (cs.set (base+i) x)):=by simp[Ctx.put]
  obtain⟨w',hr,R2,A2⟩:=store_many (P:=P) mk hmk base xs ys (i+1) _ _ _ R1 hk1 hm (by simp;omega) (hrest.mono A1) (fun z hz=>h1 z (by simp[hz]))
  have hput:(C.put k (mk (cs.set (base+i) x))).put k (mk (setCells (cs.set (base+i) x) (base+(i+1)) xs))=C.put k (mk (setCells cs (base+i) (x::xs))):=by
   simp only[Ctx.put,AHeap.set,setCells,Nat.add_assoc]
   congr 2
   funext j
   split<;>rfl
  rw[hput]at R2 A2
  refine⟨w',?_,R2,A1.trans A2⟩
  have ha:(⟨c,base,none⟩:Addr).add i=⟨c,base+i,none⟩:=by
   unfold Addr.add;split
   ·rename_i e;subst e;rfl
   ·rfl
  simp only[storeCells,Sem.run_bind,ha,hs,Result.andThen_ok,hr]
theorem storeA_ok {P:Program} {G:Nat→Option (List AV)} {C:Ctx} {w:World} (R:Rel G C w) {t:TypeId} {p x:AV} {p' y:Value} {H':AHeap} (hp:VR C p p') (hx:VR C x y)
  (h:storeA P C.H t p x=some H') :
  ∃w' C',(Instr.storeAt t p' y).run P w = .ok () w'∧C'.H=H'∧Rel G C' w'∧Adv C w C' w':=by
 unfold storeA at h
 split at h
 case h_2=>cases h
 case h_1 k off n hsz0=>
  obtain⟨i,hi,rfl⟩:=szT_info hsz0
  split at h
  case isFalse=>cases h
  case isTrue hc=>
   obtain⟨hlen,hone⟩:=hc
   have hcells:=VRs.all_cells hx hone
   have hall:∀z∈x.cellsOf,z.one=true:=fun z hz=>by simpa using (List.all_eq_true.1 hone) z hz
   have hsz:y.cells.size=i.size:=by rw[←hlen,hcells.1];simp
   cases hp with
   | ptr _ _ a' hpo=>
   obtain⟨_,_,hpo⟩:=hpo
   have fin:∀(mk:List AV→AObj) (hmk:(∃e,mk = .cells e)∨∃e s,mk = .row e s) (cs:List AV) (c cap:Nat),C.H.get k=some (mk cs)→C.μ k=some (c,cap)→a'=⟨c,off,none⟩→off+i.size≤cs.length →
     ∃w' C',(Instr.storeAt t (.pointer (some a')) y).run P w = .ok () w'∧C'.H=C.H.set k (mk (setCells cs off x.cellsOf))∧Rel G C' w'∧Adv C w C' w':=by
    intro mk hmk cs c cap hk hm ha hle
    subst ha
    obtain⟨w',hr,R',A'⟩:=store_many (P:=P) mk hmk off x.cellsOf y.cells.toList 0 cs C w R hk hm (by omega) hcells hall
    refine⟨w',_,?_,rfl,R',A'⟩
    simp[Instr.storeAt,Instr.sureAddr,storeVar,sizeOf,typeInfo,hi,hsz,hr]
   split at h
   ·rename_i e cs hk
    simp only[hk]at hpo
    obtain⟨c,cap,hm,ha⟩:=hpo
    split at h
    ·rename_i hle;cases h;exact fin (.cells e) (.inl ⟨e,rfl⟩) cs c cap hk hm ha hle
    ·cases h
   ·rename_i e s cs hk
    simp only[hk]at hpo
    obtain⟨c,cap,hm,ha⟩:=hpo
    split at h
    ·rename_i hle;cases h;exact fin (.row e s) (.inr ⟨e,s,rfl⟩) cs c cap hk hm ha hle
    ·cases h
   ·cases h
end Go.Ab
namespace Go.Ab
open Go Go.Lib
theorem alloc_cells {G:Nat→Option (List AV)} {C:Ctx} {w:World} (R:Rel G C w) {n:Nat} (hn:C.H.free n) (e:TypeId) {cs:List AV} {vs:List Value} (h:VRs C cs vs) {arr:Array Value} (harr:arr.toList=vs) :
  Rel G (C.add n (.cells e cs) (some (w.heap.size,0))) (w.alloc (.cells arr e))∧Adv C w (C.add n (.cells e cs) (some (w.heap.size,0))) (w.alloc (.cells arr e)):=by
 refine R.add n hn (.cells e cs) (some (w.heap.size,0)) (fun c hc=>heap_alloc_old w _ c hc) (by simp) rfl rfl rfl (fun c cap h=>by cases h;exact Nat.le_refl _) (fun A=>?_)
 refine⟨w.heap.size,0,arr,0,0,by simp[Ctx.add],⟨e,heap_alloc_new w _,fun _=>⟨rfl,by rw[←Array.length_toList,harr,h.1],rfl,rfl⟩⟩,fun i x hx=>?_,.inl (Nat.le_refl _)⟩
 obtain⟨y,hy,hv⟩:=h.get hx
 exact⟨y,by rw[←Array.getElem?_toList,harr];exact hy,hv.mono A⟩
theorem PtrOk.new {C:Ctx} {n:Nat} {o:AObj} {c cap:Nat} (ho:∀es,o ≠ .map es) (hh:o ≠ .held:=by simp):PtrOk (C.add n o (some (c,cap))) n 0 ⟨c,0,none⟩:=by
 refine⟨by simp only[Ctx.add,AHeap.next_allocAt];omega,by simp[Ctx.add,AHeap.res_allocAt],?_⟩
 simp only[Ctx.add,AHeap.get_allocAt_same,upd_same]
 cases o with
 | map es=>exact(ho es rfl).elim
 | held=>exact(hh rfl).elim
 | _=>exact⟨c,cap,rfl,rfl⟩
theorem Rel.move {G:Nat→Option (List AV)} {C:Ctx} {w w':World} (R:Rel G C w) (k n:Nat) (hn:C.H.free n) (hk:(C.H.get k).isSome) (hheld:C.H.get k≠some .held) (o:AObj) (p:Option (Nat × Nat))
  (hold:∀c,c<w.heap.size→(∀cap,C.μ k≠some (c,cap))→w'.heap[c]?=w.heap[c]?) (hsz:w.heap.size≤w'.heap.size)
  (h1:w'.os=w.os) (h2:w'.tape=w.tape) (h3:w'.output=w.output)
  (hp:∀c cap,p=some (c,cap)→w.heap.size≤c∨∃cap',C.μ k=some (c,cap'))
  (ho:∀C',C'=Ctx.add { C with H:=C.H.del k } n o p→Adv C w C' w'→ObjRel C' w' n o) :
  Rel G (Ctx.add { C with H:=C.H.del k } n o p) w'∧Adv C w (Ctx.add { C with H:=C.H.del k } n o p) w':=by
 obtain⟨ok,hok⟩:=Option.isSome_iff_exists.1 hk
 have hkn:k≠n:=fun e=>by
  have:=R.get_free hn
  rw[←e,hok]at this
  rcases this with h | h
  ·cases h
  ·cases h;exact hheld hok
 have hget:∀j oj,(C.H.del k |>.allocAt n o).get j=some oj→(j=n∧oj=o)∨(j≠n∧j≠k∧C.H.get j=some oj):=by
  intro j oj hj
  by_cases e:j=n
  ·subst e;simp only[AHeap.get_allocAt_same,Option.some.injEq]at hj;exact .inl ⟨rfl,hj.symm⟩
  ·rw[AHeap.get_allocAt_ne _ _ e]at hj
   by_cases e2:j=k
   ·subst e2;simp[AHeap.get_del]at hj
   ·rw[AHeap.get_del_ne _ e2]at hj;exact .inr ⟨e,e2,hj⟩
 have hown:∀c,(Ctx.add { C with H:=C.H.del k } n o p).owns c→w.heap.size≤c∨C.owns c:=by
  rintro c ⟨j,oj,cap,hj,hm⟩
  rcases hget j oj hj with ⟨rfl,rfl⟩ | ⟨e1,_,e3⟩
  ·simp only[Ctx.add,upd_same]at hm
   rcases hp c cap hm with h | ⟨cap',h⟩
   ·exact .inl h
   ·exact .inr ⟨k,ok,cap',hok,h⟩
  ·simp only[Ctx.add,upd_ne _ _ e1]at hm
   exact .inr ⟨j,oj,cap,e3,hm⟩
 have hne:∀j,j<C.H.next→j≠n∨C.H.get j=some .held:=by
  intro j hj
  by_cases e:j=n
  ·subst e
   rcases hn with hn | hn
   ·omega
   ·exact .inr hn
  ·exact .inl e
 have A:Adv C w (Ctx.add { C with H:=C.H.del k } n o p) w':=by
  refine⟨by simp only[Ctx.add,AHeap.next_allocAt,AHeap.next_del];omega,fun j hj hr=>⟨?_,?_⟩,fun _ _ h=>h,hown,fun _ _ h => .inl h,fun c hc hnc=>hold c hc (fun cap e=>hnc ⟨k,ok,cap,hok,e⟩),hsz,h1,h2,h3⟩
  ·rfl
  ·have hs:=SigLe.refl C j
   unfold SigLe at hs ⊢
   rcases hne j hj with hjn | hjh
   case inr=>simp only[hjh]
   simp only[Ctx.add,AHeap.get_allocAt_ne _ _ hjn,upd_ne _ _ hjn]
   by_cases e2:j=k
   ·subst e2
    simp only[AHeap.get_del,if_true]
    cases hj':C.H.get j with
    | none=>trivial
    | some oj=>cases oj<;>first | exact .inl trivial | trivial
   ·simp only[AHeap.get_del_ne _ e2,and_true]
    simp only[eq_self_iff_true,and_true]at hs
    exact hs
 have hblk:∀j oj c cap,j≠k→C.H.get j=some oj→C.μ j=some (c,cap)→w'.heap[c]?=w.heap[c]?:=by
  intro j oj c cap hjk hj hm
  exact hold c (R.owned_lt ⟨j,oj,cap,hj,hm⟩) (fun cap' e=>hjk (R.inj j k oj ok c cap cap' hj hok hm e))
 refine⟨⟨fun j oj hj=>?_,fun k1 k2 o1 o2 c cap1 cap2 hk1 hk2 hm1 hm2=>?_,fun c a hc=>?_,fun g cs hg=>?_⟩,A⟩
 ·rcases hget j oj hj with ⟨rfl,rfl⟩ | ⟨e1,e2,e3⟩
  ·exact⟨by simp only[Ctx.add,AHeap.next_allocAt];omega,by simp[Ctx.add,AHeap.res_allocAt],ho _ rfl A⟩
  ·have h:=R.pres j oj e3
   refine⟨by simp only[Ctx.add,AHeap.next_allocAt,AHeap.next_del];omega,by simp only[Ctx.add,AHeap.res_allocAt,e1,if_false,AHeap.res_del];exact h.2.1,h.2.2.keep A (by simp[Ctx.add,upd_ne _ _ e1]) (fun c cap hm=>hblk j oj c cap e2 e3 hm)⟩
 ·rcases hget k1 o1 hk1 with ⟨rfl,rfl⟩ | ⟨a1,b1,c1⟩<;>rcases hget k2 o2 hk2 with ⟨rfl,rfl⟩ | ⟨a2,b2,c2⟩
  ·rfl
  ·simp only[Ctx.add,upd_same,upd_ne _ _ a2]at hm1 hm2
   have:=R.owned_lt ⟨k2,o2,cap2,c2,hm2⟩
   rcases hp c cap1 hm1 with h | ⟨cap',h⟩
   ·omega
   ·exact absurd (R.inj k2 k o2 ok c cap2 cap' c2 hok hm2 h) b2
  ·simp only[Ctx.add,upd_same,upd_ne _ _ a1]at hm1 hm2
   have:=R.owned_lt ⟨k1,o1,cap1,c1,hm1⟩
   rcases hp c cap2 hm2 with h | ⟨cap',h⟩
   ·omega
   ·exact absurd (R.inj k1 k o1 ok c cap1 cap' c1 hok hm1 h) b1
  ·simp only[Ctx.add,upd_ne _ _ a1,upd_ne _ _ a2]at hm1 hm2
   exact R.inj k1 k2 o1 o2 c cap1 cap2 c1 c2 hm1 hm2
 ·obtain⟨hno,arr,e,fz,hh,ha⟩:=R.imm c a hc
  have hlt:c<w.heap.size:=(Array.getElem?_eq_some_iff.1 hh).1
  refine⟨fun h=>?_,arr,e,fz,(hold c hlt (fun cap e=>hno ⟨k,ok,cap,hok,e⟩)).trans hh,ha⟩
  rcases hown c h with h | h
  ·omega
  ·exact hno h
 ·obtain⟨a,ha,hv⟩:=R.glob g cs hg
  exact⟨a,ha,hv.mono A⟩
def placeOf:Value→Option (Nat × Nat)
 | .slice (some a) _ cap=>some (a.block,cap)
 | _=>none
theorem ownsRow_place {w:World} {base:Nat} {e:TypeId} {size n:Nat} {v:Value} {ys:List Value} (h:w.ownsRow base e size v n ys) :
  (match placeOf v with
   | some (c,cap)=>v = .slice (some ⟨c,0,none⟩) n cap
   | none=>v = .slice none 0 0):=by
 rcases h.2 with ⟨rfl,_⟩ | ⟨g,cap,cur,rfl,_⟩<;>rfl
theorem ownsRow_base {w:World} {base base':Nat} {e:TypeId} {size n:Nat} {v:Value} {ys:List Value} (h:w.ownsRow base e size v n ys) (hb:base'≤base):w.ownsRow base' e size v n ys:=by
 refine⟨h.1,?_⟩
 rcases h.2 with h | ⟨g,cap,cur,h1,h2,h3⟩
 ·exact .inl h
 ·exact .inr ⟨g,cap,cur,h1,by omega,h3⟩
theorem SlcOk.new {C:Ctx} {w':World} {n m:Nat} {e:TypeId} {size:Nat} {cs:List AV} {v:Value} {ys:List Value} (h:w'.ownsRow 0 e size v m ys) (hl:m*size≤cs.length) :
  ∃a cap,v = .slice a m cap∧SlcOk (C.add n (.row e size cs) (placeOf v)) n m (.slice a m cap):=by
 have hp:=ownsRow_place h
 rcases h.2 with ⟨rfl,rfl⟩ | ⟨g,cap,cur,rfl,_⟩
 ·refine⟨none,0,rfl,by simp only[Ctx.add,AHeap.next_allocAt];omega,by simp[Ctx.add,AHeap.res_allocAt],?_⟩
  simp only[Ctx.add,AHeap.get_allocAt_same,upd_same,placeOf]
  exact⟨hl,by simp⟩
 ·refine⟨some ⟨g,0,none⟩,cap,rfl,by simp only[Ctx.add,AHeap.next_allocAt];omega,by simp[Ctx.add,AHeap.res_allocAt],?_⟩
  simp only[Ctx.add,AHeap.get_allocAt_same,upd_same,placeOf]
  exact⟨hl,trivial⟩
theorem alloc_row {G:Nat→Option (List AV)} {C:Ctx} {w w':World} (R:Rel G C w) {n:Nat} (hn:C.H.free n) {e:TypeId} {size m:Nat} {cs:List AV} {v:Value} {ys:List Value}
  (hown:w'.ownsRow w.heap.size e size v m ys) (hg:w.grownBy w' none) (hv:VRs C cs ys) :
  Rel G (C.add n (.row e size cs) (placeOf v)) w'∧Adv C w (C.add n (.row e size cs) (placeOf v)) w':=by
 refine R.add n hn _ _ (fun c hc=>hg.block c hc (by simp)) hg.size hg.os hg.tape hg.output (fun c cap h=>?_) (fun A=>?_)
 ·rcases hown.2 with ⟨rfl,rfl⟩ | ⟨g,cap',cur,rfl,hb,_⟩
  ·cases h
  ·cases h;exact hb
 ·refine⟨m,v,ys,ownsRow_base hown (Nat.zero_le _),hv.mono A,?_⟩
  simp only[Ctx.add,upd_same]
  exact ownsRow_place hown
def srcCells (H:AHeap) (size:Nat):AV→Option (Nat × List AV)
 | .slc k m=>match H.get k with
  | some (.cells _ cs)=>if m*size≤cs.length then some (m,cs.take (m*size))else none
  | some (.row _ _ cs)=>if m*size≤cs.length then some (m,cs.take (m*size))else none
  | _=>none
 | .lst m cs=>if cs.length=m*size then some (m,cs)else none
 | .nils=>some (0,[])
 | _=>none
theorem srcCells_ok {G:Nat→Option (List AV)} {C:Ctx} {w:World} (R:Rel G C w) {size m:Nat} {x:AV} {x':Value} {cs:List AV} (hx:VR C x x') (h:srcCells C.H size x=some (m,cs)) :
  ∃news,VRs C cs news∧news.length=m*size ∧
   ((x' = .slice none 0 0∧m=0)∨∃a c,x' = .slice (some a) m c∧∀(j:Nat) (u:Value),news[j]?=some u→w.cell? (a.add j)=some u):=by
 have cell:∀(c base:Nat) (arr:Array Value) (e:TypeId) (fz:Nat × Nat),w.heap[c]?=some (.cells arr e fz)→∀j,w.cell? ((⟨c,base,none⟩:Addr).add j)=arr[base+j]?:=by
  intro c base arr e fz hh j
  have:(⟨c,base,none⟩:Addr).add j=⟨c,base+j,none⟩:=by
   unfold Addr.add;split
   ·rename_i e;subst e;rfl
   ·rfl
  rw[this];simp[World.cell?,hh]
 have fromBlock:∀(c:Nat) (full:List AV),CellsAt C w full c 0→m*size≤full.length→cs=full.take (m*size) →
   ∃news,VRs C cs news∧news.length=m*size∧∀(j:Nat) (u:Value),news[j]?=some u→w.cell? ((⟨c,0,none⟩:Addr).add j)=some u:=by
  rintro c full ⟨arr,e,fz,hh,hc⟩ hle rfl
  have hget:∀(i:Nat) (_:i<m*size),∃y,arr[i]?=some y∧VR C (full[i]'(by omega)) y:=fun i hi=>by
   obtain⟨y,hy,hv⟩:=hc i (full[i]'(by omega)) (by simp)
   exact⟨y,by simpa using hy,hv⟩
  have hsz:m*size≤arr.size:=by
   rcases Nat.eq_zero_or_pos (m*size)with h0 | h0
   ·omega
   ·obtain⟨y,hy,_⟩:=hget (m*size-1) (by omega)
    have:=(Array.getElem?_eq_some_iff.1 hy).1
    omega
  refine⟨arr.toList.take (m*size),⟨by simp;omega,fun i a b ha hb=>?_⟩,by simp;omega,fun j u hu=>?_⟩
  ·simp only[List.getElem?_take]at ha hb
   split at ha
   ·rename_i hi
    simp only[hi,if_true]at hb
    obtain⟨y,hy,hv⟩:=hget i hi
    rw[Array.getElem?_toList,hy]at hb
    cases hb
    rw[List.getElem?_eq_getElem (by omega)]at ha
    cases ha
    exact hv
   ·cases ha
  ·simp only[List.getElem?_take]at hu
   split at hu
   ·rw[cell c 0 arr e fz hh j,Nat.zero_add,←Array.getElem?_toList];exact hu
   ·cases hu
 unfold srcCells at h
 split at h
 ·rename_i k m'
  cases hx with
  | slc _ _ a cap hso=>
  obtain⟨_,_,hso⟩:=hso
  split at h
  ·rename_i e full hk
   simp only[hk]at hso
   obtain⟨c,cap1,cap',hm,hv,_⟩:=hso
   split at h
   ·rename_i hle
    cases h
    cases hv
    obtain⟨news,h1,h2,h3⟩:=fromBlock c full ((R.pres k _ hk).2.2.cellsAt_cells hm) hle rfl
    exact⟨news,h1,h2,.inr ⟨_,_,rfl,h3⟩⟩
   ·cases h
  ·rename_i e s full hk
   simp only[hk]at hso
   obtain⟨hle0,hso⟩:=hso
   split at h
   ·rename_i hle
    cases h
    cases hmk:C.μ k with
    | none=>
     simp only[hmk]at hso
     obtain⟨h0,hv⟩:=hso
     subst h0
     exact⟨[],by simpa using VRs.nil C,by simp,.inl ⟨hv,rfl⟩⟩
    | some p=>
     obtain⟨c,cap1⟩:=p
     simp only[hmk]at hso
     cases hso
     obtain⟨news,h1,h2,h3⟩:=fromBlock c full ((R.pres k _ hk).2.2.cellsAt_row hmk) hle rfl
     exact⟨news,h1,h2,.inr ⟨_,_,rfl,h3⟩⟩
   ·cases h
  ·cases h
 ·rename_i m' full
  split at h
  ·rename_i hl
   cases h
   cases hx with
   | lst _ _ c off cap arr f hI hcap h1 h2=>
    obtain⟨_,arr',e,fz,hh,ha⟩:=R.imm c arr hI
    refine⟨(List.range (m*size)).map f,⟨by simp[hl],fun i a b hA hB=>?_⟩,by simp,.inr ⟨_,_,rfl,fun j u hu=>?_⟩⟩
    ·simp only[List.getElem?_map,Option.map_eq_some_iff]at hB
     obtain⟨i',hi',rfl⟩:=hB
     rw[List.getElem?_range (by have:=(List.getElem?_eq_some_iff.1 hi').1;simpa using this)]at hi'
     cases hi'
     exact h2 i a hA
    ·simp only[List.getElem?_map,Option.map_eq_some_iff]at hu
     obtain⟨i',hi',rfl⟩:=hu
     have hj:j<m*size:=by have:=(List.getElem?_eq_some_iff.1 hi').1;simpa using this
     rw[List.getElem?_range hj]at hi'
     cases hi'
     rw[cell c off arr' e fz hh j,←Array.getElem?_toList,ha]
     exact h1 j (cs[j]'(by omega)) (by simp)
   | lstNil=>exact⟨[],VRs.nil C,by simp,.inl ⟨rfl,rfl⟩⟩
  ·cases h
 ·cases h
  cases hx
  exact⟨[],VRs.nil C,by simp,.inl ⟨rfl,rfl⟩⟩
 ·cases h
def isByteZero:Value→Bool
 | .int .u8 0=>true
 | _=>false
def rowT (P:Program) (t:TypeId):Option (TypeId × Nat × Bool):=
 match elemT P t with
 | none=>none
 | some e=>match P.info? e with
  | none=>none
  | some i=>match i.zero with
   | none=>none
   | some z=>if z.cells.size=i.size∧0<i.size∧i.bytes≤140 then some (e,i.size,i.bytes==1&&i.size==1&&isByteZero z)else none
def appSrc (P:Program) (H:AHeap) (size:Nat) (byte:Bool) (t0 t1:TypeId) (x:AV):Option (Nat × List AV):=
 match x with
 | .str s=>if strT P t1=true∧byte=true then some (s.length,s.map fun b => .int .u8 b.toNat)else none
 | x=>if t1=t0 then(match srcCells H size x with | some (m,new)=>if new.all AV.one=true then some (m,new)else none | none=>none)else none
def AV.isSlc (k:Nat):AV→Bool
 | .slc j _=>j==k
 | _=>false
def maxApp:Nat:=1000000000000
def appendA (P:Program) (H:AHeap) (n:Nat) (t0 t1:TypeId) (s x:AV):Option (AV × AHeap):=
 match rowT P t0 with
 | none=>none
 | some (e,size,byte)=>
  match appSrc P H size byte t0 t1 x with
  | none=>none
  | some (m,new)=>
   match s with
   | .nils=>if m≤maxApp then some (.slc n m,H.allocAt n (.row e size new))else none
   | .slc k len=>match H.get k with
    | some (.row e' sz cs)=>if e'=e∧sz=size∧cs.length=len*size∧x.isSlc k=false∧len+m≤maxApp then some (.slc n (len+m),(H.del k).allocAt n (.row e size (cs++new)))else none
    | _=>none
   | _=>none
theorem elemT_ok {P:Program} {t e:TypeId} (h:elemT P t=some e):P.underlying t=some (.slice e):=by
 unfold elemT at h
 split at h
 ·rename_i hh;cases h;exact hh
 ·cases h
theorem strT_ok {P:Program} {t:TypeId} (h:strT P t=true):P.underlying t=some .string:=by
 unfold strT at h
 split at h
 ·assumption
 ·cases h
theorem strCells_vrs (C:Ctx) (s:List UInt8):VRs C (s.map fun b=>AV.int .u8 b.toNat) (strCells ⟨s.toArray⟩):=by
 refine⟨by simp[strCells],fun i x y hx hy=>?_⟩
 simp only[strCells,List.getElem?_map,Option.map_eq_some_iff]at hx hy
 obtain⟨b,hb,rfl⟩:=hx
 obtain⟨b',hb',rfl⟩:=hy
 rw[hb]at hb'
 cases hb'
 exact .int _ _
theorem append_run {P:Program} {G:Nat→Option (List AV)} {C:Ctx} {w:World} (R:Rel G C w) {t0 t1 ty e:TypeId} {size m:Nat} {byte:Bool} {x:AV} {x' v:Value} {new:List AV} {n:Nat} {ys:List Value}
  (hr:rowT P t0=some (e,size,byte)) (hx:VR C x x') (hs:appSrc P C.H size byte t0 t1 x=some (m,new)) (hown:w.ownsRow 0 e size v n ys) (hle:n+m≤maxApp)
  (base:Nat) (hbase:base≤w.heap.size) (hb:w.ownsRow base e size v n ys) :
  ∃v' w' news,(Builtin.append_ #[t0,t1] ty #[v,x']).run P w = .ok v' w'∧w'.ownsRow base e size v' (n+m) (ys++news)∧w.grownBy w' v.ownBlock∧VRs C new news ∧
   (∀g,v'.ownBlock=some g→w.heap.size≤g∨v.ownBlock=some g):=by
 unfold rowT at hr
 split at hr
 ·cases hr
 rename_i e0 he
 split at hr
 ·cases hr
 rename_i i hi
 split at hr
 ·cases hr
 rename_i z hz
 split at hr
 case isFalse=>cases hr
 rename_i hcond
 obtain⟨hzs,hpos,hby⟩:=hcond
 cases hr
 have hel:=elemT_ok he
 have h63:n+m≤maxLen:=by unfold maxApp at hle;unfold maxLen;omega
 have hbytes:(n+m)*i.bytes≤140737488355328:=by
  have:=Nat.mul_le_mul hle hby
  unfold maxApp at this
  omega
 unfold appSrc at hs
 split at hs
 ·rename_i s
  split at hs
  case isFalse=>cases hs
  rename_i hc
  cases hs
  cases hx
  obtain⟨hst,hbyte⟩:=hc
  simp only[Bool.and_eq_true,beq_iff_eq]at hbyte
  obtain⟨⟨hb1,hs1⟩,hz0⟩:=hbyte
  have hz':z = .int .u8 0:=by
   unfold isByteZero at hz0
   split at hz0
   ·rfl
   ·cases hz0
  rw[hz']at hz
  rw[hs1]at hb ⊢
  have hsz:(ByteArray.mk s.toArray).size=s.length:=by simp[ByteArray.size]
  rw[←hsz]at h63 hbytes ⊢
  rw[hb1]at hbytes
  obtain⟨v',w',h1,h2,h3,_⟩:=run_append_own_string (P:=P) (w:=w) base t0 t1 ty e i hel (strT_ok hst) hi hz hs1 hb1 v n ys hb ⟨s.toArray⟩ h63 (by omega) hbase
  refine⟨v',w',_,h1,h2,h3,strCells_vrs C s,fun g hg=>?_⟩
  rw[hs1]at hown
  rcases hown.2 with ⟨rfl,rfl⟩ | ⟨g0,cap,cur,rfl,_,hg0,hnc,hcm,hcs,htk⟩
  ·obtain⟨v2,w2,q1,q2,_⟩:=run_append_own_string (P:=P) (w:=w) w.heap.size t0 t1 ty e i hel (strT_ok hst) hi hz hs1 hb1 (.slice none 0 0) 0 [] ⟨by simp,.inl ⟨rfl,rfl⟩⟩ ⟨s.toArray⟩ (by omega) (by omega) (Nat.le_refl _)
   rw[h1]at q1
   cases q1
   rcases q2.2 with ⟨rfl,_⟩ | ⟨g2,cap2,cur2,rfl,hb2,_⟩
   ·cases hg
   ·simp only[Value.ownBlock,Option.some.injEq]at hg
    exact .inl (hg▸hb2)
  ·by_cases hroom:n+(ByteArray.mk s.toArray).size≤cap
   ·have q:=run_append_room_string (P:=P) (w:=w) t0 t1 ty e i hel (strT_ok hst) hi hs1 g0 n cap cur hg0 ⟨s.toArray⟩ hroom (by rw[hcs];omega)
    rw[h1]at q
    cases q
    exact .inr hg
   ·have q:=run_append_grow_string (P:=P) (w:=w) t0 t1 ty e i z hel (strT_ok hst) hi (by rw[hz,hz']) ⟨g0,0,none⟩ n cap ys (by rw[hs1];exact hown.1) (World.ownsRow.cells hown (g:=g0) rfl) ⟨s.toArray⟩ (by omega) (by unfold maxLen at h63;omega) (growslice_fits (by omega) (by rw[hb1];exact hbytes))
    rw[h1]at q
    cases q
    simp only[Value.ownBlock,Option.some.injEq]at hg
    exact .inl (by omega)
 ·rename_i x0 _
  split at hs
  case isFalse=>cases hs
  rename_i ht
  subst ht
  split at hs
  case h_2=>cases hs
  rename_i m' new' hsrc
  split at hs
  case isFalse=>cases hs
  rename_i hone
  cases hs
  obtain⟨news,hv,hl,hsl⟩:=srcCells_ok R hx hsrc
  have h1:∀u∈news,u.oneCell'=true:=by
   intro u hu
   obtain⟨j,hj,rfl⟩:=List.getElem_of_mem hu
   have hj':j<new.length:=by rw[hv.1];exact hj
   exact(hv.2 j new[j] news[j] (by simp) (by simp)).one (by simpa using (List.all_eq_true.1 hone) new[j] (List.getElem_mem hj'))
  rcases hsl with ⟨rfl,rfl⟩ | ⟨a,c,rfl,hcell⟩
  ·have hn0:news=[]:=List.eq_nil_of_length_eq_zero (by simpa using hl)
   subst hn0
   refine⟨v,w,[],?_,by simpa using hb,⟨rfl,rfl,rfl,Nat.le_refl _,fun _ _ _=>rfl⟩,hv,fun g hg => .inr hg⟩
   rcases hb.2 with ⟨rfl,rfl⟩ | ⟨g,cap,cur,rfl,_,hg,hnc,_⟩
   ·simp[Builtin.append_,run_underlying hel,sizeOf,typeInfo,hi,Builtin.lenOf,Builtin.firstCells]
   ·simp[Builtin.append_,run_underlying hel,sizeOf,typeInfo,hi,Builtin.lenOf,Builtin.firstCells,hnc,storeCells]
  ·obtain⟨v',w',r1,r2,r3,_⟩:=run_append_own (P:=P) (w:=w) base t1 ty e i z i.size i.bytes hel hi hz rfl rfl hzs hpos v n ys hb a m c news hl hcell h1 h63 hbytes hbase
   refine⟨v',w',news,r1,r2,r3,hv,fun g hg=>?_⟩
   rcases hown.2 with ⟨rfl,rfl⟩ | ⟨g0,cap,cur,rfl,_,hg0,hnc,hcm,hcs,htk⟩
   ·obtain⟨v2,w2,q1,q2,_⟩:=run_append_own (P:=P) (w:=w) w.heap.size t1 ty e i z i.size i.bytes hel hi hz rfl rfl hzs hpos (.slice none 0 0) 0 [] ⟨by simp,.inl ⟨rfl,rfl⟩⟩ a m c news hl hcell h1 h63 hbytes (Nat.le_refl _)
    rw[r1]at q1
    cases q1
    rcases q2.2 with ⟨rfl,_⟩ | ⟨g2,cap2,cur2,rfl,hb2,_⟩
    ·cases hg
    ·simp only[Value.ownBlock,Option.some.injEq]at hg
     exact .inl (hg▸hb2)
   ·by_cases hroom:n+m≤cap
    ·have q:=run_append_room (P:=P) (ty:=ty) w t1 e i hel hi g0 n cap cur hg0 a m c news hl hcell h1 hroom (by rw[hl,hcs,←Nat.add_mul];exact Nat.mul_le_mul_right _ hroom)
     rw[r1]at q
     cases q
     exact .inr hg
    ·have q:=run_append_grow (P:=P) w t1 ty e i z hel hi hz ⟨g0,0,none⟩ n cap ys hown.1 (World.ownsRow.cells hown (g:=g0) rfl) a m c news hl hcell (by omega) (by unfold maxLen at h63;omega) (growslice_fits (by omega) hbytes)
     rw[r1]at q
     cases q
     simp only[Value.ownBlock,Option.some.injEq]at hg
     exact .inl (by omega)
theorem appendA_ok {P:Program} {G:Nat→Option (List AV)} {C:Ctx} {w:World} (R:Rel G C w) {n:Nat} (hn:C.H.free n) {t0 t1 ty:TypeId} {s x r:AV} {s' x':Value} {H':AHeap}
  (hs:VR C s s') (hx:VR C x x') (h:appendA P C.H n t0 t1 s x=some (r,H')) :
  ∃r' w' C',(Builtin.append_ #[t0,t1] ty #[s',x']).run P w = .ok r' w'∧C'.H=H'∧VR C' r r'∧Rel G C' w'∧Adv C w C' w':=by
 unfold appendA at h
 split at h
 ·cases h
 rename_i e size byte hr
 split at h
 ·cases h
 rename_i m new hsrc
 split at h
 ·split at h
  case isFalse=>cases h
  rename_i hle
  cases h
  cases hs
  obtain⟨v',w',news,h1,h2,h3,h4,_⟩:=append_run (P:=P) (ty:=ty) R hr hx hsrc (v := .slice none 0 0) (n:=0) (ys:=[]) ⟨by simp,.inl ⟨rfl,rfl⟩⟩ (by simpa using hle) w.heap.size (Nat.le_refl _) ⟨by simp,.inl ⟨rfl,rfl⟩⟩
  simp only[Nat.zero_add,List.nil_append]at h2
  obtain⟨R',A'⟩:=alloc_row R hn h2 h3 h4
  have h2':=ownsRow_base h2 (Nat.zero_le _)
  obtain⟨a,cap,hv',hso⟩:=SlcOk.new (C:=C) (n:=n) (cs:=new) h2' (by rw[h4.1,h2.1];exact Nat.le_refl _)
  exact⟨v',w',_,h1,rfl,by subst hv';exact .slc _ _ _ _ hso,R',A'⟩
 ·rename_i k len
  split at h
  case h_2=>cases h
  rename_i e' sz cs hk
  split at h
  case isFalse=>cases h
  rename_i hc
  obtain⟨rfl,rfl,hlen,hxk,hle⟩:=hc
  cases h
  cases hs with
  | slc _ _ a cap hso=>
  obtain⟨_,_,hso⟩:=hso
  simp only[hk]at hso
  obtain⟨_,hso⟩:=hso
  obtain⟨n0,v0,ys,hown,hys,hv0⟩:=(R.pres k _ hk).2.2
  have hn0:n0=len∧v0 = .slice a len cap:=by
   cases hmk:C.μ k with
   | none=>
    simp only[hmk]at hso hv0
    obtain⟨rfl,hv⟩:=hso
    rcases hown.2 with ⟨_,h0⟩ | ⟨g,cap',cur,h1,_⟩
    ·exact⟨h0,by rw[hv0,hv]⟩
    ·rw[hv0]at h1;cases h1
   | some p=>
    obtain⟨c,cap'⟩:=p
    simp only[hmk]at hso hv0
    have hl:=hys.1.trans hown.1
    rw[hlen]at hl
    have hsz:0<sz:=by
     unfold rowT at hr
     split at hr
     ·cases hr
     split at hr
     ·cases hr
     split at hr
     ·cases hr
     split at hr
     ·rename_i hcc;cases hr;exact hcc.2.1
     ·cases hr
    have:n0=len:=(Nat.eq_of_mul_eq_mul_right hsz hl).symm
    exact⟨this,by rw[hv0,hso,this]⟩
  obtain⟨rfl,rfl⟩:=hn0
  obtain⟨v',w',news,h1,h2,h3,h4,h5⟩:=append_run (P:=P) (ty:=ty) R hr hx hsrc hown hle 0 (Nat.zero_le _) hown
  have hob:∀c,some c=(Value.slice a n0 cap).ownBlock↔∃cap',C.μ k=some (c,cap'):=by
   intro c
   cases hmk:C.μ k with
   | none=>simp only[hmk]at hv0;rw[hv0];simp[Value.ownBlock]
   | some p=>
    obtain⟨c',cap'⟩:=p
    simp only[hmk]at hv0
    cases hv0
    simp[Value.ownBlock,eq_comm]
  have hblock:∀c cap',placeOf v'=some (c,cap')→w.heap.size≤c∨∃cap',C.μ k=some (c,cap'):=by
   intro c cap' hp
   have hvb:v'.ownBlock=some c:=by
    unfold placeOf at hp
    split at hp
    ·cases hp;rfl
    ·cases hp
   rcases h5 c hvb with h | h
   ·exact .inl h
   ·exact .inr ((hob c).1 h.symm)
  obtain⟨R',A'⟩:=R.move k n hn (by simp[hk]) (by simp[hk]) (.row e' sz (cs++new)) (placeOf v')
   (fun c hc hne=>h3.block c hc (fun e=>by obtain⟨cap',hm⟩:=(hob c).1 e;exact hne cap' hm)) h3.size h3.os h3.tape h3.output hblock
   (fun C' hC' A=>by
    refine⟨_,v',_,h2,(hys.mono A).append (h4.mono A),?_⟩
    subst hC'
    simp only[Ctx.add,upd_same]
    exact ownsRow_place h2)
  obtain⟨a',cap',hv',hso'⟩:=SlcOk.new (C:={ C with H:=C.H.del k }) (n:=n) (cs:=cs++new) h2 (by rw[List.length_append,hys.1,h4.1,←List.length_append,h2.1];exact Nat.le_refl _)
  exact⟨v',w',_,h1,rfl,by subst hv';exact .slc _ _ _ _ hso',R',A'⟩
 ·cases h
end Go.Ab
namespace Go.Ab
open Go Go.Lib
def AV.boxable:AV→Bool
 | .und | .tup _=>false
 | _=>true
theorem VR.cells {C:Ctx} {x:AV} {y:Value} (h:VR C x y) (hx:x.boxable=true):VRs C x.cellsOf y.cells.toList:=by
 cases h with
 | agg cells vs hl h=>exact⟨by simpa[AV.cellsOf,Value.cells]using hl,fun i a b ha hb=>h i a b ha (by simpa[Value.cells]using hb)⟩
 | und=>cases hx
 | tup=>cases hx
 | any _ hv=>
  have:y.cells=#[y]:=by cases y<;>first | rfl | cases hv
  rw[this]
  exact(VRs.nil C).cons (.any y hv)
 | _=>exact(VRs.nil C).cons (by constructor<;>assumption)
theorem VR.ofConst_cells (C:Ctx) (z:Value):VRs C (Ab.ofConst z).cellsOf z.cells.toList:=by
 cases z with
 | agg cs=>
  have h:=VR.ofConst C (.agg cs)
  exact h.cells rfl
 | tuple vs=>exact(VRs.nil C).cons (.und _)
 | complex k a b=>exact(VRs.nil C).cons (.und _)
 | chan r=>exact(VRs.nil C).cons (.und _)
 | iface t v=>exact(VRs.nil C).cons (.und _)
 | func f a b=>exact(VRs.nil C).cons (.und _)
 | pointer a=>cases a<;>first | exact(VRs.nil C).cons .nilp | exact(VRs.nil C).cons (.und _)
 | slice a l c=>
  have h:=VR.ofFlat C (.slice a l c)
  have e:(Ab.ofConst (.slice a l c)).cellsOf=[Ab.ofFlat (.slice a l c)]:=by
   simp only[Ab.ofConst,Ab.ofFlat]
   split<;>first | rfl | simp_all [AV.cellsOf]
  rw[e]
  exact(VRs.nil C).cons h
 | map r=>cases r<;>first | exact(VRs.nil C).cons .nilm | exact(VRs.nil C).cons (.und _)
 | bool b=>exact(VRs.nil C).cons (.bool _)
 | int k n=>exact(VRs.nil C).cons (.int _ _)
 | float k b=>exact(VRs.nil C).cons (.flt _ _)
 | string s=>exact(VRs.nil C).cons (VR.ofFlat C (.string s))
 | nilFunc=>exact(VRs.nil C).cons .nilf
 | nilIface=>exact(VRs.nil C).cons .nili
theorem zeroA_ok {P:Program} {t:TypeId} {x:AV} (h:zeroA P t=some x) (C:Ctx) (w:World):∃i z,P.info? t=some i∧i.zero=some z∧x=ofConst z∧(zeroValue t).run P w = .ok z w∧VR C x z∧VRs C x.cellsOf z.cells.toList:=by
 simp only[zeroA,Option.map_eq_some_iff,Option.bind_eq_some_iff]at h
 obtain⟨z,⟨i,hi,hz⟩,rfl⟩:=h
 exact⟨i,z,hi,hz,rfl,by simp[zeroValue,typeInfo,hi,hz],VR.ofConst C z,VR.ofConst_cells C z⟩
def fillA (place:Nat→Option (Nat × Nat)) (cells:List AV):List (Nat × AV)→Option (List AV)
 | []=>some cells
 | (i,v)::rest=>match place i with
  | none=>none
  | some (off,size)=>if v.boxable=true∧v.cellsOf.length=size∧off+size≤cells.length then fillA place (setCells cells off v.cellsOf) rest else none
theorem setCells_vrs {C:Ctx}:∀(xs:List AV) (ys:List Value) (cs:List AV) (vs:List Value) (off:Nat),VRs C xs ys→VRs C cs vs →
  VRs C (setCells cs off xs) ((ys.zipIdx off).foldl (fun l p=>l.set p.2 p.1) vs)
 | [],ys,cs,vs,off,h,hc=>by
  have:ys=[]:=List.eq_nil_of_length_eq_zero (by rw[←h.1];rfl)
  subst this
  exact hc
 | x::xs,ys,cs,vs,off,h,hc=>by
  cases ys with
  | nil=>have:=h.1;simp at this
  | cons y ys=>
   have hxy:VR C x y:=h.2 0 x y rfl rfl
   have hrest:VRs C xs ys:=⟨by have:=h.1;simpa using this,fun j a b ha hb=>h.2 (j+1) a b (by simpa using ha) (by simpa using hb)⟩
   simp only[setCells,List.zipIdx_cons,List.foldl_cons]
   exact setCells_vrs xs ys _ _ (off+1) hrest (hc.set off hxy)
theorem fill_step (cells:Array Value) (v:Value) (off:Nat) :
  (v.cells.zipIdx.foldl (fun cs (p:Value × Nat)=>cs.setIfInBounds (off+p.2) p.1) cells).toList=(v.cells.toList.zipIdx off).foldl (fun l p=>l.set p.2 p.1) cells.toList:=by
 have gen:∀(l:List Value) (n:Nat) (a:Array Value),((l.zipIdx n).foldl (fun cs (p:Value × Nat)=>cs.setIfInBounds (off+p.2) p.1) a).toList=(l.zipIdx (off+n)).foldl (fun l p=>l.set p.2 p.1) a.toList:=by
  intro l
  induction l with
  | nil=>intro n a;rfl
  | cons x l ih=>
   intro n a
   simp only[List.zipIdx_cons,List.foldl_cons]
   rw[ih (n+1)]
   simp[Nat.add_assoc]
 rw[←Array.foldl_toList,Array.toList_zipIdx]
 exact gen _ 0 cells
theorem fillA_ok {C:Ctx} {place:Nat→Option (Nat × Nat)} {place':Nat→Option (Nat × Nat)} (hp:∀i p,place i=some p→place' i=some p) :
  ∀(parts:List (Nat × AV)) (parts':List (Nat × Value)) (cells:List AV) (arr:Array Value) (out:List AV),VRs C cells arr.toList →
   parts.length=parts'.length→(∀(i:Nat) (x:Nat × AV) (y:Nat × Value),parts[i]?=some x→parts'[i]?=some y→x.1=y.1∧VR C x.2 y.2) →
   fillA place cells parts=some out→∃arr',Instr.fill place' arr parts'=some arr'∧VRs C out arr'.toList
 | [],parts',cells,arr,out,hc,hl,_,h=>by
  have:parts'=[]:=List.eq_nil_of_length_eq_zero (by rw[←hl];rfl)
  subst this
  cases h
  exact⟨arr,rfl,hc⟩
 | (i,v)::rest,parts',cells,arr,out,hc,hl,hv,h=>by
  cases parts' with
  | nil=>simp at hl
  | cons p' rest'=>
   obtain⟨i',v'⟩:=p'
   obtain⟨rfl,hvv⟩:=hv 0 _ _ rfl rfl
   simp only[fillA]at h
   split at h
   ·cases h
   ·rename_i off size hpl
    split at h
    case isFalse=>cases h
    rename_i hcond
    obtain⟨hb,hlen,hle⟩:=hcond
    have hcv:=hvv.cells hb
    have hsz:v'.cells.size=size:=by rw[←hlen,hcv.1];simp
    have hstep:=setCells_vrs v.cellsOf v'.cells.toList cells arr.toList off hcv hc
    rw[←fill_step]at hstep
    obtain⟨arr',h1,h2⟩:=fillA_ok hp rest rest' _ _ out hstep (by simpa using hl) (fun j x y hx hy=>hv (j+1) x y (by simpa using hx) (by simpa using hy)) h
    refine⟨arr',?_,h2⟩
    have harr:cells.length=arr.size:=by have:=hc.1;simpa using this
    simp only[Instr.fill,hp _ _ hpl]
    have hn:¬((v'.cells.size != size||decide (off+v'.cells.size>arr.size))=true):=by
     simp;omega
    have hn2:¬(v'.cells.size≠size∨off+v'.cells.size>arr.size):=by omega
    first
     | (rw[if_neg (by simp;omega)];exact h1)
     | (simp[hsz,show ¬(arr.size<off+size) by omega];exact h1)
def layT (P:Program) (t:TypeId):Option (List AV × List (Nat × Nat)):=
 match zeroA P t,P.underlying t with
 | some z,some (.struct fields)=>(fields.toList.mapM fun f=>(P.info? f.type).map fun i=>(f.offset,i.size)).map fun pl=>(z.cellsOf,pl)
 | some z,some (.array n e)=>(szT P e).map fun s=>(z.cellsOf,(List.range n).map fun i=>(i*s,s))
 | _,_=>none
def buildA (P:Program) (t:TypeId) (parts:List (Nat × AV)):Option AV:=
 match layT P t with
 | some (z,pl)=>(fillA (fun i=>pl[i]?) z parts).map .agg
 | none=>none
theorem buildA_ok {P:Program} {C:Ctx} {w:World} {t:TypeId} {parts:List (Nat × AV)} {parts':Array (Nat × Value)} {x:AV} (hl:parts.length=parts'.size)
  (hv:∀(i:Nat) (a:Nat × AV) (b:Nat × Value),parts[i]?=some a→parts'[i]?=some b→a.1=b.1∧VR C a.2 b.2) (h:buildA P t parts=some x) :
  ∃y,(Instr.build t parts').run P w = .ok y w∧VR C x y:=by
 unfold buildA layT at h
 split at h
 case h_2=>cases h
 rename_i z0 pl hlay
 simp only[Option.map_eq_some_iff]at h
 obtain⟨out,hout,rfl⟩:=h
 split at hlay
 ·rename_i z fields hz hu
  simp only[Option.map_eq_some_iff,Prod.mk.injEq]at hlay
  obtain⟨pl',hpl,rfl,rfl⟩:=hlay
  obtain⟨i,zv,hi,hzi,rfl,_,_,hzc⟩:=zeroA_ok hz C w
  obtain⟨arr,h1,h2⟩:=fillA_ok (place:=fun i=>pl'[i]?) (place':=(pl'.toArray[·]?)) (by simp) parts parts'.toList _ zv.cells out hzc (by simpa using hl) (fun j a b ha hb=>hv j a b ha (by simpa using hb)) hout
  refine⟨.agg arr,run_build w t parts' arr ?_,.agg _ _ (by simpa using h2.1) (fun j a b ha hb=>h2.2 j a b ha (by simpa using hb))⟩
  simp only[Program.built,hi,hu,hzi,hpl,h1]
 ·rename_i z n e hz hu
  simp only[Option.map_eq_some_iff,Prod.mk.injEq]at hlay
  obtain⟨s,hs,rfl,rfl⟩:=hlay
  obtain⟨ie,hie,rfl⟩:=szT_info hs
  obtain⟨i,zv,hi,hzi,rfl,_,_,hzc⟩:=zeroA_ok hz C w
  obtain⟨arr,h1,h2⟩:=fillA_ok (place:=fun i=>((List.range n).map fun i=>(i*ie.size,ie.size))[i]?) (place':=fun i=>some (i*ie.size,ie.size)) (fun j p hp=>by
    simp only[List.getElem?_map,Option.map_eq_some_iff]at hp
    obtain⟨k,hk,rfl⟩:=hp
    have hj:j<n:=by have:=(List.getElem?_eq_some_iff.1 hk).1;simpa using this
    rw[List.getElem?_range hj]at hk
    cases hk
    rfl) parts parts'.toList _ zv.cells out hzc (by simpa using hl) (fun j a b ha hb=>hv j a b ha (by simpa using hb)) hout
  refine⟨.agg arr,run_build w t parts' arr ?_,.agg _ _ (by simpa using h2.1) (fun j a b ha hb=>h2.2 j a b ha (by simpa using hb))⟩
  simp only[Program.built,hi,hu,hzi,hie,h1]
 ·cases hlay
theorem alloc_var {P:Program} {G:Nat→Option (List AV)} {C:Ctx} {w:World} (R:Rel G C w) {n:Nat} (hn:C.H.free n) (e:TypeId) {cs:List AV} {v:Value} (h:VRs C cs v.cells.toList) :
  ∃y w' C',(do pure (Value.pointer (some (←newVar e v))):Sem Value).run P w = .ok y w'∧C'.H=C.H.allocAt n (.cells e cs)∧VR C' (.ptr n 0) y∧Rel G C' w'∧Adv C w C' w':=by
 obtain⟨R',A'⟩:=alloc_cells R hn e h rfl
 refine⟨_,_,_,?_,rfl,.ptr n 0 ⟨w.heap.size,0,none⟩ (PtrOk.new (by simp)),R',A'⟩
 simp[newVar,newRow]
def zerosA (z:List AV):Nat→List AV
 | 0=>[]
 | k+1=>z++zerosA z k
theorem zerosA_length (z:List AV):∀k,(zerosA z k).length=k*z.length
 | 0=>by simp[zerosA]
 | k+1=>by simp[zerosA,zerosA_length z k,Nat.add_mul];omega
theorem zerosA_get (z:List AV) (hz:0<z.length):∀(k i:Nat),i<k*z.length→(zerosA z k)[i]?=z[i % z.length]?
 | 0,i,h=>by simp at h
 | k+1,i,h=>by
  simp only[zerosA]
  by_cases hi:i<z.length
  ·rw[List.getElem?_append_left hi,Nat.mod_eq_of_lt hi]
  ·have hi':z.length≤i:=by omega
   rw[List.getElem?_append_right hi',zerosA_get z hz k _ (by rw[Nat.add_mul]at h;omega)]
   congr 1
   exact(Nat.mod_eq_sub_mod hi').symm
theorem zerosA_vrs {C:Ctx} {z:List AV} {z':Array Value} (h:VRs C z z'.toList) (k:Nat):VRs C (zerosA z k) (madeCells z' (k*z.length)).toList:=by
 have hl:z.length=z'.size:=by simpa using h.1
 refine⟨by rw[zerosA_length];simp[madeCells],fun i x y hx hy=>?_⟩
 have hi:i<k*z.length:=by
  have:=(List.getElem?_eq_some_iff.1 hx).1
  rwa[zerosA_length]at this
 have hpos:0<z.length:=by
  rcases Nat.eq_zero_or_pos z.length with h0 | h0
  ·rw[h0]at hi;simp at hi
  ·exact h0
 rw[zerosA_get z hpos k i hi]at hx
 have hm:i % z.length<z.length:=Nat.mod_lt _ hpos
 simp only[madeCells,Array.toList_map,List.getElem?_map,Option.map_eq_some_iff]at hy
 obtain⟨j,hj,rfl⟩:=hy
 rw[Array.getElem?_toList,Array.getElem?_range,if_pos hi]at hj
 cases hj
 refine h.2 (i % z.length) x _ hx ?_
 rw[Array.getElem?_toList,←hl]
 have:i % z.length<z'.size:=by omega
 rw[Array.getElem!_eq_getD]
 simp[this]
def sliceLit (P:Program) (H:AHeap) (n:Nat) (t:TypeId) (len:Nat) (parts:List (Nat × AV)):Option (AV × AHeap):=
 match elemT P t with
 | none=>none
 | some e=>match zeroA P e,szT P e with
  | some z,some size=>
   if z.cellsOf.length=size∧0<size∧len*size≤16777216 then
    (fillA (fun i=>some (i*size,size)) (zerosA z.cellsOf len) parts).map fun cells=>(.slc n len,H.allocAt n (.row e size cells))
   else none
  | _,_=>none
theorem sliceLit_ok {P:Program} {G:Nat→Option (List AV)} {C:Ctx} {w:World} (R:Rel G C w) {n:Nat} (hn:C.H.free n) {t:TypeId} {len:Nat} {parts:List (Nat × AV)} {parts':Array (Nat × Value)} {r:AV} {H':AHeap}
  (hl:parts.length=parts'.size) (hv:∀(i:Nat) (a:Nat × AV) (b:Nat × Value),parts[i]?=some a→parts'[i]?=some b→a.1=b.1∧VR C a.2 b.2)
  (h:sliceLit P C.H n t len parts=some (r,H')) :
  ∃r' w' C',(Instr.buildSlice t len parts').run P w = .ok r' w'∧C'.H=H'∧VR C' r r'∧Rel G C' w'∧Adv C w C' w':=by
 unfold sliceLit at h
 split at h
 ·cases h
 rename_i e he
 split at h
 case h_2=>cases h
 rename_i z size hz hs
 split at h
 case isFalse=>cases h
 rename_i hcond
 obtain⟨hzl,hpos,hsmall⟩:=hcond
 simp only[Option.map_eq_some_iff,Prod.mk.injEq]at h
 obtain⟨cells,hf,rfl,rfl⟩:=h
 obtain⟨ie,hie,rfl⟩:=szT_info hs
 obtain⟨i2,zv,hi2,hzi,rfl,_,_,hzc⟩:=zeroA_ok hz C w
 rw[hie]at hi2
 cases hi2
 have hel:=elemT_ok he
 have hz0:=zerosA_vrs hzc len
 rw[hzl]at hz0
 obtain⟨arr,h1,h2⟩:=fillA_ok (place:=fun i=>some (i*ie.size,ie.size)) (place':=fun i=>some (i*ie.size,ie.size)) (fun _ _ h=>h) parts parts'.toList _ _ cells hz0 (by simpa using hl) (fun j a b ha hb=>hv j a b ha (by simpa using hb)) hf
 have hclen:cells.length=len*ie.size:=by
  have hfl:∀(parts:List (Nat × AV)) (cs out:List AV),fillA (fun i=>some (i*ie.size,ie.size)) cs parts=some out→out.length=cs.length:=by
   intro parts
   induction parts with
   | nil=>intro cs out h;cases h;rfl
   | cons p rest ih=>
    intro cs out h
    obtain⟨i,v⟩:=p
    simp only[fillA]at h
    split at h
    ·rw[ih _ _ h,setCells_length]
    ·cases h
  rw[hfl parts _ cells hf,zerosA_length,hzl]
 have hrun:(Instr.buildSlice t len parts').run P w = .ok (.slice (some ⟨w.heap.size,0,none⟩) len len) (w.alloc (.cells arr e)):=by
  by_cases h0:len*ie.size=0
  ·have hm:madeCells zv.cells 0=#[]:=by simp[madeCells,Array.range_zero']
   rw[h0]at h1
   have h1':Instr.fill (fun i=>some (i*ie.size,ie.size)) #[] parts'.toList=some arr:=by rw[←hm];exact h1
   simp[Instr.buildSlice,run_underlying hel,sizeOf,typeInfo,hie,h0,Array.range_zero',newRow,h1']
  ·exact run_buildSlice w t e len parts' arr ie zv hel hie hzi (by omega) h0 h1
 have hlen0:len≤maxLen:=by
  have:len*1≤len*ie.size:=Nat.mul_le_mul_left _ hpos
  unfold maxLen;omega
 have hown:(w.alloc (.cells arr e)).ownsRow w.heap.size e ie.size (.slice (some ⟨w.heap.size,0,none⟩) len len) len arr.toList:=by
  have hasz:arr.size=len*ie.size:=by rw[←hclen];have:=h2.1;simpa using this.symm
  exact⟨by simpa using hasz,.inr ⟨w.heap.size,len,arr,rfl,Nat.le_refl _,heap_alloc_new w _,Nat.le_refl _,hlen0,hasz,by rw[←hasz,←Array.length_toList];exact List.take_length⟩⟩
 obtain⟨R',A'⟩:=alloc_row R hn hown (World.grownBy_alloc w _ none) h2
 obtain⟨a,cap,hv',hso⟩:=SlcOk.new (C:=C) (n:=n) (cs:=cells) (ownsRow_base hown (Nat.zero_le _)) (by rw[hclen];exact Nat.le_refl _)
 cases hv'
 exact⟨_,_,_,hrun,rfl,.slc _ _ _ _ hso,R',A'⟩
def makeA (P:Program) (H:AHeap) (n:Nat) (t:TypeId) (l c:AV):Option (AV × AHeap):=
 match l,c,rowT P t with
 | .int _ l,.int _ c,some (e,size,_)=>
  match zeroA P e with
  | some z=>if z.cellsOf.length=size∧0≤l∧l≤c∧c≤maxApp then some (.slc n l.toNat,H.allocAt n (.row e size (zerosA z.cellsOf l.toNat)))else none
  | none=>none
 | _,_,_=>none
theorem rowT_ok {P:Program} {t e:TypeId} {size:Nat} {byte:Bool} (h:rowT P t=some (e,size,byte)) :
  ∃i z,P.underlying t=some (.slice e)∧P.info? e=some i∧i.zero=some z∧i.size=size∧z.cells.size=size∧0<size∧i.bytes≤140:=by
 unfold rowT at h
 split at h
 ·cases h
 rename_i e0 he
 split at h
 ·cases h
 rename_i i hi
 split at h
 ·cases h
 rename_i z hz
 split at h
 case isFalse=>cases h
 rename_i hcond
 cases h
 exact⟨i,z,elemT_ok he,hi,hz,rfl,hcond.1,hcond.2.1,hcond.2.2⟩
theorem makeA_ok {P:Program} {G:Nat→Option (List AV)} {C:Ctx} {w:World} (R:Rel G C w) {n:Nat} (hn:C.H.free n) {t:TypeId} {l c r:AV} {l' c':Value} {H':AHeap} (hl:VR C l l') (hc:VR C c c')
  (h:makeA P C.H n t l c=some (r,H')) :
  ∃r' w' C',(Instr.makeSlice t l' c').run P w = .ok r' w'∧C'.H=H'∧VR C' r r'∧Rel G C' w'∧Adv C w C' w':=by
 unfold makeA at h
 split at h
 case h_2=>cases h
 rename_i kl li kc ci e size byte hr
 split at h
 case h_2=>cases h
 rename_i z hz
 split at h
 case isFalse=>cases h
 rename_i hcond
 obtain⟨hzl,h0,hlc,hcm⟩:=hcond
 cases h
 cases hl
 cases hc
 obtain⟨i,zv,hel,hi,hzi,rfl,hzs,hpos,hby⟩:=rowT_ok hr
 obtain⟨i2,zv2,hi2,hzi2,rfl,_,_,hzc⟩:=zeroA_ok hz C w
 rw[hi]at hi2
 cases hi2
 rw[hzi]at hzi2
 cases hzi2
 have hb:(i.bytes:Int)*ci≤281474976710656:=by
  have h1:(i.bytes:Int)*ci≤140*ci:=Int.mul_le_mul_of_nonneg_right (by omega) (by omega)
  unfold maxApp at hcm
  omega
 have hrun:=run_make (P:=P) w t e i zv hel hi hzi kl kc li ci h0 hlc hb (by unfold maxApp at hcm;omega)
 have hvr:=zerosA_vrs hzc li.toNat
 rw[hzl]at hvr
 have hle:li.toNat*i.size≤ci.toNat*i.size:=Nat.mul_le_mul_right _ (by omega)
 have htake:(madeCells zv.cells (ci.toNat*i.size)).toList.take (li.toNat*i.size)=(madeCells zv.cells (li.toNat*i.size)).toList:=by
  apply List.ext_getElem?
  intro j
  rw[List.getElem?_take]
  simp only[madeCells,Array.toList_map,List.getElem?_map]
  split
  ·rename_i hj
   rw[Array.getElem?_toList,Array.getElem?_toList,Array.getElem?_range,Array.getElem?_range,if_pos (by omega),if_pos hj]
  ·rename_i hj
   rw[Array.getElem?_toList,Array.getElem?_eq_none (by simp;omega)]
   rfl
 have hown:(w.alloc (.cells (madeCells zv.cells (ci.toNat*i.size)) e)).ownsRow w.heap.size e i.size (.slice (some ⟨w.heap.size,0,none⟩) li.toNat ci.toNat) li.toNat (madeCells zv.cells (li.toNat*i.size)).toList:=
  ⟨by simp[madeCells],.inr ⟨w.heap.size,ci.toNat,_,rfl,Nat.le_refl _,heap_alloc_new w _,by omega,by unfold maxApp at hcm;unfold maxLen;omega,size_madeCells _ _,htake⟩⟩
 obtain⟨R',A'⟩:=alloc_row R hn hown (World.grownBy_alloc w _ none) hvr
 obtain⟨a,cap,hv',hso⟩:=SlcOk.new (C:=C) (n:=n) (cs:=zerosA (ofConst zv).cellsOf li.toNat) (ownsRow_base hown (Nat.zero_le _)) (by rw[zerosA_length,hzl];exact Nat.le_refl _)
 cases hv'
 exact⟨_,_,_,hrun,rfl,.slc _ _ _ _ hso,R',A'⟩
end Go.Ab
namespace Go.Ab
open Go Go.Lib
def boolT (P:Program) (t:TypeId):Bool:=match P.underlying t with | some .bool=>true | _=>false
def ptrT (P:Program) (t:TypeId):Option TypeId:=match P.underlying t with | some (.pointer e)=>some e | _=>none
def maxStr:Nat:=4611686018427387904
def intA (op:BinOp) (k:IntKind) (a b:Int):Option AV:=
  match op with
  | .add=>some (.int k (k.wrap (a+b)))
  | .sub=>some (.int k (k.wrap (a-b)))
  | .mul=>some (.int k (k.wrap (a*b)))
  | .quo=>if b=0 then none else some (.int k (k.wrap (a.tdiv b)))
  | .rem=>if b=0 then none else some (.int k (a.tmod b))
  | .and=>some (.int k (k.wrap (BitVec.ofInt k.bits a &&& BitVec.ofInt k.bits b).toNat))
  | .or=>some (.int k (k.wrap (BitVec.ofInt k.bits a ||| BitVec.ofInt k.bits b).toNat))
  | .xor=>some (.int k (k.wrap (BitVec.ofInt k.bits a ^^^ BitVec.ofInt k.bits b).toNat))
  | .andNot=>some (.int k (k.wrap (BitVec.ofInt k.bits a &&& ~~~ BitVec.ofInt k.bits b).toNat))
  | .eql=>some (.bool (a==b))
  | .neq=>some (.bool (a != b))
  | .lss=>some (.bool (decide (a<b)))
  | .leq=>some (.bool (decide (a≤b)))
  | .gtr=>some (.bool (decide (a>b)))
  | .geq=>some (.bool (decide (a≥b)))
  | _=>none
def shiftA (op:BinOp) (k:IntKind) (a b:Int):Option AV:=
  if b<0 then none else
  match op with
  | .shl=>some (.int k (k.wrap (a*2 ^ (min b.toNat k.bits))))
  | .shr=>some (.int k (a.fdiv (2 ^ (min b.toNat k.bits))))
  | _=>none
def strA (op:BinOp) (a b:List UInt8):Option AV:=
  match op with
  | .add=>if a.length+b.length≤maxStr then some (.str (a++b))else none
  | .eql=>some (.bool (a==b))
  | .neq=>some (.bool (!(a==b)))
  | .lss=>some (.bool (Op.bytesLess a b))
  | .leq=>some (.bool (Op.bytesLess a b||a==b))
  | .gtr=>some (.bool (!(Op.bytesLess a b||a==b)))
  | .geq=>some (.bool (!Op.bytesLess a b))
  | _=>none
def eqNeq (op:BinOp) (b:Bool):Option AV:=
  match op with
  | .eql=>some (.bool b)
  | .neq=>some (.bool (!b))
  | _=>none
def AV.isConst:Operand→Bool
  | .const _=>true
  | _=>false
inductive EqTag where
  | s
  | b
  | i
def eqTag (P:Program) (f:Field):Option (Nat × EqTag):=
  if f.name≠ "_"∧aggT P f.type=some false then
    match P.underlying f.type with
    | some .string=>some (f.offset,.s)
    | some .bool=>some (f.offset,.b)
    | some (.int _)=>some (f.offset,.i)
    | _=>none
  else none
def eqT (P:Program) (t:TypeId):Option (List (Nat × EqTag)):=
  match P.underlying t with
  | some (.struct fs)=>if P.stoodInHeld t=false∧P.eqGuardType P.depth t=false then fs.toList.mapM (eqTag P)else none
  | _=>none
def eqCell (g:EqTag) (x y:AV):Option Bool:=
  match g,x,y with
  | .s,.str a,.str b=>some (a==b)
  | .b,.bool a,.bool b=>some (a==b)
  | .i,.int k a,.int k' b=>if k=k' then some (a==b)else none
  | _,_,_=>none
def eqCells:List (Nat × EqTag)→List AV→List AV→Option Bool
  | [],_,_=>some true
  | g::gs,xs,ys=>match eqCell g.2 (xs.getD g.1 .und) (ys.getD g.1 .und),eqCells gs xs ys with
    | some r,some r'=>some (r&&r')
    | _,_=>none
def binA (P:Program) (H:AHeap) (op:BinOp) (t:TypeId) (ox oy:Operand) (x y:AV):Option AV:=
  match x,y with
  | .int k a,.int k' b=>(match op with
    | .shl | .shr=>shiftA op k a b
    | _=>if k=k' then intA op k a b else none)
  | .str a,.str b=>strA op a b
  | .bool a,.bool b=>if boolT P t then eqNeq op (a==b)else none
  | .nilp,.nilp=>if(ptrT P t).isSome then eqNeq op true else none
  | .ptr _ _,.nilp | .nilp,.ptr _ _=>if(ptrT P t).isSome then eqNeq op false else none
  | .ptr j a,.ptr k b=>match ptrT P t with
    | some e=>(match szT P e,H.get j with | some (n+1),some (.cells _ _)=>if j=k then eqNeq op (a==b)else none | _,_=>none)
    | none=>none
  | .nils,.nils=>if(elemT P t).isSome then eqNeq op true else none
  | .nilm,.nilm=>if(mapT P t).isSome then eqNeq op true else none
  | .map _,.nilm=>if(mapT P t).isSome then eqNeq op false else none
  | .nili,.nili=>if ifaceT P t=some true∧(AV.isConst ox||AV.isConst oy)=true then eqNeq op true else none
  | .iface _ _,.nili | .nili,.iface _ _=>if ifaceT P t=some true then eqNeq op false else none
  | .agg xs,.agg ys=>match eqT P t with
    | some gs=>(match eqCells gs xs ys with
      | some r=>eqNeq op r
      | none=>none)
    | none=>none
  | _,_=>none
theorem intA_ok {P:Program} {w:World} {C:Ctx} {op:BinOp} {k:IntKind} {a b:Int} {r:AV} (h:intA op k a b=some r) (hs:op ≠ .shl) (hs':op ≠ .shr) (t:TypeId) (ox oy:Operand) :
    ∃r',(do eqGuard op t ox oy (.int k a) (.int k b);binOp op t (.int k a) (.int k b):Sem Value).run P w = .ok r' w∧VR C r r':=by
  cases op<;>simp only[intA]at h<;>first
    | (cases h;done)
    | exact absurd rfl hs
    | exact absurd rfl hs'
    | (cases h;exact⟨_,by simp[eqGuard_at_int,binOp,Op.intArith,Op.intBits,Op.intCmp];rfl,by constructor⟩)
    | (cases h;exact⟨_,by simp only[Sem.run_bind,eqGuard_at_int,Sem.run_pure,Result.andThen_ok,binOp,ne_eq,not_true,if_false,Op.intBits];rfl,by constructor⟩)
    | (cases h;exact⟨_,by simp[eqGuard_at_int,binOp,Op.intBits],by constructor⟩)
    | (split at h
       · cases h
       · rename_i hb;cases h;exact⟨_,by simp[eqGuard_at_int,binOp,Op.intDiv,hb];rfl,by constructor⟩)
theorem shiftA_ok {P:Program} {w:World} {C:Ctx} {op:BinOp} {k k':IntKind} {a b:Int} {r:AV} (h:shiftA op k a b=some r) (t:TypeId) (ox oy:Operand) :
    ∃r',(do eqGuard op t ox oy (.int k a) (.int k' b);binOp op t (.int k a) (.int k' b):Sem Value).run P w = .ok r' w∧VR C r r':=by
  unfold shiftA at h
  split at h
  · cases h
  · rename_i hb
    split at h
    · cases h;exact⟨_,by simp[eqGuard_at_int,binOp,Op.shift,hb];rfl,by constructor⟩
    · cases h;exact⟨_,by simp[eqGuard_at_int,binOp,Op.shift,hb];rfl,by constructor⟩
    · cases h
theorem strA_ok {P:Program} {w:World} {C:Ctx} {op:BinOp} {a b:List UInt8} {r:AV} (h:strA op a b=some r) (t:TypeId) (ox oy:Operand) :
    ∃r',(do eqGuard op t ox oy (.string ⟨a.toArray⟩) (.string ⟨b.toArray⟩);binOp op t (.string ⟨a.toArray⟩) (.string ⟨b.toArray⟩):Sem Value).run P w = .ok r' w∧VR C r r':=by
  have hadd:(ByteArray.mk a.toArray++ByteArray.mk b.toArray)=ByteArray.mk (a++b).toArray:=by
    apply ByteArray.ext
    simp[ByteArray.data_append]
  cases op<;>simp only[strA]at h<;>first
    | (cases h;done)
    | (split at h
       · rename_i hb
         cases h
         refine⟨.string ⟨(a++b).toArray⟩,?_,.str _⟩
         have hn:¬(9223372036854775807<((a.length:Int)+(b.length:Int))):=by unfold maxStr at hb;omega
         simp[eqGuard_at_string,binOp,Op.stringOp,ByteArray.size,hadd,IntKind.max,IntKind.signed,IntKind.bits,hn]
       · cases h)
    | (cases h;exact⟨.bool _,by simp[eqGuard_at_string,binOp,Op.stringOp],.bool _⟩)
theorem eqNeq_ok {P:Program} {w:World} {C:Ctx} {op:BinOp} {t:TypeId} {ox oy:Operand} {x y:Value} {b:Bool} {r:AV} (h:eqNeq op b=some r)
    (hg:(eqGuard op t ox oy x y).run P w = .ok () w) (he:op = .eql∨op = .neq→binOp op t x y=(match op with | .eql=>(do pure (.bool (←Op.equal t x y))) | _=>(do pure (.bool (!(←Op.equal t x y))))))
    (hq:(Op.equal t x y).run P w = .ok b w) :
    ∃r',(do eqGuard op t ox oy x y;binOp op t x y:Sem Value).run P w = .ok r' w∧VR C r r':=by
  cases op<;>simp only[eqNeq]at h<;>first
    | (cases h;done)
    | (cases h;refine⟨_,?_,.bool _⟩;simp only[Sem.run_bind,hg,Result.andThen_ok,he (.inl rfl)];simp[hq];done)
    | (cases h;refine⟨_,?_,.bool _⟩;simp only[Sem.run_bind,hg,Result.andThen_ok,he (.inr rfl)];simp[hq];done)
theorem boolT_ok {P:Program} {t:TypeId} (h:boolT P t=true):P.underlying t=some .bool:=by
  unfold boolT at h
  split at h
  · assumption
  · cases h
theorem ptrT_ok {P:Program} {t e:TypeId} (h:ptrT P t=some e):P.underlying t=some (.pointer e):=by
  unfold ptrT at h
  split at h
  · rename_i hh;cases h;exact hh
  · cases h
theorem mapT_ok {P:Program} {t k e:TypeId} (h:mapT P t=some (k,e)):P.underlying t=some (.map k e):=by
  unfold mapT at h
  split at h
  · rename_i hh;cases h;exact hh
  · cases h
theorem ifaceT_ok {P:Program} {t:TypeId} (h:ifaceT P t=some true):∃ms,P.underlying t=some (.interface ms):=by
  unfold ifaceT at h
  split at h<;>first | (rename_i hh;exact⟨_,hh⟩) | cases h
theorem guard_plain {P:Program} {w:World} {op:BinOp} {t:TypeId} {ox oy:Operand} {x y:Value} (h:eqGuard op t ox oy x y=pure ()):(eqGuard op t ox oy x y).run P w = .ok () w:=by rw[h];rfl
section
variable {P:Program} (w:World) (d:Nat) {t:TypeId}
theorem equalIn_bool (h:P.underlying t=some .bool) (a b:Bool):(Op.equalIn (d+1) t (.bool a) (.bool b)).run P w = .ok (a==b) w:=by simp only[Op.equalIn,Sem.run_bind,run_underlying h,Result.andThen_ok];rfl
theorem equalIn_nilp {e:TypeId} (h:P.underlying t=some (.pointer e)) (b:Option Addr):(Op.equalIn (d+1) t (.pointer none) (.pointer b)).run P w = .ok b.isNone w:=by simp only[Op.equalIn,Sem.run_bind,run_underlying h,Result.andThen_ok];rfl
theorem equalIn_nilp' {e:TypeId} (h:P.underlying t=some (.pointer e)) (a:Addr):(Op.equalIn (d+1) t (.pointer (some a)) (.pointer none)).run P w = .ok false w:=by simp only[Op.equalIn,Sem.run_bind,run_underlying h,Result.andThen_ok];rfl
theorem equalIn_same {e:TypeId} {i:TypeInfo} (h:P.underlying t=some (.pointer e)) (hi:P.info? e=some i) (hs:i.size≠0) (c x y:Nat) :
    (Op.equalIn (d+1) t (.pointer (some ⟨c,x,none⟩)) (.pointer (some ⟨c,y,none⟩))).run P w = .ok (x==y) w:=by
  have hb:((⟨c,x,none⟩:Addr)==⟨c,y,none⟩)=(x==y):=by
    rw[Bool.eq_iff_iff];simp
  simp only[Op.equalIn,Sem.run_bind,run_underlying h,Result.andThen_ok,sizeOf,typeInfo,run_program,hi,Sem.run_pure]
  simp[hs,sameAddr,hb]
theorem equalIn_nils {e:TypeId} (h:P.underlying t=some (.slice e)) (a:Option Addr) (l c l' c':Nat):(Op.equalIn (d+1) t (.slice none l c) (.slice a l' c')).run P w = .ok a.isNone w:=by simp only[Op.equalIn,Sem.run_bind,run_underlying h,Result.andThen_ok];rfl
theorem equalIn_nilm {k e:TypeId} (h:P.underlying t=some (.map k e)) (b:Option Nat):(Op.equalIn (d+1) t (.map none) (.map b)).run P w = .ok b.isNone w:=by simp only[Op.equalIn,Sem.run_bind,run_underlying h,Result.andThen_ok];rfl
theorem equalIn_nilm' {k e:TypeId} (h:P.underlying t=some (.map k e)) (b:Nat):(Op.equalIn (d+1) t (.map (some b)) (.map none)).run P w = .ok false w:=by simp only[Op.equalIn,Sem.run_bind,run_underlying h,Result.andThen_ok];rfl
theorem equalIn_nili {ms:Array (String × TypeId)} (h:P.underlying t=some (.interface ms)):(Op.equalIn (d+1) t .nilIface .nilIface).run P w = .ok true w:=by simp only[Op.equalIn,Sem.run_bind,run_underlying h,Result.andThen_ok];rfl
theorem equalIn_nili' {ms:Array (String × TypeId)} (h:P.underlying t=some (.interface ms)) (u:TypeId) (v:Value):(Op.equalIn (d+1) t .nilIface (.iface u v)).run P w = .ok false w:=by simp only[Op.equalIn,Sem.run_bind,run_underlying h,Result.andThen_ok];rfl
theorem equalIn_nili2 {ms:Array (String × TypeId)} (h:P.underlying t=some (.interface ms)) (u:TypeId) (v:Value):(Op.equalIn (d+1) t (.iface u v) .nilIface).run P w = .ok false w:=by simp only[Op.equalIn,Sem.run_bind,run_underlying h,Result.andThen_ok];rfl
end
theorem part_at {P:Program} {w:World} {t:TypeId} {vs:Array Value} {off:Nat} {y:Value} (ha:aggT P t=some false) (hy:vs[off]?=some y):(part t vs off).run P w = .ok y w:=by
  simp[part,aggT_run ha,hy]
theorem getD_some {a:List AV} {i:Nat} {x:AV} (h:a.getD i .und=x) (hx:x ≠ .und):a[i]?=some x:=by
  cases e:a[i]? with
  | none=>rw[List.getD,e]at h;exact absurd h.symm hx
  | some y=>rw[List.getD,e]at h;rw[←h];rfl
theorem eqCell_s {x y:AV} {r:Bool} (h:eqCell .s x y=some r):∃a b,x = .str a∧y = .str b∧r=(a==b):=by
  unfold eqCell at h
  split at h
  · cases h;exact⟨_,_,rfl,rfl,rfl⟩
  · rename_i e;cases e
  · rename_i e;cases e
  · cases h
theorem eqCell_b {x y:AV} {r:Bool} (h:eqCell .b x y=some r):∃a b,x = .bool a∧y = .bool b∧r=(a==b):=by
  unfold eqCell at h
  split at h
  · rename_i e;cases e
  · cases h;exact⟨_,_,rfl,rfl,rfl⟩
  · rename_i e;cases e
  · cases h
theorem eqCell_i {x y:AV} {r:Bool} (h:eqCell .i x y=some r):∃k a b,x = .int k a∧y = .int k b∧r=(a==b):=by
  unfold eqCell at h
  split at h
  · rename_i e;cases e
  · rename_i e;cases e
  · split at h
    · rename_i hk;subst hk;cases h;exact⟨_,_,_,rfl,rfl,rfl⟩
    · cases h
  · cases h
theorem eqCell_ok {P:Program} {C:Ctx} {w:World} {f:Field} {off:Nat} {g:EqTag} (ht:eqTag P f=some (off,g)) {xs ys:List AV} {xs' ys':Array Value} (hx:VRs C xs xs'.toList) (hy:VRs C ys ys'.toList) {r:Bool}
    (h:eqCell g (xs.getD off .und) (ys.getD off .und)=some r) (d:Nat) :
    f.name≠ "_"∧f.offset=off∧∃a b,(part f.type xs' f.offset).run P w = .ok a w∧(part f.type ys' f.offset).run P w = .ok b w∧(Op.equalIn (d+1) f.type a b).run P w = .ok r w:=by
  unfold eqTag at ht
  split at ht
  case isFalse=>cases ht
  rename_i hc
  have key:∀{u v:AV},xs.getD off .und=u→ys.getD off .und=v→u ≠ .und→v ≠ .und→f.offset=off→∃a b,VR C u a∧VR C v b∧(part f.type xs' f.offset).run P w = .ok a w∧(part f.type ys' f.offset).run P w = .ok b w:=by
    intro u v hu hv nu nv hoff
    obtain⟨a,ha,hua⟩:=VRs.get hx (getD_some hu nu)
    obtain⟨b,hb,hvb⟩:=VRs.get hy (getD_some hv nv)
    subst hoff
    exact⟨a,b,hua,hvb,part_at hc.2 (by simpa using ha),part_at hc.2 (by simpa using hb)⟩
  split at ht
  · rename_i hu
    simp only[Option.some.injEq,Prod.mk.injEq]at ht
    obtain⟨hoff,rfl⟩:=ht
    obtain⟨a,b,e1,e2,rfl⟩:=eqCell_s h
    obtain⟨a',b',v1,v2,p1,p2⟩:=key e1 e2 (by simp) (by simp) hoff
    cases v1;cases v2
    refine⟨hc.1,hoff,_,_,p1,p2,?_⟩
    rw[run_equalIn_string w d f.type _ _ hu]
    simp[ByteArray.toList_eq]
  · rename_i hu
    simp only[Option.some.injEq,Prod.mk.injEq]at ht
    obtain⟨hoff,rfl⟩:=ht
    obtain⟨a,b,e1,e2,rfl⟩:=eqCell_b h
    obtain⟨a',b',v1,v2,p1,p2⟩:=key e1 e2 (by simp) (by simp) hoff
    cases v1;cases v2
    exact⟨hc.1,hoff,_,_,p1,p2,run_equalIn_bool' w d f.type _ _ hu⟩
  · rename_i hu
    simp only[Option.some.injEq,Prod.mk.injEq]at ht
    obtain⟨hoff,rfl⟩:=ht
    obtain⟨k,a,b,e1,e2,rfl⟩:=eqCell_i h
    obtain⟨a',b',v1,v2,p1,p2⟩:=key e1 e2 (by simp) (by simp) hoff
    cases v1;cases v2
    exact⟨hc.1,hoff,_,_,p1,p2,run_equalIn_int w d f.type _ _ _ _ hu⟩
  · cases ht
theorem eqCells_ok {P:Program} {C:Ctx} {w:World} {xs ys:List AV} {xs' ys':Array Value} (hx:VRs C xs xs'.toList) (hy:VRs C ys ys'.toList) (d:Nat) :
    ∀(fs:List Field) (gs:List (Nat × EqTag)) (r:Bool),fs.mapM (eqTag P)=some gs→eqCells gs xs ys=some r→(Op.eqFields (d+1) xs' ys' fs).run P w = .ok r w
  | [],gs,r,hg,h=>by
    simp only[List.mapM_nil,Option.pure_def,Option.some.injEq]at hg
    subst hg
    simp only[eqCells,Option.some.injEq]at h
    subst h
    simp[Op.eqFields]
  | f::fs,gs,r,hg,h=>by
    simp only[List.mapM_cons,Option.pure_def,Option.bind_eq_bind,Option.bind_eq_some_iff,Option.some.injEq]at hg
    obtain⟨g,hg1,gs',hg2,rfl⟩:=hg
    simp only[eqCells]at h
    split at h
    case h_2=>cases h
    rename_i r1 r2 h1 h2
    cases h
    obtain⟨hn,_,a,b,p1,p2,p3⟩:=eqCell_ok (w:=w) hg1 hx hy h1 d
    simp only[Op.eqFields,hn,ne_eq,not_false_eq_true,if_true,Sem.run_bind,p1,p2,p3,Result.andThen_ok]
    have ih:=eqCells_ok (w:=w) hx hy d fs gs' r2 hg2 h2
    cases r1
    · simp
    · simpa using ih
theorem binA_ok {P:Program} {C:Ctx} {w:World} {op:BinOp} {t:TypeId} {ox oy:Operand} {x y:AV} {x' y':Value} {r:AV} (hx:VR C x x') (hy:VR C y y') (h:binA P C.H op t ox oy x y=some r) :
    ∃r',(do eqGuard op t ox oy x' y';binOp op t x' y':Sem Value).run P w = .ok r' w∧VR C r r':=by
  unfold binA at h
  split at h
  · cases hx;cases hy
    split at h
    · exact shiftA_ok h t ox oy
    · exact shiftA_ok h t ox oy
    · rename_i h1 h2
      split at h
      · rename_i hk
        subst hk
        exact intA_ok h (fun e=>h1 e) (fun e=>h2 e) t ox oy
      · cases h
  · cases hx;cases hy;exact strA_ok h t ox oy
  · split at h
    case isFalse=>cases h
    rename_i hb
    cases hx;cases hy
    refine eqNeq_ok h (guard_plain (eqGuard_at_bool ..)) (fun e=>by rcases e with rfl | rfl<;>rfl) ?_
    exact equalIn_bool w 9999 (boolT_ok hb) _ _
  · split at h
    case isFalse=>cases h
    rename_i hb
    obtain⟨e,he⟩:=Option.isSome_iff_exists.1 hb
    cases hx;cases hy
    refine eqNeq_ok h (guard_plain (eqGuard_at_pointer ..)) (fun e=>by rcases e with rfl | rfl<;>rfl) ?_
    exact equalIn_nilp w 9999 (ptrT_ok he) _
  · split at h
    case isFalse=>cases h
    rename_i hb
    obtain⟨e,he⟩:=Option.isSome_iff_exists.1 hb
    cases hx;cases hy
    refine eqNeq_ok h (guard_plain (eqGuard_at_pointer ..)) (fun e=>by rcases e with rfl | rfl<;>rfl) ?_
    exact equalIn_nilp' w 9999 (ptrT_ok he) _
  · split at h
    case isFalse=>cases h
    rename_i hb
    obtain⟨e,he⟩:=Option.isSome_iff_exists.1 hb
    cases hx;cases hy
    refine eqNeq_ok h (guard_plain (eqGuard_at_pointer ..)) (fun e=>by rcases e with rfl | rfl<;>rfl) ?_
    exact equalIn_nilp w 9999 (ptrT_ok he) _
  · split at h
    case h_2=>cases h
    rename_i e he
    split at h
    case h_2=>cases h
    rename_i n e' cs hs hk
    split at h
    case isFalse=>cases h
    rename_i hjk
    subst hjk
    cases hx with
    | ptr _ _ a1 ha=>
    cases hy with
    | ptr _ _ b1 hb=>
    obtain⟨_,_,ha⟩:=ha
    obtain⟨_,_,hb⟩:=hb
    simp only[hk]at ha hb
    obtain⟨c,cap,hm,rfl⟩:=ha
    obtain⟨c',cap',hm',rfl⟩:=hb
    rw[hm]at hm'
    cases hm'
    obtain⟨i,hi,hsz⟩:=szT_info hs
    refine eqNeq_ok h (guard_plain (eqGuard_at_pointer ..)) (fun e=>by rcases e with rfl | rfl<;>rfl) ?_
    exact equalIn_same w 9999 (ptrT_ok he) hi (by omega) _ _ _
  · split at h
    case isFalse=>cases h
    rename_i hb
    obtain⟨e,he⟩:=Option.isSome_iff_exists.1 hb
    cases hx;cases hy
    refine eqNeq_ok h (guard_plain (eqGuard_at_slice ..)) (fun e=>by rcases e with rfl | rfl<;>rfl) ?_
    exact equalIn_nils w 9999 (elemT_ok he) _ _ _ _ _
  · split at h
    case isFalse=>cases h
    rename_i hb
    obtain⟨⟨k,e⟩,he⟩:=Option.isSome_iff_exists.1 hb
    cases hx;cases hy
    refine eqNeq_ok h (guard_plain (eqGuard_at_map ..)) (fun e=>by rcases e with rfl | rfl<;>rfl) ?_
    exact equalIn_nilm w 9999 (mapT_ok he) _
  · split at h
    case isFalse=>cases h
    rename_i hb
    obtain⟨⟨k,e⟩,he⟩:=Option.isSome_iff_exists.1 hb
    cases hx;cases hy
    refine eqNeq_ok h (guard_plain (eqGuard_at_map ..)) (fun e=>by rcases e with rfl | rfl<;>rfl) ?_
    exact equalIn_nilm' w 9999 (mapT_ok he) _
  · split at h
    case isFalse=>cases h
    rename_i hb
    obtain⟨ms,hms⟩:=ifaceT_ok hb.1
    cases hx;cases hy
    have hg:eqGuard op t ox oy .nilIface .nilIface=pure ():=by
      have h2:=hb.2
      unfold AV.isConst at h2
      cases ox<;>cases oy<;>first | (simp at h2;done) | exact eqGuard_nil_constL .. | exact eqGuard_nil_constR ..
    refine eqNeq_ok h (guard_plain hg) (fun e=>by rcases e with rfl | rfl<;>rfl) ?_
    exact equalIn_nili w 9999 hms
  · split at h
    case isFalse=>cases h
    rename_i hb
    obtain⟨ms,hms⟩:=ifaceT_ok hb
    cases hx;cases hy
    refine eqNeq_ok h (guard_plain (eqGuard_at_iface ..)) (fun e=>by rcases e with rfl | rfl<;>rfl) ?_
    exact equalIn_nili2 w 9999 hms _ _
  · split at h
    case isFalse=>cases h
    rename_i hb
    obtain⟨ms,hms⟩:=ifaceT_ok hb
    cases hx;cases hy
    refine eqNeq_ok h (guard_plain (eqGuard_nil_iface ..)) (fun e=>by rcases e with rfl | rfl<;>rfl) ?_
    exact equalIn_nili' w 9999 hms _ _
  · split at h
    case h_2=>cases h
    rename_i gs hgs
    split at h
    case h_2=>cases h
    rename_i b hb
    cases hx with
    | agg _ vs hl hv=>
    cases hy with
    | agg _ us hl2 hv2=>
    unfold eqT at hgs
    split at hgs
    case h_2=>cases hgs
    rename_i fs hu
    split at hgs
    case isFalse=>cases hgs
    rename_i hc
    have hfs:P.fieldsOf t=fs:=by simp[Program.fieldsOf,hu]
    refine eqNeq_ok h (run_eqGuard_agg w op t ox oy vs us hc.2) (fun e=>by rcases e with rfl | rfl<;>rfl) ?_
    unfold Op.equal Op.maxDepth
    rw[run_equalIn_struct w 9999 t vs us (by rw[hfs];exact hu) hc.1,hfs]
    exact eqCells_ok (d:=9998) ⟨by simpa using hl,fun j a b ha hb=>hv j a b ha (by simpa using hb)⟩ ⟨by simpa using hl2,fun j a b ha hb=>hv2 j a b ha (by simpa using hb)⟩ fs.toList gs b hgs hb
  · cases h
def unA (op:UnOp) (x:AV):Option AV:=
  match op,x with
  | .neg,.int k n=>some (.int k (k.wrap (0-n)))
  | .xor,.int k n=>some (.int k (k.wrap (BitVec.ofInt k.bits (if k.signed then -1 else k.max) ^^^ BitVec.ofInt k.bits n).toNat))
  | .not,.bool b=>some (.bool (!b))
  | _,_=>none
theorem unA_ok {P:Program} {C:Ctx} {w:World} {op:UnOp} {x:AV} {x':Value} {r:AV} (hx:VR C x x') (h:unA op x=some r):∃r',(Op.unary op x').run P w = .ok r' w∧VR C r r':=by
  unfold unA at h
  split at h
  · cases hx;cases h;exact⟨.int _ _,rfl,.int _ _⟩
  · cases hx;cases h;exact⟨.int _ _,rfl,.int _ _⟩
  · cases hx;cases h;exact⟨_,rfl,.bool _⟩
  · cases h
def boundA (x:Option AV) (y d:Nat):Option Nat:=
  match x with
  | none=>some d
  | some (.int _ i)=>if 0≤i∧i≤y then some i.toNat else none
  | _=>none
def sliceA (P:Program) (H:AHeap) (t:TypeId) (x:AV) (lo hi mx:Option AV):Option AV:=
  match mx,x with
  | none,.str s=>if strT P t then
      match boundA hi s.length s.length with
      | none=>none
      | some h=>match boundA lo h 0 with
        | none=>none
        | some l=>some (.str ((s.take h).drop l))
    else none
  | none,.slc k len=>match elemT P t with
    | none=>none
    | some e=>match szT P e,H.get k with
      | some _,some (.row _ (_+1) _)=>(match boundA hi len len with
        | none=>none
        | some h=>match boundA lo h 0 with
          | some 0=>some (.slc k h)
          | _=>none)
      | some _,some (.cells _ _)=>(match boundA hi len len with
        | none=>none
        | some h=>match boundA lo h 0 with
          | some 0=>some (.slc k h)
          | _=>none)
      | _,_=>none
  | none,.lst len cs=>match elemT P t with
    | none=>none
    | some e=>match szT P e with
      | none=>none
      | some s=>match boundA hi len len with
        | none=>none
        | some h=>match boundA lo h 0 with
          | none=>none
          | some l=>some (.lst (h-l) ((cs.take (h*s)).drop (l*s)))
  | none,.nils=>match (elemT P t).bind (szT P)with
    | none=>none
    | some _=>match boundA hi 0 0 with
      | some 0=>(match boundA lo 0 0 with | some 0=>some .nils | _=>none)
      | _=>none
  | _,_=>none
def OVR (C:Ctx):Option AV→Option Value→Prop
  | none,none=>True
  | some x,some y=>VR C x y
  | _,_=>False
theorem boundA_ok {P:Program} {C:Ctx} {w:World} {x:Option AV} {x':Option Value} {y d n:Nat} (hx:OVR C x x') (h:boundA x y d=some n) (code:BoundsCode) :
    (match x' with | some v=>Instr.sliceBound v y code | none=>pure d).run P w = .ok n w∧(x'≠none→n≤y)∧(x'=none→n=d):=by
  unfold boundA at h
  split at h
  · cases x' with
    | none=>cases h;exact⟨rfl,by simp,fun _=>rfl⟩
    | some v=>exact hx.elim
  · rename_i k i
    cases x' with
    | none=>exact hx.elim
    | some v=>
      split at h
      · rename_i hb
        cases h
        cases (hx:VR C _ _)
        refine⟨by simp[Instr.sliceBound,asIntOf,hb],fun _=>by omega,by simp⟩
      · cases h
  · cases h
theorem extract_mk (s:List UInt8) (l h:Nat):(ByteArray.mk s.toArray).extract l h=ByteArray.mk ((s.take h).drop l).toArray:=by
  apply ByteArray.ext
  simp[ByteArray.data_extract,List.extract_eq_take_drop,List.drop_take]
theorem sliceBounds_ok {P:Program} {C:Ctx} {w:World} {isS:Bool} {len cap h l:Nat} {lo hi:Option AV} {lo' hi':Option Value} (hlo:OVR C lo lo') (hhi:OVR C hi hi') (hh:boundA hi len len=some h) (hl:boundA lo h 0=some l) (hle:len≤cap) :
    (Instr.sliceBounds isS len cap lo' hi' none).run P w = .ok (l,h,cap) w∧h≤len∧l≤h:=by
  obtain⟨r1,b1,c1⟩:=boundA_ok (P:=P) (w:=w) hhi hh (if isS then .sliceAcap else .sliceAlen)
  obtain⟨r2,b2,c2⟩:=boundA_ok (P:=P) (w:=w) hlo hl .sliceB
  have hhl:h≤len:=by
    cases hi' with
    | none=>rw[c1 rfl];exact Nat.le_refl _
    | some v=>exact b1 (by simp)
  have hlh:l≤h:=by
    cases lo' with
    | none=>rw[c2 rfl];exact Nat.zero_le _
    | some v=>exact b2 (by simp)
  refine⟨?_,hhl,hlh⟩
  have up:∀v,hi'=some v→(Instr.sliceBound v cap (if isS then .sliceAcap else .sliceAlen)).run P w = .ok h w:=by
    intro v hv
    subst hv
    unfold boundA at hh
    split at hh
    · exact hhi.elim
    · split at hh
      · rename_i k i hb
        cases hh
        cases (hhi:VR C _ _)
        have:0≤i∧i≤(cap:Int):=⟨hb.1,by omega⟩
        simp[Instr.sliceBound,asIntOf,this]
      · cases hh
    · cases hh
  cases hi' with
  | none=>
    have:=c1 rfl
    subst this
    cases lo' with
    | none=>have:=c2 rfl;subst this;simp[Instr.sliceBounds]
    | some v=>simp only at r2;simp[Instr.sliceBounds,r2]
  | some v=>
    have hu:=up v rfl
    cases lo' with
    | none=>have:=c2 rfl;subst this;simp[Instr.sliceBounds,hu]
    | some v2=>simp only at r2;simp[Instr.sliceBounds,hu,r2]
theorem sliceA_ok {P:Program} {G:Nat→Option (List AV)} {C:Ctx} {w:World} (R:Rel G C w) {t:TypeId} {x:AV} {x':Value} {lo hi mx:Option AV} {lo' hi' mx':Option Value} {r:AV} (hx:VR C x x') (hlo:OVR C lo lo') (hhi:OVR C hi hi') (hmx:OVR C mx mx')
    (h:sliceA P C.H t x lo hi mx=some r):∃r',(Instr.sliceAt t x' lo' hi' mx').run P w = .ok r' w∧VR C r r':=by
  have nomx:mx=none→mx'=none:=fun e=>by
    subst e
    cases mx' with
    | none=>rfl
    | some v=>exact hmx.elim
  unfold sliceA at h
  split at h
  · have:=nomx rfl;subst this
    rename_i s
    split at h
    case isFalse=>cases h
    rename_i hst
    split at h
    · cases h
    rename_i hh hhe
    split at h
    · cases h
    rename_i l hle
    cases h
    cases hx
    obtain⟨hr,_,_⟩:=sliceBounds_ok (P:=P) (w:=w) (isS:=false) hlo hhi hhe hle (Nat.le_refl _)
    have hsz:(ByteArray.mk s.toArray).size=s.length:=by simp[ByteArray.size]
    refine⟨.string ⟨((s.take hh).drop l).toArray⟩,?_,.str _⟩
    simp only[Instr.sliceAt,Sem.run_bind,run_underlying (strT_ok hst),Result.andThen_ok,Instr.slice,hsz,Option.isSome_none,Bool.false_eq_true,if_false,hr,Sem.run_pure]
    rw[extract_mk]
  · have:=nomx rfl;subst this
    rename_i k len
    split at h
    · cases h
    rename_i e he
    have fin:∀(a:Option Addr) (cap hh:Nat) (sz:Nat),szT P e=some sz→len≤cap→boundA hi len len=some hh→boundA lo hh 0=some 0→∀rr,VR C rr (.slice a hh cap) →
        ∃r',(Instr.sliceAt t (.slice a len cap) lo' hi' none).run P w = .ok r' w∧VR C rr r':=by
      intro a cap hh sz hsz hlc hhe hle rr hrr
      obtain⟨i,hi,rfl⟩:=szT_info hsz
      obtain⟨hr,_,_⟩:=sliceBounds_ok (P:=P) (w:=w) (isS:=true) (cap:=cap) hlo hhi hhe hle hlc
      refine⟨.slice a hh cap,?_,hrr⟩
      have ha:(if cap=0 then a else a.map (·.add (0*i.size)))=a:=by
        split
        · rfl
        · cases a<;>simp[Addr.add]
      simp only[Instr.sliceAt,Sem.run_bind,run_underlying (elemT_ok he),Result.andThen_ok,Instr.slice,hr,sizeOf,typeInfo,run_program,hi,Sem.run_pure,Nat.sub_zero,ha]
    split at h
    · rename_i sz e' s' cs hsz hk
      split at h
      · cases h
      rename_i hh hhe
      split at h
      case h_2=>cases h
      rename_i hle
      cases h
      cases hx with
      | slc _ _ a cap hso=>
      obtain⟨hk1,hk2,hso⟩:=hso
      simp only[hk]at hso
      obtain⟨hl1,hso⟩:=hso
      have hle2:hh≤len:=by
        have:=(boundA_ok (P:=P) (w:=w) hhi hhe .index).2
        cases hi' with
        | none=>rw[this.2 rfl];exact Nat.le_refl _
        | some v=>exact this.1 (by simp)
      obtain⟨n,v,ys,hown,hys,hv⟩:=(R.pres k _ hk).2.2
      cases hmk:C.μ k with
      | none=>
        simp only[hmk]at hso
        obtain⟨rfl,hso⟩:=hso
        cases hso
        refine fin none 0 hh sz hsz (Nat.le_refl _) hhe hle _ ?_
        have:hh=0:=by omega
        subst this
        exact .slc _ _ _ _ ⟨hk1,hk2,by simp only[hk,hmk];exact⟨by omega,by simp⟩⟩
      | some p=>
        obtain⟨c,cap2⟩:=p
        simp only[hmk]at hso
        cases hso
        obtain⟨n2,cur,q1,q2,q3,q4,q5,q6⟩:=(R.pres k _ hk).2.2.row_block hmk
        have hln:len≤n2:=by
          rw[q5]at hl1
          exact Nat.le_of_mul_le_mul_right hl1 (by omega)
        refine fin _ cap hh sz hsz (by omega) hhe hle _ ?_
        exact .slc _ _ _ _ ⟨hk1,hk2,by simp only[hk,hmk];exact⟨Nat.le_trans (Nat.mul_le_mul_right _ hle2) hl1,trivial⟩⟩
    · rename_i sz e' cs hsz hk
      split at h
      · cases h
      rename_i hh hhe
      split at h
      case h_2=>cases h
      rename_i hle
      cases h
      cases hx with
      | slc _ _ a cap hso=>
      obtain⟨hk1,hk2,hso⟩:=hso
      simp only[hk]at hso
      obtain⟨c,cap1,cap2,hm,hv,hlc⟩:=hso
      cases hv
      have hle2:hh≤len:=by
        have:=(boundA_ok (P:=P) (w:=w) hhi hhe .index).2
        cases hi' with
        | none=>rw[this.2 rfl];exact Nat.le_refl _
        | some v=>exact this.1 (by simp)
      refine fin _ cap hh sz hsz hlc hhe hle _ ?_
      exact .slc _ _ _ _ ⟨hk1,hk2,by simp only[hk];exact⟨c,cap,cap2,hm,rfl,by omega⟩⟩
    · cases h
  · have:=nomx rfl;subst this
    rename_i len cs
    split at h
    · cases h
    rename_i e he
    split at h
    · cases h
    rename_i sz hsz
    split at h
    · cases h
    rename_i hh hhe
    split at h
    · cases h
    rename_i l hle
    cases h
    obtain⟨i,hi,rfl⟩:=szT_info hsz
    cases hx with
    | lst _ _ c off cap arr f hI hcap h1 h2=>
      obtain⟨hr,hh1,hh2⟩:=sliceBounds_ok (P:=P) (w:=w) (isS:=true) (cap:=cap) hlo hhi hhe hle hcap
      refine⟨_,by simp only[Instr.sliceAt,Sem.run_bind,run_underlying (elemT_ok he),Result.andThen_ok,Instr.slice,hr,sizeOf,typeInfo,run_program,hi,Sem.run_pure];rfl,?_⟩
      have hget:∀(j:Nat) (x:AV),((cs.take (hh*i.size)).drop (l*i.size))[j]?=some x→cs[l*i.size+j]?=some x:=by
        intro j x hj
        rw[List.getElem?_drop,List.getElem?_take]at hj
        split at hj
        · exact hj
        · cases hj
      by_cases hcl:cap=l
      · simp only[hcl,if_true]
        have hhl:hh=l:=by omega
        subst hhl
        refine .lst _ _ c off _ arr f hI (by omega) (fun j x hj=>?_) (fun j x hj=>?_)
        · rw[List.drop_take]at hj;simp at hj
        · rw[List.drop_take]at hj;simp at hj
      · simp only[hcl,if_false,Option.map_some]
        have ha:(⟨c,off,none⟩:Addr).add (l*i.size)=⟨c,off+l*i.size,none⟩:=by
          unfold Addr.add;split
          · rename_i e0;rw[e0];rfl
          · rfl
        rw[ha]
        refine .lst _ _ c _ _ arr (fun j=>f (l*i.size+j)) hI (by omega) (fun j x hj=>?_) (fun j x hj=>?_)
        · have:=h1 _ x (hget j x hj)
          rw[Nat.add_assoc];exact this
        · exact h2 _ x (hget j x hj)
    | lstNil=>
      obtain⟨hr,hh1,hh2⟩:=sliceBounds_ok (P:=P) (w:=w) (isS:=true) (cap:=0) hlo hhi hhe hle (Nat.le_refl _)
      refine⟨_,by simp only[Instr.sliceAt,Sem.run_bind,run_underlying (elemT_ok he),Result.andThen_ok,Instr.slice,hr,sizeOf,typeInfo,run_program,hi,Sem.run_pure];rfl,?_⟩
      have e1:hh=0:=by omega
      have e2:l=0:=by omega
      subst e1;subst e2
      simpa using VR.lstNil
  · have:=nomx rfl;subst this
    split at h
    · cases h
    rename_i sz hb
    simp only[Option.bind_eq_some_iff]at hb
    obtain⟨e,he,hsz⟩:=hb
    obtain⟨i,hi,rfl⟩:=szT_info hsz
    split at h
    case h_2=>cases h
    rename_i hhe
    split at h
    case h_2=>cases h
    rename_i hle
    cases h
    cases hx
    obtain⟨hr,hh1,hh2⟩:=sliceBounds_ok (P:=P) (w:=w) (isS:=true) (cap:=0) hlo hhi hhe hle (Nat.le_refl _)
    refine⟨_,by simp only[Instr.sliceAt,Sem.run_bind,run_underlying (elemT_ok he),Result.andThen_ok,Instr.slice,hr,sizeOf,typeInfo,run_program,hi,Sem.run_pure];rfl,?_⟩
    simpa using VR.nils
  · cases h
end Go.Ab
namespace Go.Ab
open Go Go.Lib
def ptrAdd (n:Nat):AV→Option AV
 | .ptr k off=>some (.ptr k (off+n))
 | .gptr g off=>some (.gptr g (off+n))
 | .lptr cs off=>some (.lptr cs (off+n))
 | _=>none
theorem addr_add (c off n:Nat):(⟨c,off,none⟩:Addr).add n=⟨c,off+n,none⟩:=by
 unfold Addr.add;split
 ·rename_i e;rw[e];rfl
 ·rfl
theorem ptrAdd_ok {C:Ctx} {x r:AV} {x':Value} {n:Nat} (hx:VR C x x') (h:ptrAdd n x=some r):∃a,x' = .pointer (some a)∧VR C r (.pointer (some (a.add n))):=by
 unfold ptrAdd at h
 split at h
 ·rename_i k off
  cases h
  cases hx with
  | ptr _ _ a ha=>
   refine⟨a,rfl,.ptr _ _ _ ?_⟩
   obtain⟨h1,h2,h3⟩:=ha
   refine⟨h1,h2,?_⟩
   cases hk:C.H.get k with
   | none=>trivial
   | some o=>
   simp only[hk]at h3
   cases o with
   | map es=>exact h3.elim
   | held=>exact h3.elim
   | _=>
    obtain⟨c,cap,hm,rfl⟩:=h3
    exact⟨c,cap,hm,by rw[addr_add]⟩
 ·cases h
  cases hx with
  | gptr g off=>exact⟨_,rfl,by rw[addr_add];exact .gptr _ _⟩
 ·cases h
  cases hx with
  | lptr cs off c base arr f hI h1 h2=>exact⟨_,rfl,by rw[addr_add,Nat.add_assoc];exact .lptr _ _ c base arr f hI h1 h2⟩
 ·cases h
def fieldA (P:Program) (s:TypeId) (x:AV) (f:Nat):Option AV:=
 match fieldT P s f with
 | none=>none
 | some (off,ft)=>match szT P ft with
  | some (_+1)=>ptrAdd off x
  | _=>none
theorem fieldA_ok {P:Program} {C:Ctx} {w:World} {s:TypeId} {x r:AV} {x':Value} {f:Nat} (hx:VR C x x') (h:fieldA P s x f=some r):∃r',(Instr.fieldAt s x' f).run P w = .ok r' w∧VR C r r':=by
 unfold fieldA at h
 split at h
 ·cases h
 rename_i off ft hf
 split at h
 case h_2=>cases h
 rename_i n hsz
 obtain⟨a,rfl,hr⟩:=ptrAdd_ok hx h
 obtain⟨i,hi,hin⟩:=szT_info hsz
 unfold fieldT at hf
 split at hf
 case h_2=>cases hf
 rename_i fs hu
 simp only[Option.map_eq_some_iff,Prod.mk.injEq]at hf
 obtain⟨fd,hfd,rfl,rfl⟩:=hf
 have hne:i.size≠0:=by omega
 refine⟨_,?_,hr⟩
 simp[Instr.fieldAt,run_underlying hu,hfd,Instr.sureAddr,fieldPlace,sizeOf,typeInfo,hi,hne]
def indexAddrA (P:Program) (H:AHeap) (t:TypeId) (x i:AV):Option AV:=
 match i with
 | .int _ i=>match x with
  | .slc k len=>match elemT P t with
   | none=>none
   | some e=>match szT P e,H.get k with
    | some s,some (.row _ _ _)=>if 0≤i∧i<len then some (.ptr k (i.toNat*s))else none
    | some s,some (.cells _ _)=>if 0≤i∧i<len then some (.ptr k (i.toNat*s))else none
    | _,_=>none
  | .lst len cs=>match elemT P t with
   | none=>none
   | some e=>match szT P e with
    | some s=>if 0≤i∧i<len then some (.lptr cs (i.toNat*s))else none
    | none=>none
  | x=>match arrT P t with
   | none=>none
   | some (len,e)=>match szT P e with
    | some s=>if 0≤i∧i<len then ptrAdd (i.toNat*s) x else none
    | none=>none
 | _=>none
theorem arrT_ok {P:Program} {t:TypeId} {n:Nat} {e:TypeId} (h:arrT P t=some (n,e)):P.underlying t=some (.array n e):=by
 unfold arrT at h
 split at h
 ·rename_i hh;cases h;exact hh
 ·cases h
theorem run_indexAt_slc {P:Program} {w:World} {t e:TypeId} {i:TypeInfo} {k:IntKind} {n:Int} {len cap:Nat} {a:Addr} (he:P.underlying t=some (.slice e)) (hi:P.info? e=some i) (h:0≤n∧n<len) :
  (Instr.indexAt t (.slice (some a) len cap) (.int k n)).run P w = .ok (.pointer (some (a.add (n.toNat*i.size)))) w:=by
 have h2:0≤n∧n<(len:Int):=h
 simp[Instr.indexAt,asIntOf,run_underlying he,sizeOf,typeInfo,hi,h2]
theorem indexAddrA_ok {P:Program} {G:Nat→Option (List AV)} {C:Ctx} {w:World} (R:Rel G C w) {t:TypeId} {x i r:AV} {x' i':Value} (hx:VR C x x') (hi:VR C i i') (h:indexAddrA P C.H t x i=some r) :
  ∃r',(Instr.indexAt t x' i').run P w = .ok r' w∧VR C r r':=by
 unfold indexAddrA at h
 split at h
 case h_2=>cases h
 rename_i ki n
 cases hi
 split at h
 ·rename_i k len
  split at h
  ·cases h
  rename_i e he
  cases hx with
  | slc _ _ a cap hso=>
  obtain⟨h1,h2,hso⟩:=hso
  split at h
  ·rename_i s e' s' cs hs hk
   obtain⟨ie,hie,rfl⟩:=szT_info hs
   split at h
   case isFalse=>cases h
   rename_i hb
   cases h
   simp only[hk]at hso
   obtain⟨hl,hso⟩:=hso
   cases hmk:C.μ k with
   | none=>simp only[hmk]at hso;omega
   | some p=>
    obtain⟨c,cap'⟩:=p
    simp only[hmk]at hso
    cases hso
    refine⟨_,run_indexAt_slc (elemT_ok he) hie hb,.ptr _ _ _ ⟨h1,h2,?_⟩⟩
    simp only[hk]
    exact⟨c,cap,hmk,by rw[addr_add,Nat.zero_add]⟩
  ·rename_i s e' cs hs hk
   obtain⟨ie,hie,rfl⟩:=szT_info hs
   split at h
   case isFalse=>cases h
   rename_i hb
   cases h
   simp only[hk]at hso
   obtain⟨c,cap1,cap2,hm,hv,_⟩:=hso
   cases hv
   refine⟨_,run_indexAt_slc (elemT_ok he) hie hb,.ptr _ _ _ ⟨h1,h2,?_⟩⟩
   simp only[hk]
   exact⟨c,cap2,hm,by rw[addr_add,Nat.zero_add]⟩
  ·cases h
 ·rename_i len cs
  split at h
  ·cases h
  rename_i e he
  split at h
  case h_2=>cases h
  rename_i s hs
  obtain⟨ie,hie,rfl⟩:=szT_info hs
  split at h
  case isFalse=>cases h
  rename_i hb
  cases h
  cases hx with
  | lst _ _ c off cap arr f hI hcap h1 h2=>
   exact⟨_,run_indexAt_slc (elemT_ok he) hie hb,by rw[addr_add];exact .lptr _ _ c off arr f hI h1 h2⟩
  | lstNil=>omega
 ·split at h
  ·cases h
  rename_i len e ha
  split at h
  case h_2=>cases h
  rename_i s hs
  obtain⟨ie,hie,rfl⟩:=szT_info hs
  split at h
  case isFalse=>cases h
  rename_i hb
  obtain⟨a,rfl,hr⟩:=ptrAdd_ok hx h
  refine⟨_,?_,hr⟩
  have h2:0≤n∧n<(len:Int):=hb
  simp[Instr.indexAt,asIntOf,run_underlying (arrT_ok ha),Instr.sureAddr,sizeOf,typeInfo,hie,h2]
def indexA (P:Program) (t:TypeId) (x i:AV):Option AV:=
 match i,x with
 | .int _ i,.str s=>if strT P t=true∧0≤i then(s[i.toNat]?).map fun b => .int .u8 b.toNat else none
 | .int _ i,.agg cs=>match arrT P t with
  | none=>none
  | some (len,e)=>match szT P e with
   | none=>none
   | some s=>if 0≤i∧i<len then partA P e cs (i.toNat*s)else none
 | _,_=>none
theorem partA_agg {P:Program} {C:Ctx} {w:World} {t:TypeId} {cs:List AV} {vs:Array Value} {off:Nat} {x:AV} (h:VRs C cs vs.toList) (hp:partA P t cs off=some x):∃y,(part t vs off).run P w = .ok y w∧VR C x y:=by
 unfold partA at hp
 split at hp
 ·rename_i n hag hsz
  obtain⟨i,hi,rfl⟩:=szT_info hsz
  split at hp
  case isFalse=>cases hp
  rename_i hle
  cases hp
  refine⟨.agg (vs.extract off (off+i.size)),by simp[part,aggT_run hag,sizeOf,typeInfo,hi],?_⟩
  have hl:=h.1
  have h2:=(h.drop off).take i.size
  refine .agg _ _ (by simp at hl ⊢;omega) (fun j a b ha hb=>h2.2 j a b ha ?_)
  have e:(vs.extract off (off+i.size)).toList=(vs.toList.drop off).take i.size:=by
   simp[Array.toList_extract,List.extract_eq_take_drop]
  rw[←e,Array.getElem?_toList];exact hb
 ·rename_i hag hsz
  obtain⟨y,hy,hv⟩:=h.get hp
  refine⟨y,?_,hv⟩
  rw[Array.getElem?_toList]at hy
  simp[part,aggT_run hag,hy]
 ·cases hp
theorem indexA_ok {P:Program} {C:Ctx} {w:World} {t:TypeId} {x i r:AV} {x' i':Value} (hx:VR C x x') (hi:VR C i i') (h:indexA P t x i=some r):∃r',(Instr.index t x' i').run P w = .ok r' w∧VR C r r':=by
 unfold indexA at h
 split at h
 ·rename_i k n s
  split at h
  case isFalse=>cases h
  rename_i hc
  simp only[Option.map_eq_some_iff]at h
  obtain⟨b,hb,rfl⟩:=h
  cases hx;cases hi
  refine⟨_,?_,.int _ _⟩
  have hlt:n.toNat<s.length:=(List.getElem?_eq_some_iff.1 hb).1
  have hget:(ByteArray.mk s.toArray)[n.toNat]?=some b:=by
   have h2:n.toNat<(ByteArray.mk s.toArray).size:=by simpa[ByteArray.size]using hlt
   rw[getElem?_pos (ByteArray.mk s.toArray) n.toNat h2]
   have:(ByteArray.mk s.toArray)[n.toNat]=s[n.toNat]:=by simp[ByteArray.getElem_eq_getElem_data]
   rw[this]
   rw[List.getElem?_eq_getElem hlt]at hb
   exact hb
  simp[Instr.index,asIntOf,run_underlying (strT_ok hc.1),hc.2,hget]
 ·rename_i k n cs
  split at h
  ·cases h
  rename_i len e ha
  split at h
  ·cases h
  rename_i s hs
  obtain⟨ie,hie,rfl⟩:=szT_info hs
  split at h
  case isFalse=>cases h
  rename_i hb
  cases hi
  cases hx with
  | agg _ vs hl hv=>
  obtain⟨y,hy,hvy⟩:=partA_agg (P:=P) (w:=w) (vs:=vs) ⟨by simpa using hl,fun j a b ha hb=>hv j a b ha (by simpa using hb)⟩ h
  refine⟨y,?_,hvy⟩
  have h2:0≤n∧n<(len:Int):=hb
  simp[Instr.index,asIntOf,run_underlying (arrT_ok ha),sizeOf,typeInfo,hie,h2,hy]
 ·cases h
def fieldVA (P:Program) (t:TypeId) (x:AV) (f:Nat):Option AV:=
 match x,fieldT P t f with
 | .agg cs,some (off,ft)=>partA P ft cs off
 | _,_=>none
theorem fieldVA_ok {P:Program} {C:Ctx} {w:World} {t:TypeId} {x r:AV} {x':Value} {f:Nat} (hx:VR C x x') (h:fieldVA P t x f=some r):∃r',(Instr.field t x' f).run P w = .ok r' w∧VR C r r':=by
 unfold fieldVA at h
 split at h
 case h_2=>cases h
 rename_i cs off ft hf
 cases hx with
 | agg _ vs hl hv=>
 unfold fieldT at hf
 split at hf
 case h_2=>cases hf
 rename_i fs hu
 simp only[Option.map_eq_some_iff,Prod.mk.injEq]at hf
 obtain⟨fd,hfd,rfl,rfl⟩:=hf
 obtain⟨y,hy,hvy⟩:=partA_agg (P:=P) (w:=w) (vs:=vs) ⟨by simpa using hl,fun j a b ha hb=>hv j a b ha (by simpa using hb)⟩ h
 exact⟨y,by simp[Instr.field,run_underlying hu,hfd,asAgg,hy],hvy⟩
def extractA (x:AV) (i:Nat):Option AV:=
 match x with
 | .tup vs=>vs[i]?
 | _=>none
theorem extractA_ok {P:Program} {C:Ctx} {w:World} {x r:AV} {x':Value} {i:Nat} (hx:VR C x x') (h:extractA x i=some r):∃r',(Instr.extract x' i).run P w = .ok r' w∧VR C r r':=by
 unfold extractA at h
 split at h
 case h_2=>cases h
 cases hx with
 | tup vs ys hl hv=>
 have hi:i<ys.size:=by rw[←hl];exact(List.getElem?_eq_some_iff.1 h).1
 exact⟨ys[i],by simp[Instr.extract,hi],hv i r _ h (by simp[hi])⟩
def nilCheckA (x:AV):Option AV:=
 match x with
 | .ptr _ _ | .gptr _ _ | .lptr _ _=>some x
 | .func _ _=>some x
 | _=>none
def ifaceA (P:Program) (t:TypeId) (x:AV):Option AV:=if ifaceT P t=some false∧x.boxable=true then some (.iface t x)else none
theorem ifaceA_ok {P:Program} {C:Ctx} {w:World} {t:TypeId} {x r:AV} {x':Value} (hx:VR C x x') (h:ifaceA P t x=some r):∃r',(Instr.makeInterface t x').run P w = .ok r' w∧VR C r r':=by
 unfold ifaceA at h
 split at h
 case isFalse=>cases h
 rename_i hc
 cases h
 refine⟨_,?_,.iface _ _ _ hx⟩
 refine run_makeInterface w t x' ?_
 have hh:=hc.1
 unfold ifaceT at hh
 unfold Program.concrete
 split at hh<;>first | (cases hh;done) | (rename_i hn hd;simp only[hd];split<;>first | rfl | (rename_i he;cases he;exact(hn _ rfl).elim) | (rename_i he;cases he))
def assertA (P:Program) (x:AV) (asserted:TypeId) (ok:Bool):Option AV:=
 if ifaceT P asserted=some false then
  match x with
  | .iface t v=>if t=asserted then(if ok then some (.tup [v,.bool true])else some v)else(if ok then(zeroA P asserted).map fun z => .tup [z,.bool false]else none)
  | .nili=>if ok then(zeroA P asserted).map fun z => .tup [z,.bool false]else none
  | _=>none
 else none
theorem tup2 {C:Ctx} {a b:AV} {x y:Value} (h1:VR C a x) (h2:VR C b y):VR C (.tup [a,b]) (.tuple #[x,y]):=by
 refine .tup _ _ rfl (fun i u v hu hv=>?_)
 match i with
 | 0=>simp at hu hv;subst hu;subst hv;exact h1
 | 1=>simp at hu hv;subst hu;subst hv;exact h2
 | n+2=>simp at hu
theorem assertA_ok {P:Program} {C:Ctx} {w:World} {xt asserted:TypeId} {x r:AV} {x':Value} {ok:Bool} (hx:VR C x x') (h:assertA P x asserted ok=some r):∃r',(Instr.typeAssert x' xt asserted ok).run P w = .ok r' w∧VR C r r':=by
 unfold assertA at h
 split at h
 case isFalse=>cases h
 rename_i hc
 have hund:∃d,P.underlying asserted=some d∧∀ms,d ≠ .interface ms:=by
  unfold ifaceT at hc
  split at hc<;>first | (cases hc;done) | (rename_i hn hd;exact⟨_,hd,fun ms e=>hn ms e⟩)
 obtain⟨d,hd,hnd⟩:=hund
 split at h
 ·rename_i t v
  cases hx with
  | iface _ _ y hy=>
  split at h
  ·rename_i ht
   subst ht
   cases ok with
   | true=>
    simp only[if_true]at h;cases h
    refine⟨_,?_,tup2 hy (.bool true)⟩
    cases d<;>first | exact absurd rfl (hnd _) | simp[Instr.typeAssert,run_underlying hd]
   | false=>
    simp only[Bool.false_eq_true,if_false]at h;cases h
    refine⟨_,?_,hy⟩
    cases d<;>first | exact absurd rfl (hnd _) | simp[Instr.typeAssert,run_underlying hd]
  ·rename_i ht
   cases ok with
   | false=>simp at h
   | true=>
    simp only[if_true,Option.map_eq_some_iff]at h
    obtain⟨z,hz,rfl⟩:=h
    obtain⟨i,zv,_,_,rfl,hrun,hvz,_⟩:=zeroA_ok hz C w
    refine⟨_,?_,tup2 hvz (.bool false)⟩
    cases d<;>first | exact absurd rfl (hnd _) | simp[Instr.typeAssert,run_underlying hd,ht,hrun]
 ·cases hx
  cases ok with
  | false=>simp at h
  | true=>
   simp only[if_true,Option.map_eq_some_iff]at h
   obtain⟨z,hz,rfl⟩:=h
   obtain⟨i,zv,_,_,rfl,hrun,hvz,_⟩:=zeroA_ok hz C w
   refine⟨_,?_,tup2 hvz (.bool false)⟩
   cases d<;>first | exact absurd rfl (hnd _) | simp[Instr.typeAssert,run_underlying hd,hrun]
 ·cases h
theorem size_mk (s:List UInt8):(ByteArray.mk s.toArray).size=s.length:=by simp[ByteArray.size]
def lenA (P:Program) (H:AHeap) (t:TypeId) (x:AV):Option AV:=
 match x with
 | .str s=>if strT P t then some (.int .i64 s.length)else none
 | .slc _ n=>if(elemT P t).isSome then some (.int .i64 n)else none
 | .lst n _=>if(elemT P t).isSome then some (.int .i64 n)else none
 | .nils=>if(elemT P t).isSome then some (.int .i64 0)else none
 | .nilm=>if(mapT P t).isSome then some (.int .i64 0)else none
 | .map k=>match mapT P t,H.get k with
  | some _,some (.map es)=>some (.int .i64 es.length)
  | _,_=>none
 | _=>none
theorem lenA_ok {P:Program} {G:Nat→Option (List AV)} {C:Ctx} {w:World} (R:Rel G C w) {t ty:TypeId} {x r:AV} {x':Value} (hx:VR C x x') (h:lenA P C.H t x=some r) :
  ∃r',(Builtin.len_ #[t] ty #[x']).run P w = .ok r' w∧VR C r r':=by
 unfold lenA at h
 split at h
 ·split at h
  case isFalse=>cases h
  rename_i hc
  cases h;cases hx
  exact⟨.int .i64 _,by simp[Builtin.len_,run_underlying (strT_ok hc),goInt,size_mk],.int _ _⟩
 ·split at h
  case isFalse=>cases h
  rename_i hc
  obtain⟨e,he⟩:=Option.isSome_iff_exists.1 hc
  cases h
  cases hx with
  | slc _ _ a cap _=>exact⟨.int .i64 _,by simp[Builtin.len_,run_underlying (elemT_ok he),goInt],.int _ _⟩
 ·split at h
  case isFalse=>cases h
  rename_i hc
  obtain⟨e,he⟩:=Option.isSome_iff_exists.1 hc
  cases h
  cases hx with
  | lst=>exact⟨.int .i64 _,by simp[Builtin.len_,run_underlying (elemT_ok he),goInt],.int _ _⟩
  | lstNil=>exact⟨.int .i64 _,by simp[Builtin.len_,run_underlying (elemT_ok he),goInt],.int _ _⟩
 ·split at h
  case isFalse=>cases h
  rename_i hc
  obtain⟨e,he⟩:=Option.isSome_iff_exists.1 hc
  cases h;cases hx
  exact⟨.int .i64 _,by simp[Builtin.len_,run_underlying (elemT_ok he),goInt],.int _ _⟩
 ·split at h
  case isFalse=>cases h
  rename_i hc
  obtain⟨⟨k,e⟩,he⟩:=Option.isSome_iff_exists.1 hc
  cases h;cases hx
  exact⟨.int .i64 _,by simp[Builtin.len_,run_underlying (mapT_ok he),goInt],.int _ _⟩
 ·rename_i k
  split at h
  case h_2=>cases h
  rename_i q es hm hk
  obtain⟨kt,et⟩:=q
  cases h
  cases hx with
  | map _ r hr=>
  obtain⟨_,_,hr⟩:=hr
  simp only[hk]at hr
  obtain⟨cap,hmk⟩:=hr
  obtain⟨c,cap',es',cl,h1,h2,h3,_⟩:=(R.pres k _ hk).2.2
  rw[hmk]at h1;cases h1
  exact⟨.int .i64 _,by simp[Builtin.len_,run_underlying (mapT_ok hm),goInt,getObj,Sem.run,h2,←h3],.int _ _⟩
 ·cases h
end Go.Ab
namespace Go.Ab
open Go Go.Lib
def bytesOfA:List AV→Option (List UInt8)
 | []=>some []
 | .int .u8 n::rest=>(bytesOfA rest).map (UInt8.ofNat n.toNat::·)
 | _=>none
theorem bytesOfA_map (s:List UInt8):bytesOfA (s.map fun b=>AV.int .u8 b.toNat)=some s:=by
 induction s with
 | nil=>rfl
 | cons b s ih=>simp[bytesOfA,ih]
def hasT (P:Program) (t:TypeId):Bool:=(P.underlying t).isSome
def convA (P:Program) (H:AHeap) (n:Nat) (src dst:TypeId) (x:AV):Option (AV × AHeap):=
 if hasT P src then
  match x with
  | .int _ v=>(match intT P dst with
   | some k=>some (.int k (k.wrap v),H)
   | none=>if strT P dst then some (.str (Utf8.encode v).data.toList,H)else none)
  | .str s=>if strT P dst then some (.str s,H)else(match elemT P dst with
   | some e=>if intT P e=some .u8 then some (.slc n s.length,H.allocAt n (.cells 0 (s.map fun b => .int .u8 b.toNat)))else none
   | none=>none)
  | x=>if strT P dst then(match elemT P src with
   | some e=>if intT P e=some .u8 then(match srcCells H 1 x with
    | some (_,cs)=>(bytesOfA cs).map fun s=>(.str s,H)
    | none=>none)else none
   | none=>none)else none
 else none
theorem intT_ok {P:Program} {t:TypeId} {k:IntKind} (h:intT P t=some k):P.underlying t=some (.int k):=by
 unfold intT at h
 split at h
 ·rename_i hh;cases h;exact hh
 ·cases h
theorem bytesOfA_ok {C:Ctx}:∀{cs:List AV} {vs:List Value} {s:List UInt8},VRs C cs vs→bytesOfA cs=some s→∃ns:List Int,vs=ns.map (Value.int .u8)∧s=ns.map fun n=>UInt8.ofNat n.toNat
 | [],vs,s,h,hb=>by
  have:vs=[]:=List.eq_nil_of_length_eq_zero (by rw[←h.1];rfl)
  subst this
  cases hb
  exact⟨[],rfl,rfl⟩
 | c::cs,vs,s,h,hb=>by
  cases vs with
  | nil=>have:=h.1;simp at this
  | cons v vs=>
   have hv:VR C c v:=h.2 0 c v rfl rfl
   have hrest:VRs C cs vs:=⟨by have:=h.1;simpa using this,fun j a b ha hb=>h.2 (j+1) a b (by simpa using ha) (by simpa using hb)⟩
   unfold bytesOfA at hb
   split at hb
   ·rename_i he;cases he
   ·rename_i n rest he
    cases he
    simp only[Option.map_eq_some_iff]at hb
    obtain⟨s',hs',rfl⟩:=hb
    obtain⟨ns,rfl,rfl⟩:=bytesOfA_ok hrest hs'
    cases hv
    exact⟨n::ns,rfl,rfl⟩
   ·cases hb
theorem convA_ok {P:Program} {G:Nat→Option (List AV)} {C:Ctx} {w:World} (R:Rel G C w) {n:Nat} (hn:C.H.free n) {src dst:TypeId} {x r:AV} {x':Value} {H':AHeap} (hx:VR C x x')
  (h:convA P C.H n src dst x=some (r,H')):∃r' w' C',(convert src dst x').run P w = .ok r' w'∧C'.H=H'∧VR C' r r'∧Rel G C' w'∧Adv C w C' w':=by
 unfold convA at h
 split at h
 case isFalse=>cases h
 rename_i hsrc
 obtain⟨u,hu⟩:=Option.isSome_iff_exists.1 hsrc
 split at h
 ·rename_i k0 v
  cases hx
  split at h
  ·rename_i k hk
   cases h
   exact⟨.int k (k.wrap v),w,C,by simp[convert,run_underlying hu,run_underlying (intT_ok hk),Conv.intToInt],rfl,.int _ _,R,Adv.refl C w⟩
  ·split at h
   case isFalse=>cases h
   rename_i hst
   cases h
   refine⟨.string (Utf8.encode v),w,C,by simp[convert,run_underlying hu,run_underlying (strT_ok hst),Conv.intToString],rfl,?_,R,Adv.refl C w⟩
   exact VR.ofFlat C (.string (Utf8.encode v))
 ·rename_i s
  cases hx
  split at h
  ·rename_i hst
   cases h
   exact⟨.string ⟨s.toArray⟩,w,C,by simp[convert,run_underlying hu,run_underlying (strT_ok hst)],rfl,.str _,R,Adv.refl C w⟩
  ·split at h
   case h_2=>cases h
   rename_i e he
   split at h
   case isFalse=>cases h
   rename_i hu8
   cases h
   have hrun:=run_convert_string_bytes (P:=P) w src dst e ⟨s.toArray⟩ hu (elemT_ok he) (intT_ok hu8)
   obtain⟨R',A'⟩:=R.add n hn (.cells 0 (s.map fun b => .int .u8 b.toNat)) (some (w.heap.size,0)) (w':=bytesWorld w e ⟨s.toArray⟩) (fun c hc=>bytesWorld_at_old w e _ c hc) (by rw[bytesWorld_size];omega) rfl rfl rfl
    (fun c cap h=>by cases h;exact Nat.le_refl _) (fun A=>⟨w.heap.size,0,_,_,_,by simp[Ctx.add],⟨e,bytesWorld_at_new w e _,fun h=>absurd rfl h⟩,fun i x hx=>by
     simp only[List.getElem?_map,Option.map_eq_some_iff]at hx
     obtain⟨b,hb,rfl⟩:=hx
     refine⟨_,?_,.int _ _⟩
     have hi:i<s.length:=(List.getElem?_eq_some_iff.1 hb).1
     rw[List.getElem?_eq_getElem hi]at hb
     cases hb
     simp[bytesCells,Array.getElem?_append,hi],.inr (Nat.le_refl _)⟩)
   have hsl:SlcOk (C.add n (.cells 0 (s.map fun b => .int .u8 b.toNat)) (some (w.heap.size,0))) n s.length (.slice (some ⟨w.heap.size,0,none⟩) s.length (grownCap w s.length 0 e)):=by
    refine⟨by simp only[Ctx.add,AHeap.next_allocAt];omega,by simp[Ctx.add,AHeap.res_allocAt],?_⟩
    simp only[Ctx.add,AHeap.get_allocAt_same,upd_same]
    exact⟨w.heap.size,_,0,rfl,rfl,grownCap_ge w _ _ _⟩
   rw[size_mk]at hrun
   exact⟨_,_,_,hrun,rfl,.slc _ _ _ _ hsl,R',A'⟩
 ·split at h
  case isFalse=>cases h
  rename_i hst
  split at h
  case h_2=>cases h
  rename_i e he
  split at h
  case isFalse=>cases h
  rename_i hu8
  split at h
  case h_2=>cases h
  rename_i m cs hs
  simp only[Option.map_eq_some_iff,Prod.mk.injEq]at h
  obtain⟨s,hs8,rfl,rfl⟩:=h
  obtain⟨news,hv,hl,hsl⟩:=srcCells_ok R hx hs
  obtain⟨ns,rfl,rfl⟩:=bytesOfA_ok hv hs8
  rcases hsl with ⟨rfl,rfl⟩ | ⟨a,c,rfl,hcell⟩
  ·have hn0:ns=[]:=List.eq_nil_of_length_eq_zero (by simpa using hl)
   subst hn0
   exact⟨_,w,C,run_convert_bytes_nil (w:=w) src e (elemT_ok he) (intT_ok hu8) 0 0 dst (strT_ok hst),rfl,.str [],R,Adv.refl C w⟩
  ·have hload:=run_loadCells_list (P:=P) w a (ns.map (Value.int .u8)) hcell
   rw[hl,Nat.mul_one]at hload
   have h2:=run_bytesToString (P:=P) w a m c ns hload
   rw[←run_convert_bytes_string (P:=P) w src dst e (some a) m c (elemT_ok he) (intT_ok hu8) (strT_ok hst),foldl_push_bytes]at h2
   exact⟨_,w,C,by simpa using h2,rfl,.str _,R,Adv.refl C w⟩
/-! Maps whose keys are numbers, strings or bools. -/
def keyEq:AV→AV→Option Bool
 | .int k a,.int k' b=>if k=k' then some (a==b)else none
 | .str a,.str b=>some (a==b)
 | .bool a,.bool b=>some (a==b)
 | _,_=>none
def findA (key:AV):List (AV × AV)→Nat→Option (Option (Nat × AV))
 | [],_=>some none
 | e::es,i=>match keyEq key e.1 with
  | some true=>some (some (i,e.2))
  | some false=>findA key es (i+1)
  | none=>none
def keyT (P:Program) (t:TypeId) (key:AV):Bool:=
 match key with
 | .int k _=>intT P t==some k
 | .str _=>strT P t
 | .bool _=>boolT P t
 | _=>false
theorem mk_beq (a b:List UInt8):((ByteArray.mk a.toArray)==(ByteArray.mk b.toArray))=(a==b):=by
 have h:((ByteArray.mk a.toArray)==(ByteArray.mk b.toArray))=(a.toArray==b.toArray):=rfl
 rw[h,Bool.eq_iff_iff]
 simp
theorem sameNow_ok {P:Program} {C:Ctx} {t:TypeId} {key:AV} {key':Value} (hk:VR C key key') (ht:keyT P t key=true):∃d,P.underlying t=some d ∧
  (∀x y,VR C x y→∀b,keyEq key x=some b→Instr.sameNow d key' y=some b)∧(∀(n:Nat) (b:Bool) (w:World),(Instr.checkKey b (n+1) t key').run P w = .ok () w) ∧
  (∀x y,VR C x y→keyEq key x=some true→∀n,Instr.sameBits (n+1) y key'=true):=by
 unfold keyT at ht
 split at ht
 ·rename_i k a
  have hu:=intT_ok (by simpa using ht:intT P t=some k)
  cases hk
  refine⟨_,hu,fun x y hxy b hb=>?_,fun n b w=>by simp[Instr.checkKey,run_underlying hu],fun x y hxy hb n=>?_⟩
  ·cases hxy<;>simp only[keyEq]at hb<;>first | (cases hb;done) | (split at hb<;>first | (cases hb;done) | (rename_i hkk;cases hb;simp[Instr.sameNow,hkk]))
  ·cases hxy<;>simp only[keyEq]at hb<;>first | (cases hb;done) | (split at hb<;>first | (cases hb;done) | (rename_i hkk;simp only[Option.some.injEq,beq_iff_eq]at hb;simp[Instr.sameBits,hkk,hb]))
 ·rename_i s
  have hu:=strT_ok ht
  cases hk
  refine⟨_,hu,fun x y hxy b hb=>?_,fun n b w=>by simp[Instr.checkKey,run_underlying hu],fun x y hxy hb n=>?_⟩
  ·cases hxy<;>simp only[keyEq]at hb<;>first | (cases hb;done) | (cases hb;simp only[Instr.sameNow];congr 1;exact mk_beq _ _)
  ·cases hxy<;>simp only[keyEq]at hb<;>first | (cases hb;done) | (simp only[Option.some.injEq,beq_iff_eq]at hb;simp[Instr.sameBits,hb,mk_beq])
 ·rename_i s
  have hu:=boolT_ok ht
  cases hk
  refine⟨_,hu,fun x y hxy b hb=>?_,fun n b w=>by simp[Instr.checkKey,run_underlying hu],fun x y hxy hb n=>?_⟩
  ·cases hxy<;>simp only[keyEq]at hb<;>first | (cases hb;done) | (cases hb;rfl)
  ·cases hxy<;>simp only[keyEq]at hb<;>first | (cases hb;done) | (simp only[Option.some.injEq,beq_iff_eq]at hb;simp[Instr.sameBits,hb])
 ·cases ht
def MapVRs (C:Ctx) (es:List (AV × AV)) (es':List MapEntry):Prop:=es.length=es'.length∧∀(i:Nat) (x:AV × AV) (y:MapEntry),es[i]?=some x→es'[i]?=some y→VR C x.1 y.key∧VR C x.2 y.val
theorem findA_ok {C:Ctx} {d:TypeDesc} {key:AV} {key':Value} (hs:∀x y,VR C x y→∀b,keyEq key x=some b→Instr.sameNow d key' y=some b) :
  ∀{es:List (AV × AV)} {es':List MapEntry} {i:Nat} {r:Option (Nat × AV)},MapVRs C es es'→findA key es i=some r →
   ∃r',Instr.findNow d key' es' i=some r'∧(match r,r' with | none,none=>True | some (j,v),some (j',v')=>j=j'∧VR C v v'∧i≤j∧(∃e:AV × AV,es[j-i]?=some e∧keyEq key e.1=some true) | _,_=>False)
 | [],es',i,r,h,hf=>by
  have:es'=[]:=List.eq_nil_of_length_eq_zero (by rw[←h.1];rfl)
  subst this
  cases hf
  exact⟨none,rfl,trivial⟩
 | e::es,es',i,r,h,hf=>by
  cases es' with
  | nil=>have:=h.1;simp at this
  | cons e' es'=>
   obtain⟨h1,h2⟩:=h.2 0 e e' rfl rfl
   have hrest:MapVRs C es es':=⟨by have:=h.1;simpa using this,fun j a b ha hb=>h.2 (j+1) a b (by simpa using ha) (by simpa using hb)⟩
   simp only[findA]at hf
   split at hf
   ·rename_i hk
    cases hf
    refine⟨some (i,e'.val),?_,rfl,h2,Nat.le_refl _,e,by simp,hk⟩
    simp only[Instr.findNow,hs e.1 e'.key h1 true hk]
   ·rename_i hk
    obtain⟨r',h3,h4⟩:=findA_ok hs hrest hf
    refine⟨r',by simp only[Instr.findNow,hs e.1 e'.key h1 false hk];exact h3,?_⟩
    cases r with
    | none=>cases r'<;>first | trivial | exact h4
    | some p=>
     obtain⟨j,v⟩:=p
     cases r' with
     | none=>exact h4
     | some p'=>
      obtain⟨a1,a2,a3,e2,a4,a5⟩:=h4
      refine⟨a1,a2,by omega,e2,?_,a5⟩
      have:j-i=(j-(i+1))+1:=by omega
      rw[this];simpa using a4
   ·cases hf
def entriesA (H:AHeap):AV→Option (List (AV × AV))
 | .nilm=>some []
 | .map k=>match H.get k with
  | some (.map es)=>some es
  | _=>none
 | _=>none
def lookupA (P:Program) (H:AHeap) (t:TypeId) (m key:AV) (ok:Bool):Option AV:=
 match mapT P t with
 | none=>none
 | some (kt,et)=>if keyT P kt key=true then
   match entriesA H m with
   | none=>none
   | some es=>match findA key es 0 with
    | none=>none
    | some (some (_,v))=>some (if ok then .tup [v,.bool true]else v)
    | some none=>(zeroA P et).map fun z=>if ok then .tup [z,.bool false]else z
  else none
theorem entriesA_ok {P:Program} {G:Nat→Option (List AV)} {C:Ctx} {w:World} (R:Rel G C w) {m:AV} {m':Value} {es:List (AV × AV)} (hm:VR C m m') (h:entriesA C.H m=some es) :
  ∃es':Array MapEntry,MapVRs C es es'.toList∧((m' = .map none∧es'=#[])∨∃r cl,m' = .map (some r)∧w.heap[r]?=some (.map es' cl)):=by
 unfold entriesA at h
 split at h
 ·cases h;cases hm
  exact⟨#[],⟨rfl,fun i x y hx=>by simp at hx⟩,.inl ⟨rfl,rfl⟩⟩
 ·rename_i k
  split at h
  case h_2=>cases h
  rename_i es0 hk
  cases h
  cases hm with
  | map _ r hr=>
  obtain⟨_,_,hr⟩:=hr
  simp only[hk]at hr
  obtain⟨cap,hmk⟩:=hr
  obtain⟨c,cap',es',cl,h1,h2,h3,h4⟩:=(R.pres k _ hk).2.2
  rw[hmk]at h1;cases h1
  exact⟨es',⟨by simpa using h3,fun i x y hx hy=>h4 i x y hx (by simpa using hy)⟩,.inr ⟨r,cl,rfl,h2⟩⟩
 ·cases h
theorem lookupA_ok {P:Program} {G:Nat→Option (List AV)} {C:Ctx} {w:World} (R:Rel G C w) {t:TypeId} {m key r:AV} {m' key':Value} {ok:Bool} (hm:VR C m m') (hk:VR C key key')
  (h:lookupA P C.H t m key ok=some r):∃r',(Instr.lookup t m' key' ok).run P w = .ok r' w∧VR C r r':=by
 unfold lookupA at h
 split at h
 ·cases h
 rename_i kt et hmt
 split at h
 case isFalse=>cases h
 rename_i hkt
 split at h
 ·cases h
 rename_i es hes
 obtain⟨es',hv,hw⟩:=entriesA_ok (P:=P) R hm hes
 obtain⟨d,hd,hs,hck,_⟩:=sameNow_ok hk hkt
 have hget:(do match m' with
   | .map none=>pure #[]
   | .map (some r)=>do
    let .map es _ ←getObj r | stuck "Lookup: map expected"
    pure es
   | _=>stuck "Lookup: map expected":Sem (Array MapEntry)).run P w = .ok es' w:=by
  rcases hw with ⟨rfl,rfl⟩ | ⟨r0,cl,rfl,hh⟩
  ·rfl
  ·simp[getObj,Sem.run,hh]
 split at h
 ·cases h
 ·rename_i j v hf
  obtain⟨r1,h1,h2⟩:=findA_ok hs hv hf
  cases r1 with
  | none=>exact h2.elim
  | some p=>
   obtain⟨j',v'⟩:=p
   obtain⟨_,hvv,_⟩:=h2
   have hkey:(Instr.findKey kt key' es'.toList).run P w = .ok (some (j',v')) w:=by simp[Instr.findKey,run_underlying hd,h1]
   cases h
   cases ok with
   | true=>
    refine⟨.tuple #[v',.bool true],?_,tup2 hvv (.bool true)⟩
    rcases hw with ⟨rfl,rfl⟩ | ⟨r0,cl,rfl,hh⟩
    ·simp[Instr.findNow]at h1
    ·simp[Instr.lookup,run_underlying (mapT_ok hmt),getObj,Sem.run,hh,hck 9999,hkey]
   | false=>
    refine⟨v',?_,hvv⟩
    rcases hw with ⟨rfl,rfl⟩ | ⟨r0,cl,rfl,hh⟩
    ·simp[Instr.findNow]at h1
    ·simp[Instr.lookup,run_underlying (mapT_ok hmt),getObj,Sem.run,hh,hck 9999,hkey]
 ·rename_i hf
  obtain⟨r1,h1,h2⟩:=findA_ok hs hv hf
  cases r1 with
  | some p=>exact h2.elim
  | none=>
   have hkey:(Instr.findKey kt key' es'.toList).run P w = .ok none w:=by simp[Instr.findKey,run_underlying hd,h1]
   simp only[Option.map_eq_some_iff]at h
   obtain⟨z,hz,rfl⟩:=h
   obtain⟨i,zv,_,_,rfl,hrun,hvz,_⟩:=zeroA_ok hz C w
   cases ok with
   | true=>
    refine⟨.tuple #[zv,.bool false],?_,tup2 hvz (.bool false)⟩
    rcases hw with ⟨rfl,rfl⟩ | ⟨r0,cl,rfl,hh⟩
    ·simp[Instr.lookup,run_underlying (mapT_ok hmt),hck 9999,hkey,hrun]at hkey ⊢
     try simp[hkey,hrun]
    ·simp[Instr.lookup,run_underlying (mapT_ok hmt),getObj,Sem.run,hh,hck 9999,hkey,hrun]
   | false=>
    refine⟨zv,?_,hvz⟩
    rcases hw with ⟨rfl,rfl⟩ | ⟨r0,cl,rfl,hh⟩
    ·simp[Instr.lookup,run_underlying (mapT_ok hmt),hck 9999,hkey,hrun]at hkey ⊢
     try simp[hkey,hrun]
    ·simp[Instr.lookup,run_underlying (mapT_ok hmt),getObj,Sem.run,hh,hck 9999,hkey,hrun]
end Go.Ab
namespace Go.Ab
open Go Go.Lib
theorem alloc_obj {G:Nat→Option (List AV)} {C:Ctx} {w:World} (R:Rel G C w) {n:Nat} (hn:C.H.free n) (o:AObj) (ob:Obj)
  (ho:∀C':Ctx,C'.μ n=some (w.heap.size,0)→ObjRel C' (w.alloc ob) n o) :
  Rel G (C.add n o (some (w.heap.size,0))) (w.alloc ob)∧Adv C w (C.add n o (some (w.heap.size,0))) (w.alloc ob):=
 R.add n hn o (some (w.heap.size,0)) (fun c hc=>heap_alloc_old w _ c hc) (by simp) rfl rfl rfl (fun c cap h=>by cases h;exact Nat.le_refl _) (fun _=>ho _ (by simp[Ctx.add]))
theorem setObj_get {w:World} {r:Nat} {o o':Obj} (h:w.heap[r]?=some o):({ w with heap:=w.heap.setIfInBounds r o' }:World).heap[r]?=some o':=by
 have:r<w.heap.size:=(Array.getElem?_eq_some_iff.1 h).1
 simp[this]
theorem setObj_ne {w:World} {r b:Nat} {o':Obj} (h:b≠r):({ w with heap:=w.heap.setIfInBounds r o' }:World).heap[b]?=w.heap[b]?:=by
 simp[Array.getElem?_setIfInBounds_ne (Ne.symm h)]
def updateA (P:Program) (H:AHeap) (t:TypeId) (m key x:AV):Option AHeap:=
 match mapT P t,m with
 | some (kt,_),.map k=>if keyT P kt key=true then
   match H.get k with
   | some (.map es)=>match findA key es 0 with
    | none=>none
    | some (some (i,_))=>some (H.set k (.map (es.set i (key,x))))
    | some none=>some (H.set k (.map (es++[(key,x)])))
   | _=>none
  else none
 | _,_=>none
theorem updateA_ok {P:Program} {G:Nat→Option (List AV)} {C:Ctx} {w:World} (R:Rel G C w) {t:TypeId} {m key x:AV} {m' key' x':Value} {H':AHeap} (hm:VR C m m') (hk:VR C key key') (hx:VR C x x')
  (h:updateA P C.H t m key x=some H'):∃w' C',(Instr.mapUpdate t m' key' x').run P w = .ok () w'∧C'.H=H'∧Rel G C' w'∧Adv C w C' w':=by
 unfold updateA at h
 split at h
 case h_2=>cases h
 rename_i kt et k hmt
 split at h
 case isFalse=>cases h
 rename_i hkt
 split at h
 case h_2=>cases h
 rename_i es hes
 cases hm with
 | map _ r hr=>
 obtain⟨_,_,hr⟩:=hr
 simp only[hes]at hr
 obtain⟨cap,hmk⟩:=hr
 obtain⟨c,cap',es',cl,h1,h2,h3,h4⟩:=(R.pres k _ hes).2.2
 rw[hmk]at h1;cases h1
 have hv:MapVRs C es es'.toList:=⟨by simpa using h3,fun i x y hx hy=>h4 i x y hx (by simpa using hy)⟩
 obtain⟨d,hd,hs,hck,hsb⟩:=sameNow_ok hk hkt
 split at h
 ·cases h
 ·rename_i i v hf
  cases h
  obtain⟨r1,q1,q2⟩:=findA_ok hs hv hf
  cases r1 with
  | none=>exact q2.elim
  | some p=>
  obtain⟨j,v'⟩:=p
  obtain⟨rfl,hvv,_,e,he,heq⟩:=q2
  rw[Nat.sub_zero]at he
  have hi:i<es'.size:=by rw[←h3];exact(List.getElem?_eq_some_iff.1 he).1
  have hkey:(Instr.findKey kt key' es'.toList).run P w = .ok (some (i,v')) w:=by simp[Instr.findKey,run_underlying hd,q1]
  have hstay:(Instr.keyThatStays ((es'[i]?.map (·.key)).getD key') key').run P w = .ok key' w:=by
   have hke:=(hv.2 i e es'[i] he (by simp[hi])).1
   simp[Instr.keyThatStays,hi,hsb e.1 es'[i].key hke heq 9999]
  have hrun:(Instr.mapUpdate t (.map (some r)) key' x').run P w = .ok () { w with heap:=w.heap.setIfInBounds r (.map (es'.modify i fun e=>{ e with key:=key',val:=x' }) cl) }:=by
   have hset:∀o,(setObj r o).run P w = .ok () { w with heap:=w.heap.setIfInBounds r o }:=fun o=>by simp[setObj,Sem.run,h2]
   have hgetO:(getObj r).run P w = .ok (.map es' cl) w:=by simp[getObj,Sem.run,h2]
   simp only[Instr.mapUpdate,Sem.run_bind,run_underlying (mapT_ok hmt),Result.andThen_ok,hgetO,hck 9999,hkey,hstay,hset]
  obtain⟨R',A'⟩:=R.put (o' := .map (es.set i (key,x))) (w':={ w with heap:=w.heap.setIfInBounds r (.map (es'.modify i fun e=>{ e with key:=key',val:=x' }) cl) }) hes trivial hmk
   (fun b hb=>setObj_ne hb) (by simp) rfl rfl rfl (fun A=>⟨r,cap,_,cl,hmk,setObj_get h2,by simp[h3],fun j a b ha hb=>by
    rw[List.getElem?_set]at ha
    rw[Array.getElem?_modify]at hb
    by_cases hij:i=j
    ·subst hij
     simp only[if_true,(List.getElem?_eq_some_iff.1 he).1]at ha hb
     cases ha
     simp only[Option.map_eq_some_iff]at hb
     obtain⟨b0,_,rfl⟩:=hb
     exact⟨hk.mono A,hx.mono A⟩
    ·simp only[hij,if_false]at ha hb
     exact⟨(h4 j a b ha hb).1.mono A,(h4 j a b ha hb).2.mono A⟩⟩)
  exact⟨_,_,hrun,rfl,R',A'⟩
 ·rename_i hf
  cases h
  obtain⟨r1,q1,q2⟩:=findA_ok hs hv hf
  cases r1 with
  | some p=>exact q2.elim
  | none=>
  have hkey:(Instr.findKey kt key' es'.toList).run P w = .ok none w:=by simp[Instr.findKey,run_underlying hd,q1]
  have hrun:(Instr.mapUpdate t (.map (some r)) key' x').run P w = .ok () { w with heap:=w.heap.setIfInBounds r (.map (es'.push { key:=key',val:=x',born:=cl }) (cl+1)) }:=by
   have hset:∀o,(setObj r o).run P w = .ok () { w with heap:=w.heap.setIfInBounds r o }:=fun o=>by simp[setObj,Sem.run,h2]
   have hgetO:(getObj r).run P w = .ok (.map es' cl) w:=by simp[getObj,Sem.run,h2]
   simp only[Instr.mapUpdate,Sem.run_bind,run_underlying (mapT_ok hmt),Result.andThen_ok,hgetO,hck 9999,hkey,hset]
  obtain⟨R',A'⟩:=R.put (o' := .map (es++[(key,x)])) (w':={ w with heap:=w.heap.setIfInBounds r (.map (es'.push { key:=key',val:=x',born:=cl }) (cl+1)) }) hes trivial hmk
   (fun b hb=>setObj_ne hb) (by simp) rfl rfl rfl (fun A=>⟨r,cap,_,cl+1,hmk,setObj_get h2,by simp[h3],fun j a b ha hb=>by
    by_cases hj:j<es.length
    ·rw[List.getElem?_append_left hj]at ha
     rw[Array.getElem?_push_lt (by omega)]at hb
     have hb2:es'[j]?=some b:=by rw[Array.getElem?_eq_getElem (by omega)];exact hb
     exact⟨(h4 j a b ha hb2).1.mono A,(h4 j a b ha hb2).2.mono A⟩
    ·have hj2:j=es.length:=by
      have:=(List.getElem?_eq_some_iff.1 ha).1
      simp at this;omega
     subst hj2
     simp at ha
     rw[h3,Array.getElem?_push_size]at hb
     cases ha;cases hb
     exact⟨hk.mono A,hx.mono A⟩⟩)
  exact⟨_,_,hrun,rfl,R',A'⟩
def nextA (H:AHeap) (it:AV):Option (AV × AHeap):=
 match it with
 | .ptr k 0=>match H.get k with
  | some (.iter s pos)=>if pos<s.length then some (.tup [.bool true,.int .i64 pos,.int .i32 (Utf8.decode ⟨s.toArray⟩ pos).1],H.set k (.iter s (pos+(Utf8.decode ⟨s.toArray⟩ pos).2)))else some (.tup [.bool false],H)
  | _=>none
 | _=>none
theorem tup3 {C:Ctx} {a b c:AV} {x y z:Value} (h1:VR C a x) (h2:VR C b y) (h3:VR C c z):VR C (.tup [a,b,c]) (.tuple #[x,y,z]):=by
 refine .tup _ _ rfl (fun i u v hu hv=>?_)
 match i with
 | 0=>simp at hu hv;subst hu;subst hv;exact h1
 | 1=>simp at hu hv;subst hu;subst hv;exact h2
 | 2=>simp at hu hv;subst hu;subst hv;exact h3
 | n+3=>simp at hu
theorem tup1 {C:Ctx} {a:AV} {x:Value} (h1:VR C a x):VR C (.tup [a]) (.tuple #[x]):=by
 refine .tup _ _ rfl (fun i u v hu hv=>?_)
 match i with
 | 0=>simp at hu hv;subst hu;subst hv;exact h1
 | n+1=>simp at hu
theorem nextA_ok {P:Program} {G:Nat→Option (List AV)} {C:Ctx} {w:World} (R:Rel G C w) {it r:AV} {it':Value} {H':AHeap} (ty:TypeId) (hi:VR C it it') (h:nextA C.H it=some (r,H')) :
  ∃r' w' C',(Instr.next it' true ty).run P w = .ok r' w'∧C'.H=H'∧VR C' r r'∧Rel G C' w'∧Adv C w C' w':=by
 unfold nextA at h
 split at h
 case h_2=>cases h
 rename_i k
 split at h
 case h_2=>cases h
 rename_i s pos hk
 cases hi with
 | ptr _ _ a ha=>
 obtain⟨_,_,ha⟩:=ha
 simp only[hk]at ha
 obtain⟨c,cap,hm,rfl⟩:=ha
 obtain⟨c',cap',h1,h2⟩:=(R.pres k _ hk).2.2
 rw[hm]at h1;cases h1
 have hgetO:(getObj c).run P w = .ok (.stringIter ⟨s.toArray⟩ pos) w:=by simp[getObj,Sem.run,h2]
 split at h
 ·rename_i hp
  cases h
  have hset:∀o,(setObj c o).run P w = .ok () { w with heap:=w.heap.setIfInBounds c o }:=fun o=>by simp[setObj,Sem.run,h2]
  obtain⟨R',A'⟩:=R.put (o' := .iter s (pos+(Utf8.decode ⟨s.toArray⟩ pos).2)) (w':={ w with heap:=w.heap.setIfInBounds c (.stringIter ⟨s.toArray⟩ (pos+(Utf8.decode ⟨s.toArray⟩ pos).2)) }) hk trivial hm
   (fun b hb=>setObj_ne hb) (by simp) rfl rfl rfl (fun _=>⟨c,cap,hm,setObj_get h2⟩)
  refine⟨_,_,_,?_,rfl,tup3 (.bool true) (.int _ _) (.int _ _),R',A'⟩
  simp only[Instr.next,Sem.run_bind,hgetO,Result.andThen_ok,size_mk,hp,if_true,hset,Sem.run_pure,goInt]
 ·rename_i hp
  cases h
  refine⟨_,w,C,?_,rfl,tup1 (.bool false),R,Adv.refl C w⟩
  simp only[Instr.next,Sem.run_bind,hgetO,Result.andThen_ok,size_mk,hp,if_false,Sem.run_pure]
def minA:AV→AV→Option AV
 | .int k x,.int k' y=>if k=k' then some (.int k (if y<x then y else x))else none
 | _,_=>none
def builtinA (P:Program) (H:AHeap) (n:Nat) (b:Builtin) (ts:List TypeId) (args:List AV):Option (AV × AHeap):=
 match b,ts,args with
 | .len,[t],[x]=>(lenA P H t x).map (·,H)
 | .append,[t0,t1],[s,x]=>appendA P H n t0 t1 s x
 | .min,_,[x,y]=>(minA x y).map (·,H)
 | _,_,_=>none
def opA (P:Program) (G:Nat→Option (List AV)) (H:AHeap) (n:Nat) (a:List AV) (o:Op):Option (AV × AHeap):=
 match o with
 | .move x=>some (ev a x,H)
 | .assign x=>some (ev a x,H)
 | .pick c x y=>match ev a c with
  | .bool b=>some (bif b then ev a x else ev a y,H)
  | _=>none
 | .alloc e=>(zeroA P e).map fun z=>(.ptr n 0,H.allocAt n (.cells e z.cellsOf))
 | .box e x=>if(ev a x).boxable=true then some (.ptr n 0,H.allocAt n (.cells e (ev a x).cellsOf))else none
 | .build t parts=>(buildA P t (parts.toList.map fun p=>(p.1,ev a p.2))).map (·,H)
 | .buildSlice t len parts=>sliceLit P H n t len (parts.toList.map fun p=>(p.1,ev a p.2))
 | .load t x=>(loadA P G H t (ev a x)).map (·,H)
 | .store t p x=>(storeA P H t (ev a p) (ev a x)).map (AV.und,·)
 | .nilCheck x=>(nilCheckA (ev a x)).map (·,H)
 | .binOp op t x y _=>(binA P H op t x y (ev a x) (ev a y)).map (·,H)
 | .unOp op _ x=>(unA op (ev a x)).map (·,H)
 | .convert src dst x=>convA P H n src dst (ev a x)
 | .makeInterface t x=>(ifaceA P t (ev a x)).map (·,H)
 | .makeFunc (.func f) first caps=>if first.size=0 then some (.func f (caps.toList.map (ev a)),H)else none
 | .makeMap _ none=>some (.map n,H.allocAt n (.map []))
 | .makeSlice t l c=>makeA P H n t (ev a l) (ev a c)
 | .slice t x lo hi mx=>(sliceA P H t (ev a x) (lo.map (ev a)) (hi.map (ev a)) (mx.map (ev a))).map (·,H)
 | .fieldAddr s x f=>(fieldA P s (ev a x) f).map (·,H)
 | .field t x f=>(fieldVA P t (ev a x) f).map (·,H)
 | .indexAddr t x i=>(indexAddrA P H t (ev a x) (ev a i)).map (·,H)
 | .index t x i=>(indexA P t (ev a x) (ev a i)).map (·,H)
 | .lookup t m k ok=>(lookupA P H t (ev a m) (ev a k) ok).map (·,H)
 | .mapUpdate t m k x=>(updateA P H t (ev a m) (ev a k) (ev a x)).map (AV.und,·)
 | .insert t m k x=>(updateA P H t (ev a m) (ev a k) (ev a x)).map (AV.und,·)
 | .range t x=>match ev a x with
  | .str s=>if strT P t=true then some (.ptr n 0,H.allocAt n (.iter s 0))else none
  | _=>none
 | .next it true=>nextA H (ev a it)
 | .typeAssert x _ as ok=>(assertA P (ev a x) as ok).map (·,H)
 | .extract x i=>(extractA (ev a x) i).map (·,H)
 | .call { callee := .builtin b,args,argTypes }=>builtinA P H n b argTypes.toList (args.toList.map (ev a))
 | _=>none
theorem ev_list {C:Ctx} {a:List AV} {ac:Act} (h:ActRel C a ac) (xs:Array Operand):VRs C (xs.toList.map (ev a)) (xs.map ac.eval).toList:=by
 refine⟨by simp,fun i x y hx hy=>?_⟩
 simp only[Array.toList_map,List.getElem?_map,Option.map_eq_some_iff]at hx hy
 obtain⟨o,ho,rfl⟩:=hx
 obtain⟨o',ho',rfl⟩:=hy
 rw[ho]at ho'
 cases ho'
 exact ev_ok h o
theorem ev_parts {C:Ctx} {a:List AV} {ac:Act} (h:ActRel C a ac) (parts:Array (Nat × Operand)) :
  (parts.toList.map fun p=>(p.1,ev a p.2)).length=(parts.map fun(i,x)=>(i,ac.eval x)).size ∧
  ∀(i:Nat) (x:Nat × AV) (y:Nat × Value),(parts.toList.map fun p=>(p.1,ev a p.2))[i]?=some x→(parts.map fun(i,x)=>(i,ac.eval x))[i]?=some y→x.1=y.1∧VR C x.2 y.2:=by
 refine⟨by simp,fun i x y hx hy=>?_⟩
 simp only[List.getElem?_map,Array.getElem?_map,Option.map_eq_some_iff]at hx hy
 obtain⟨o,ho,rfl⟩:=hx
 obtain⟨o',ho',rfl⟩:=hy
 rw[Array.getElem?_toList,ho']at ho
 cases ho
 exact⟨rfl,ev_ok h _⟩
theorem ev_opt {C:Ctx} {a:List AV} {ac:Act} (h:ActRel C a ac) (x:Option Operand):OVR C (x.map (ev a)) (x.map ac.eval):=by
 cases x with
 | none=>trivial
 | some x=>exact ev_ok h x
def Yields (P:Program) (G:Nat→Option (List AV)) (C:Ctx) (w:World) (v:AV) (H':AHeap) (s:Sem Next):Prop:=
 ∃r w' C',(s.run P w = .ok (.value r) w'∨(s.run P w = .ok .skip w'∧r=undef))∧C'.H=H'∧VR C' v r∧Rel G C' w'∧Adv C w C' w'
theorem yields_same {P:Program} {G:Nat→Option (List AV)} {C:Ctx} {w:World} (R:Rel G C w) {v:AV} {r:Value} {s:Sem Value} (h:s.run P w = .ok r w) (hv:VR C v r) :
  Yields P G C w v C.H (do pure (.value (←s))):=
 ⟨r,w,C,.inl (by simp only[Sem.run_bind,h,Result.andThen_ok];rfl),rfl,hv,R,Adv.refl C w⟩
theorem yields_new {P:Program} {G:Nat→Option (List AV)} {C:Ctx} {w:World} {v:AV} {H':AHeap} {s:Sem Value} (h:∃r w' C',s.run P w = .ok r w'∧C'.H=H'∧VR C' v r∧Rel G C' w'∧Adv C w C' w') :
  Yields P G C w v H' (do pure (.value (←s))):=by
 obtain⟨r,w',C',h1,h2,h3,h4,h5⟩:=h
 exact⟨r,w',C',.inl (by simp only[Sem.run_bind,h1,Result.andThen_ok];rfl),h2,h3,h4,h5⟩
theorem yields_unit {P:Program} {G:Nat→Option (List AV)} {C:Ctx} {w:World} {H':AHeap} {s:Sem Unit} (h:∃w' C',s.run P w = .ok () w'∧C'.H=H'∧Rel G C' w'∧Adv C w C' w') :
  Yields P G C w .und H' (do s;pure .skip):=by
 obtain⟨w',C',h1,h2,h4,h5⟩:=h
 exact⟨undef,w',C',.inr ⟨by simp only[Sem.run_bind,h1,Result.andThen_ok];rfl,rfl⟩,h2,.und _,h4,h5⟩
theorem opA_ok {P:Program} {G:Nat→Option (List AV)} {C:Ctx} {w:World} (R:Rel G C w) {a:List AV} {ac:Act} (ha:ActRel C a ac) {n:Nat} (hn:C.H.free n) {o:Oper} {v:AV} {H':AHeap}
  (h:opA P G C.H n a o.op=some (v,H')):Yields P G C w v H' (execOp ac.eval o):=by
 unfold opA at h
 unfold execOp
 split at h
 ·rename_i x heq
  simp only[heq]
  cases h
  exact⟨_,w,C,.inl rfl,rfl,ev_ok ha x,R,Adv.refl C w⟩
 ·rename_i x heq
  simp only[heq]
  cases h
  exact⟨_,w,C,.inl rfl,rfl,ev_ok ha x,R,Adv.refl C w⟩
 ·rename_i c x y heq
  simp only[heq]
  split at h
  case h_2=>cases h
  rename_i b hb
  cases h
  have hc:=ev_ok ha c
  rw[hb]at hc
  refine⟨if b then ac.eval x else ac.eval y,w,C,.inl ?_,rfl,?_,R,Adv.refl C w⟩
  ·generalize ac.eval c=cv at hc
   cases hc
   simp only[asBool,Sem.run_bind,Sem.run_pure,Result.andThen_ok]
  ·cases b
   ·exact ev_ok ha y
   ·exact ev_ok ha x
 ·rename_i e heq
  simp only[heq]
  simp only[Option.map_eq_some_iff,Prod.mk.injEq]at h
  obtain⟨z,hz,rfl,rfl⟩:=h
  obtain⟨i,zv,_,_,rfl,hrun,hvz,hzc⟩:=zeroA_ok hz C w
  obtain⟨y,w',C',h1,h2,h3,h4,h5⟩:=alloc_var (P:=P) R hn e hzc
  refine yields_new ⟨y,w',C',?_,h2,h3,h4,h5⟩
  simp only[Instr.alloc,Sem.run_bind,hrun,Result.andThen_ok]
  simpa using h1
 ·rename_i e x heq
  simp only[heq]
  split at h
  case isFalse=>cases h
  rename_i hb
  cases h
  obtain⟨y,w',C',h1,h2,h3,h4,h5⟩:=alloc_var (P:=P) R hn e ((ev_ok ha x).cells hb)
  exact yields_new ⟨y,w',C',h1,h2,h3,h4,h5⟩
 ·rename_i t parts heq
  simp only[heq]
  simp only[Option.map_eq_some_iff,Prod.mk.injEq]at h
  obtain⟨z,hz,rfl,rfl⟩:=h
  obtain⟨hl,hv⟩:=ev_parts ha parts
  obtain⟨y,h1,h2⟩:=buildA_ok (P:=P) (w:=w) hl hv hz
  exact yields_same R h1 h2
 ·rename_i t len parts heq
  simp only[heq]
  obtain⟨hl,hv⟩:=ev_parts ha parts
  exact yields_new (sliceLit_ok R hn hl hv h)
 ·rename_i t x heq
  simp only[heq]
  simp only[Option.map_eq_some_iff,Prod.mk.injEq]at h
  obtain⟨z,hz,rfl,rfl⟩:=h
  obtain⟨y,h1,h2⟩:=loadA_ok (P:=P) R (ev_ok ha x) hz
  exact yields_same R h1 h2
 ·rename_i t p x heq
  simp only[heq]
  simp only[Option.map_eq_some_iff,Prod.mk.injEq]at h
  obtain⟨z,hz,rfl,rfl⟩:=h
  exact yields_unit (storeA_ok R (ev_ok ha p) (ev_ok ha x) hz)
 ·rename_i x heq
  simp only[heq]
  simp only[Option.map_eq_some_iff,Prod.mk.injEq]at h
  obtain⟨z,hz,rfl,rfl⟩:=h
  have hx:=ev_ok ha x
  unfold nilCheckA at hz
  split at hz
  ·rename_i he;rw[he]at hx;cases hz;generalize ac.eval x=xv at hx;cases hx;exact⟨_,w,C,.inl rfl,rfl,by rw[he];constructor;assumption,R,Adv.refl C w⟩
  ·rename_i he;rw[he]at hx;cases hz;generalize ac.eval x=xv at hx;cases hx;exact⟨_,w,C,.inl rfl,rfl,by rw[he];constructor,R,Adv.refl C w⟩
  ·rename_i he;rw[he]at hx;cases hz;generalize ac.eval x=xv at hx;rw[he];cases hx with | lptr _ _ c base arr f hI h1 h2=>exact⟨_,w,C,.inl rfl,rfl,.lptr _ _ c base arr f hI h1 h2,R,Adv.refl C w⟩
  ·rename_i he;rw[he]at hx;cases hz;generalize ac.eval x=xv at hx;rw[he];cases hx with | func _ _ vs hl h=>exact⟨_,w,C,.inl rfl,rfl,.func _ _ vs hl h,R,Adv.refl C w⟩
  ·cases hz
 ·rename_i op t x y yt heq
  simp only[heq]
  simp only[Option.map_eq_some_iff,Prod.mk.injEq]at h
  obtain⟨z,hz,rfl,rfl⟩:=h
  obtain⟨r,h1,h2⟩:=binA_ok (P:=P) (w:=w) (ev_ok ha x) (ev_ok ha y) hz
  exact yields_same R h1 h2
 ·rename_i op t x heq
  simp only[heq]
  simp only[Option.map_eq_some_iff,Prod.mk.injEq]at h
  obtain⟨z,hz,rfl,rfl⟩:=h
  obtain⟨r,h1,h2⟩:=unA_ok (P:=P) (w:=w) (ev_ok ha x) hz
  exact yields_same R h1 h2
 ·rename_i src dst x heq
  simp only[heq]
  exact yields_new (convA_ok R hn (ev_ok ha x) h)
 ·rename_i t x heq
  simp only[heq]
  simp only[Option.map_eq_some_iff,Prod.mk.injEq]at h
  obtain⟨z,hz,rfl,rfl⟩:=h
  obtain⟨r,h1,h2⟩:=ifaceA_ok (P:=P) (w:=w) (ev_ok ha x) hz
  exact yields_same R h1 h2
 ·rename_i f first caps heq
  simp only[heq]
  split at h
  case isFalse=>cases h
  rename_i hf
  cases h
  have hf0:first=#[]:=Array.eq_empty_of_size_eq_zero hf
  subst hf0
  refine⟨.func (.func f) #[] (caps.map ac.eval),w,C,.inl (by simp[Instr.makeFunc]),rfl,?_,R,Adv.refl C w⟩
  have:=ev_list ha caps
  exact .func f _ _ (by simpa using this.1) (fun i x y hx hy=>this.2 i x y hx (by rw[Array.getElem?_toList];exact hy))
 ·rename_i t heq
  simp only[heq]
  cases h
  obtain⟨R',A'⟩:=alloc_obj R hn (.map []) (.map #[] 0) (fun C' hC'=>⟨w.heap.size,0,#[],0,hC',heap_alloc_new w _,rfl,fun i x y hx=>by simp at hx⟩)
  refine yields_new ⟨.map (some w.heap.size),_,_,by simp[Instr.makeMap],rfl,.map n _ ⟨by simp only[Ctx.add,AHeap.next_allocAt];omega,by simp[Ctx.add,AHeap.res_allocAt],?_⟩,R',A'⟩
  simp only[Ctx.add,AHeap.get_allocAt_same,upd_same]
  exact⟨0,rfl⟩
 ·rename_i t l c heq
  simp only[heq]
  exact yields_new (makeA_ok R hn (ev_ok ha l) (ev_ok ha c) h)
 ·rename_i t x lo hi mx heq
  simp only[heq]
  simp only[Option.map_eq_some_iff,Prod.mk.injEq]at h
  obtain⟨z,hz,rfl,rfl⟩:=h
  obtain⟨r,h1,h2⟩:=sliceA_ok (P:=P) R (ev_ok ha x) (ev_opt ha lo) (ev_opt ha hi) (ev_opt ha mx) hz
  exact yields_same R h1 h2
 ·rename_i s x f heq
  simp only[heq]
  simp only[Option.map_eq_some_iff,Prod.mk.injEq]at h
  obtain⟨z,hz,rfl,rfl⟩:=h
  obtain⟨r,h1,h2⟩:=fieldA_ok (P:=P) (w:=w) (ev_ok ha x) hz
  exact yields_same R h1 h2
 ·rename_i t x f heq
  simp only[heq]
  simp only[Option.map_eq_some_iff,Prod.mk.injEq]at h
  obtain⟨z,hz,rfl,rfl⟩:=h
  obtain⟨r,h1,h2⟩:=fieldVA_ok (P:=P) (w:=w) (ev_ok ha x) hz
  exact yields_same R h1 h2
 ·rename_i t x i heq
  simp only[heq]
  simp only[Option.map_eq_some_iff,Prod.mk.injEq]at h
  obtain⟨z,hz,rfl,rfl⟩:=h
  obtain⟨r,h1,h2⟩:=indexAddrA_ok (P:=P) R (ev_ok ha x) (ev_ok ha i) hz
  exact yields_same R h1 h2
 ·rename_i t x i heq
  simp only[heq]
  simp only[Option.map_eq_some_iff,Prod.mk.injEq]at h
  obtain⟨z,hz,rfl,rfl⟩:=h
  obtain⟨r,h1,h2⟩:=indexA_ok (P:=P) (w:=w) (ev_ok ha x) (ev_ok ha i) hz
  exact yields_same R h1 h2
 ·rename_i t m k ok heq
  simp only[heq]
  simp only[Option.map_eq_some_iff,Prod.mk.injEq]at h
  obtain⟨z,hz,rfl,rfl⟩:=h
  obtain⟨r,h1,h2⟩:=lookupA_ok (P:=P) R (ev_ok ha m) (ev_ok ha k) hz
  exact yields_same R h1 h2
 ·rename_i t m k x heq
  simp only[heq]
  simp only[Option.map_eq_some_iff,Prod.mk.injEq]at h
  obtain⟨z,hz,rfl,rfl⟩:=h
  exact yields_unit (updateA_ok R (ev_ok ha m) (ev_ok ha k) (ev_ok ha x) hz)
 ·rename_i t m k x heq
  simp only[heq]
  simp only[Option.map_eq_some_iff,Prod.mk.injEq]at h
  obtain⟨z,hz,rfl,rfl⟩:=h
  exact yields_unit (updateA_ok R (ev_ok ha m) (ev_ok ha k) (ev_ok ha x) hz)
 ·rename_i t x heq
  simp only[heq]
  split at h
  case h_2=>cases h
  rename_i s hs
  split at h
  case isFalse=>cases h
  rename_i hst
  cases h
  have hx:=ev_ok ha x
  rw[hs]at hx
  generalize ac.eval x=xv at hx
  cases hx
  obtain⟨R',A'⟩:=alloc_obj R hn (.iter s 0) (.stringIter ⟨s.toArray⟩ 0) (fun C' hC'=>⟨w.heap.size,0,hC',heap_alloc_new w _⟩)
  refine yields_new ⟨_,_,_,by simp[Instr.range,run_underlying (strT_ok hst)],rfl,.ptr n 0 ⟨w.heap.size,0,none⟩ (PtrOk.new (by simp)),R',A'⟩
 ·rename_i it heq
  simp only[heq]
  exact yields_new (nextA_ok R o.type (ev_ok ha it) h)
 ·rename_i x xt as ok heq
  simp only[heq]
  simp only[Option.map_eq_some_iff,Prod.mk.injEq]at h
  obtain⟨z,hz,rfl,rfl⟩:=h
  obtain⟨r,h1,h2⟩:=assertA_ok (P:=P) (w:=w) (xt:=xt) (ev_ok ha x) hz
  exact yields_same R h1 h2
 ·rename_i x i heq
  simp only[heq]
  simp only[Option.map_eq_some_iff,Prod.mk.injEq]at h
  obtain⟨z,hz,rfl,rfl⟩:=h
  obtain⟨r,h1,h2⟩:=extractA_ok (P:=P) (w:=w) (ev_ok ha x) hz
  exact yields_same R h1 h2
 ·rename_i b args argTypes heq
  simp only[heq]
  have hargs:=ev_list ha args
  have hres:∀q:Sem Next,(∀d:Deferred,d={ target := .builtin b argTypes o.type (args.map fun | .const _=>true | _=>false),args:=args.map ac.eval }→Yields P G C w v H' (invoke d.target d.args)) →
    Yields P G C w v H' (do let d ←resolve ac.eval { callee := .builtin b,args,argTypes } o.type;invoke d.target d.args):=by
   intro _ hq
   exact hq _ rfl
  refine hres (.pure .skip) (fun d hd=>?_)
  subst hd
  simp only[invoke]
  unfold builtinA at h
  split at h
  ·rename_i t x ht hx
   have ht':argTypes=#[t]:=by rw[←Array.toArray_toList (xs:=argTypes),ht]
   have hx':∃x',args.map ac.eval=#[x']∧VR C x x':=by
    rw[hx]at hargs
    obtain⟨l1,l2⟩:=hargs
    match hq:(args.map ac.eval).toList with
    | [x']=>exact⟨x',by rw[←Array.toArray_toList (xs:=args.map ac.eval),hq],l2 0 x x' rfl (by rw[hq];rfl)⟩
    | []=>rw[hq]at l1;simp at l1
    | _::_::_=>rw[hq]at l1;simp at l1
   obtain⟨x',hx',hv⟩:=hx'
   rw[ht',hx']
   simp only[Option.map_eq_some_iff,Prod.mk.injEq]at h
   obtain⟨z,hz,rfl,rfl⟩:=h
   obtain⟨r,h1,h2⟩:=lenA_ok (P:=P) (ty:=o.type) R hv hz
   exact yields_same R h1 h2
  ·rename_i t0 t1 s x ht hx
   have ht':argTypes=#[t0,t1]:=by rw[←Array.toArray_toList (xs:=argTypes),ht]
   have hx':∃s' x',args.map ac.eval=#[s',x']∧VR C s s'∧VR C x x':=by
    rw[hx]at hargs
    obtain⟨l1,l2⟩:=hargs
    match hq:(args.map ac.eval).toList with
    | [s',x']=>exact⟨s',x',by rw[←Array.toArray_toList (xs:=args.map ac.eval),hq],l2 0 s s' rfl (by rw[hq];rfl),l2 1 x x' rfl (by rw[hq];rfl)⟩
    | []=>rw[hq]at l1;simp at l1
    | [_]=>rw[hq]at l1;simp at l1
    | _::_::_::_=>rw[hq]at l1;simp at l1
   obtain⟨s',x',hx',hvs,hvx⟩:=hx'
   rw[ht',hx']
   exact yields_new (appendA_ok R hn hvs hvx h)
  ·rename_i ts x y hx
   have hx':∃s' x',args.map ac.eval=#[s',x']∧VR C x s'∧VR C y x':=by
    rw[hx]at hargs
    obtain⟨l1,l2⟩:=hargs
    match hq:(args.map ac.eval).toList with
    | [s',x']=>exact⟨s',x',by rw[←Array.toArray_toList (xs:=args.map ac.eval),hq],l2 0 x s' rfl (by rw[hq];rfl),l2 1 y x' rfl (by rw[hq];rfl)⟩
    | []=>rw[hq]at l1;simp at l1
    | [_]=>rw[hq]at l1;simp at l1
    | _::_::_::_=>rw[hq]at l1;simp at l1
   obtain⟨s',x',hx',hvs,hvx⟩:=hx'
   rw[hx']
   simp only[Option.map_eq_some_iff,Prod.mk.injEq]at h
   obtain⟨z,hz,rfl,rfl⟩:=h
   unfold minA at hz
   split at hz
   case h_2=>cases hz
   split at hz
   case isFalse=>cases hz
   rename_i hk
   cases hz
   cases hvs;cases hvx
   exact yields_same (s:=Builtin.min_ argTypes o.type #[_,_]) R (by simp[Builtin.min_,Builtin.min2]) (.int _ _)
  ·cases h
 ·cases h
end Go.Ab
