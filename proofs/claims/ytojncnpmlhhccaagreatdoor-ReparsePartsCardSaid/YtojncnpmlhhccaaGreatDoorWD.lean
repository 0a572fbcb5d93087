/- Attributes, walked. Start tags, walked. The places of characters, walked. Text, walked. Rows of text and character data, walked. Tags, comments and instructions, walked. Events, walked. What holds between events; the places, once more. What takes up the reader's panics, walked. Next, walked. New and Where, walked. All, walked. Line ends: what New makes of them, and that texts with other line ends are read alike. Steps through a text that is known. -/
import Derived.Test.YtojncnpmlhhccaaGreatDoorWC
import Derived.Lib.Replace
import Derived.Lib.CountLaws
import Derived.Lib.TrimUEq
import Derived.Lib.Repeat
import Derived.KernelRfl
set_option linter.all false
namespace Go.Ab
open Go Go.Lib Go.Proofs
end Go.Ab
namespace Go.Ab
open Go Go.Lib Go.Proofs
theorem Weak.nilField (G:Nat→Option (List AV)) {H:AHeap} {k:Nat} {e:TypeId} {cs:List AV} (cs':List AV) (hk:H.get k=some (.cells e cs)) (hkn:k<H.next) (re:TypeId) (size:Nat) (hcs:Tzs 0 (fun _=>none) (some (.slc H.next 0)) cs cs') :
  ∃H',(∀a,Weak G a H a H')∧H'.get k=some (.cells e cs')∧H'.get H.next=some (.row re size [])∧H'.next=H.next+1∧∀j,j≠k→j≠H.next→H'.get j=H.get j:=by
 refine⟨⟨H.next+1,fun j=>if j=H.next then some (.row re size [])else if j=k then some (.cells e cs')else H.get j⟩,fun a=>Weak.nilRow H.next re size (Nat.le_refl _) (Nat.lt_succ_self _) (by simp) ?_ (Tzs.refl a),?_,by simp,rfl,?_⟩
 ·intro j
  by_cases h1:j=H.next
  ·exact .inl h1
  ·by_cases h2:j=k
   ·subst h2
    exact .inr (.inr ⟨_,.cells e cs',hk,by simp[h1],.cells _ _ _ hcs⟩)
   ·cases hg:H.get j with
    | none=>exact .inr (.inl (by simp[h1,h2,hg]))
    | some o=>exact .inr (.inr ⟨o,o,rfl,by simp[h1,h2,hg],.same o⟩)
 ·have:k≠H.next:=by omega
  simp[this]
 ·intro j h1 h2
  simp[h1,h2]
theorem Weak.freezeVal (G:Nat→Option (List AV)) {H:AHeap} {j:Nat} {e:TypeId} {size:Nat} {cs:List AV} (hj:H.get j=some (.row e size cs)) (hsz:0<size) {v v':AV} (hv:Tz j (fun len=>some (.lst len cs)) none v v') :
  Weak G [v] H [v'] (H.del j):=
 Weak.freeze hj hsz (Nat.le_refl _) (by simp[AHeap.get_del]) (fun i=>by
  by_cases h:i=j
  ·exact .inr (.inl (by simp[AHeap.get_del,h]))
  ·cases hg:H.get i with
   | none=>exact .inr (.inl (by simp[AHeap.get_del,h,hg]))
   | some o=>exact .inr (.inr ⟨o,o,rfl,by simp[AHeap.get_del,h,hg],.same o⟩)) ⟨hv,trivial⟩
theorem AHeap.set_set (H:AHeap) (k:Nat) (o o':AObj):(H.set k o).set k o'=H.set k o':=by
 unfold AHeap.set
 congr 1
 funext j
 by_cases h:j=k<;>simp[h]
def attrsA (l:List (List UInt8 × List UInt8)):List AV:=l.flatMap fun a=>[.str a.1,.str a.2]
theorem attrsA_len:∀(l:List (List UInt8 × List UInt8)),(attrsA l).length=l.length*2
 | []=>rfl
 | a::l=>by
  have:=attrsA_len l
  simp only[attrsA,List.flatMap_cons,List.length_append,List.length_cons,List.length_nil]at this ⊢
  omega
theorem attrsA_app (l m:List (List UInt8 × List UInt8)):attrsA (l++m)=attrsA l++attrsA m:=by simp[attrsA]
def tagA (x:Option Tag):AV:=
 match x with
 | some t => .tup [.agg [.str t.name,.lst t.attrs.length (attrsA t.attrs),.bool t.empty,.int .i64 t.next],.bool true]
 | none => .tup [.agg [.str [],.lst 0 [],.bool false,.int .i64 0],.bool false]
end Go.Ab
namespace Go.Ab
open Go Go.Lib Go.Proofs
def posA (x:Pos):AV := .agg [.int .i64 x.1,.int .i64 x.2.1,.int .i64 x.2.2]
theorem step1_fst (s:List UInt8) (x:Pos):(step1 s x).1=x.1+(dec (s.drop x.1)).2:=by
 simp only[step1];split<;>rfl
theorem findF_stable {s:List UInt8} {at_:Nat} (hat:at_≤s.length):∀(f:Nat) (x:Pos),at_-x.1≤f→findF s at_ f x=findF s at_ (at_-x.1) x
 | 0,x,h=>by rw[show at_-x.1=0 by omega]
 | f+1,x,h=>by
  by_cases hx:x.1<at_
  ·have h1:1≤(dec (s.drop x.1)).2:=dec_pos (drop_ne (by omega))
   obtain⟨g,hg⟩:∃g,at_-x.1=g+1:=⟨at_-x.1-1,by omega⟩
   rw[hg]
   simp only[findF,if_pos hx]
   rw[findF_stable hat f _ (by rw[step1_fst];omega),findF_stable hat g _ (by rw[step1_fst];omega)]
  ·rw[show at_-x.1=0 by omega]
   simp only[findF,if_neg hx]
theorem findS_step {s:List UInt8} {at_:Nat} (hat:at_≤s.length) {x:Pos} (hx:x.1<at_):findS s at_ x=findS s at_ (step1 s x):=by
 have h1:1≤(dec (s.drop x.1)).2:=dec_pos (drop_ne (by omega))
 unfold findS
 obtain⟨g,hg⟩:∃g,at_-x.1=g+1:=⟨at_-x.1-1,by omega⟩
 rw[hg]
 simp only[findF,if_pos hx]
 rw[findF_stable hat g _ (by rw[step1_fst];omega)]
theorem findS_end {s:List UInt8} {at_:Nat} {x:Pos} (hx:¬x.1<at_):findS s at_ x=x:=by
 unfold findS;rw[show at_-x.1=0 by omega];rfl
theorem findF_bound {s:List UInt8} {at_:Nat} (hat:at_≤s.length):∀(f:Nat) (x:Pos),x.1≤s.length→x.2.1≤x.1+1→x.2.2≤x.1+1→(findF s at_ f x).1≤s.length∧(findF s at_ f x).2.1≤(findF s at_ f x).1+1∧(findF s at_ f x).2.2≤(findF s at_ f x).1+1
 | 0,x,h1,h2,h3=>⟨h1,h2,h3⟩
 | f+1,x,h1,h2,h3=>by
  simp only[findF]
  split
  ·rename_i hx
   have hd:=dec_drop (show x.1<s.length by omega)
   refine findF_bound hat f _ ?_ ?_ ?_<;>(simp only[step1];split<;>simp only<;>omega)
  ·exact⟨h1,h2,h3⟩
theorem findS_bound {s:List UInt8} {at_:Nat} (hat:at_≤s.length) {x:Pos} (h1:x.1≤s.length) (h2:x.2.1≤x.1+1) (h3:x.2.2≤x.1+1):(findS s at_ x).1≤s.length∧(findS s at_ x).2.1≤(findS s at_ x).1+1∧(findS s at_ x).2.2≤(findS s at_ x).1+1:=
 findF_bound hat _ x h1 h2 h3
end Go.Ab
namespace Go.Ab
open Go Go.Lib Go.Proofs
theorem ptextF_len (s:List UInt8) (top:Bool):∀(f i:Nat) (acc acc':List UInt8),s.length-i≤f→i≤s.length→acc.length≤i→ptextF f top s i acc = .ok acc'→acc'.length≤s.length
 | 0,i,acc,acc',hf,hi,ha,h=>by
  simp only[ptextF,Except.ok.injEq]at h
  subst h
  omega
 | f+1,i,acc,acc',hf,hi,ha,h=>by
  simp only[ptextF]at h
  split at h
  ·rename_i hl
   have hd:=dec_drop hl
   split at h
   ·split at h
    ·exact ptextF_len s top f _ _ _ (by omega) (by omega) (by omega) h
    ·cases h
   split at h
   ·split at h
    ·rename_i hr
     have:=refS_bound hr
     have:=refS_len hr
     exact ptextF_len s top f _ _ _ (by omega) (by omega) (by simp only[List.length_append];omega) h
    ·cases h
   split at h
   ·cases h
   ·exact ptextF_len s top f _ _ _ (by omega) (by omega) (by simp only[List.length_append,List.length_drop,List.length_take];omega) h
  ·cases h
   omega
theorem ptextS_len {s:List UInt8} {top:Bool} {i:Nat} {acc acc':List UInt8} (hi:i≤s.length) (ha:acc.length≤i) (h:ptextS top s i acc = .ok acc'):acc'.length≤s.length:=ptextF_len s top _ i acc acc' (Nat.le_refl _) hi ha h
def BldPost' (H:AHeap) (k j:Nat) (l:List UInt8) (H':AHeap):Prop:=
 ∃j',BldAt H' k j' l∧(j'=j∨H.next≤j')∧j'<H'.next∧H.next≤H'.next∧∀i,i<H.next→i≠k→i≠j→H'.get i=H.get i
def TextAt (S:List UInt8) (top:Bool) (i0:Nat) (acc0:List UInt8) (pid k j:Nat) (po:AObj) (H:AHeap) (x:Nat × Nat × List UInt8 × AHeap):Prop:=
 x.1≤S.length∧x.2.2.1.length≤x.1∧ptextS top S x.1 x.2.2.1=ptextS top S i0 acc0∧BldAt x.2.2.2 k x.2.1 x.2.2.1∧(x.2.1=j∨H.next≤x.2.1)∧x.2.1<x.2.2.2.next∧H.next≤x.2.2.2.next ∧
 x.2.2.2.get pid=some po∧∀i,i<H.next→i≠k→i≠j→x.2.2.2.get i=H.get i
end Go.Ab
namespace Go.Ab
open Go Go.Lib Go.Proofs
theorem cdataS_len {s:List UInt8} {i:Nat} (h:(cdataS s i).2.2=true):i+(cdataS s i).1.length≤(cdataS s i).2.1:=by
 unfold cdataS at h ⊢
 split at h
 ·rename_i h0
  rw[if_pos h0]
  simp only
  omega
 ·simp at h
def RowAt (s:List UInt8) (top:Bool) (i0 pid:Nat) (mk:Nat→AObj) (H:AHeap) (x:Nat × Nat × List UInt8 × Bool × AHeap):Prop:=
 x.1≤s.length∧x.2.2.1.length≤x.1∧rowL top s x.1 x.2.2.1 x.2.2.2.1=rowS top s i0∧BldAt x.2.2.2.2 H.next x.2.1 x.2.2.1∧H.next<x.2.1∧x.2.1<x.2.2.2.2.next ∧
 x.2.2.2.2.get pid=some (mk x.1)∧∀q,q<H.next→q≠pid→x.2.2.2.2.get q=H.get q
theorem But.of {H J:AHeap} {pid:Nat} {o:AObj} (hn:H.next≤J.next) (hp:J.get pid=some o) (h:∀q,q<H.next→q≠pid→J.get q=H.get q):But pid o H J:=by
 refine⟨hn,fun q hq=>?_⟩
 by_cases h1:q=pid
 ·subst h1
  rw[hp]
  simp
 ·rw[AHeap.get_set_ne _ _ h1]
  exact h q hq h1
end Go.Ab
namespace Go.Ab
open Go Go.Lib Go.Proofs
theorem twiceF_congr:∀(l:List (List UInt8 × List UInt8)) (a b:List (List UInt8)),(∀x,a.contains x=b.contains x)→twiceF a l=twiceF b l
 | [],_,_,_=>rfl
 | y::l,a,b,h=>by
  simp only[twiceF,h y.1]
  rw[twiceF_congr l (y.1::a) (y.1::b) fun x=>by simp only[List.contains_cons,h x]]
def entriesN (seen:List (List UInt8)):List (AV × AV):=seen.map fun a=>(.str a,.int .i64 1)
theorem findA_seen (k:List UInt8):∀(seen:List (List UInt8)) (i:Nat),(seen.contains k=true→∃j,findA (.str k) (entriesN seen) i=some (some (j,.int .i64 1)))∧(seen.contains k=false→findA (.str k) (entriesN seen) i=some none)
 | [],i=>⟨fun h=>by simp at h,fun _=>rfl⟩
 | a::seen,i=>by
  have ih:=findA_seen k seen (i+1)
  simp only[entriesN,List.map_cons,findA,keyEq,List.contains_cons]at ih ⊢
  cases h:(k==a)with
  | true=>exact⟨fun _=>⟨i,rfl⟩,fun h=>by simp at h⟩
  | false=>exact⟨fun h=>ih.1 (by simpa using h),fun h=>ih.2 (by simpa using h)⟩
def strsA (l:List (List UInt8)):List AV:=l.map .str
theorem strsA_len (l:List (List UInt8)):(strsA l).length=l.length:=by simp[strsA]
def evA (x:Ev):AV := .agg [.int .i64 x.kind,.str x.name,.str x.text,.lst x.attrs.length (attrsA x.attrs),.int .i64 x.line,.int .i64 x.col]
def evO (x:Ev):AObj := .cells 88 [.int .i64 x.kind,.str x.name,.str x.text,.nils,.int .i64 x.line,.int .i64 x.col]
def EmAt (H:AHeap) (pid:Nat) (e:Option Ev) (em:AV):Prop:=
 match e with
 | none=>em = .nilp
 | some x=>x.attrs=[]∧∃ke,em = .ptr ke 0∧ke≠pid∧H.get ke=some (evO x)
def PKeep (H:AHeap) (pid ko ko':Nat) (H':AHeap):Prop:=(ko'=ko∨H.next≤ko')∧H.next≤H'.next∧∀j,j<H.next→j≠pid→j≠ko→H'.get j=H.get j
theorem Weak.evNil (G:Nat→Option (List AV)) (k:Int) (a b:List UInt8) (J:AHeap) :
  Weak G [.agg [.int .i64 k,.str a,.str b,.nils,.int .i64 0,.int .i64 0]] J [.agg [.int .i64 k,.str a,.str b,.lst 0 [],.int .i64 0,.int .i64 0]] J:=
 Weak.nilLst ⟨.agg' ⟨.same _,.same _,.same _,.nil _ rfl,.same _,.same _,trivial⟩,trivial⟩
theorem Weak.popRow (G:Nat→Option (List AV)) {H:AHeap} {pid ko:Nat} {e:TypeId} {cs:List AV} {k:Nat} {x0 x1 x2 x3 x4 x5 x6 x7 x9 x10 x11:AV} (hpid:H.get pid=some (.cells e [x0,x1,x2,x3,x4,x5,x6,x7,.slc ko k,x9,x10,x11])) {re:TypeId} (hrow:H.get ko=some (.row re 1 cs)) (hk:k≤cs.length) (hpn:pid<H.next) (hkn:ko<H.next) (v:AV) :
  ∃H',Weak G [v] H [v] H'∧H'.get pid=some (.cells e [x0,x1,x2,x3,x4,x5,x6,x7,.slc H.next k,x9,x10,x11])∧H'.get H.next=some (.row re 1 (cs.take k))∧H'.next=H.next+1∧∀j,j<H.next→j≠pid→j≠ko→H'.get j=H.get j:=by
 have hne:pid≠ko:=by
  intro h
  subst h
  rw[hpid]at hrow
  cases hrow
 refine⟨⟨H.next+1,fun j=>if j=H.next then some (.row re 1 (cs.take k))else if j=ko then none else if j=pid then some (.cells e [x0,x1,x2,x3,x4,x5,x6,x7,.slc H.next k,x9,x10,x11])else H.get j⟩,
  Weak.rename hrow (by omega) H.next k (by omega) (Nat.le_refl _) (Nat.lt_succ_self _) ?_ (by simp) (fun j=>?_) (Tzs.refl _),?_,by simp,rfl,fun j h1 h2 h3=>?_⟩
 ·simp
  omega
 ·by_cases h1:j=H.next
  ·exact .inl h1
  ·by_cases h2:j=ko
   ·exact .inr (.inl (by subst h2;simp[h1]))
   ·by_cases h3:j=pid
    ·subst h3
     exact .inr (.inr ⟨_,.cells e [x0,x1,x2,x3,x4,x5,x6,x7,.slc H.next k,x9,x10,x11],hpid,by simp[h1,h2],.cells _ _ _ (show Tzs _ _ _ _ _ from ⟨.same _,.same _,.same _,.same _,.same _,.same _,.same _,.same _,.slc _ _ (by simp),.same _,.same _,.same _,trivial⟩)⟩)
    ·cases hg:H.get j with
     | none=>exact .inr (.inl (by simp[h1,h2,h3,hg]))
     | some o=>exact .inr (.inr ⟨o,o,rfl,by simp[h1,h2,h3,hg],.same o⟩)
 ·have:pid≠H.next:=by omega
  simp[this,hne]
 ·have:j≠H.next:=by omega
  simp[this,h2,h3]
theorem tagF_len {s:List UInt8}:∀(f k:Nat) (l:List (List UInt8 × List UInt8)) (x),k≤s.length→l.length≤k→tagF f s k l=some x→x.1.length≤s.length
 | 0,_,_,_,_,_,h=>by simp[tagF]at h
 | f+1,k,l,x,hk,hl,h=>by
  simp only[tagF]at h
  have a:=skipN_ge s k
  split at h
  ·cases h
   simp only
   omega
  split at h
  ·cases h
   simp only
   omega
  split at h
  ·cases h
  split at h
  ·rename_i hr
   have:=attrS_bound (skipN_le hk) hr
   exact tagF_len f _ _ _ (by omega) (by simp only[List.length_append,List.length_cons,List.length_nil];omega) h
  ·cases h
theorem startS_len {s:List UInt8} {i:Nat} (hi:i<s.length) {t:Tag} (h:startS s i=some t):t.attrs.length≤s.length:=by
 unfold startS at h
 simp only at h
 split at h
 ·cases hx:tagF (s.length+1) s (untilN s (i+1) [47,62]) []with
  | none=>rw[hx]at h;cases h
  | some x=>
   rw[hx]at h
   simp only[Option.map_some,Option.some.injEq]at h
   subst h
   exact tagF_len _ _ _ _ (untilN_le (s:=s) (i:=i+1) [47,62] (by omega)) (Nat.zero_le _) hx
 ·cases h
def TwAt (attrs:List (List UInt8 × List UInt8)) (X:AHeap) (M:Nat) (x:Nat × List (List UInt8) × AHeap):Prop:=
 x.1≤attrs.length∧twiceF x.2.1 (attrs.drop x.1)=twiceF [] attrs∧x.2.2.get M=some (.map (entriesN x.2.1))∧X.next≤x.2.2.next∧∀j,j<X.next→j≠M→x.2.2.get j=X.get j
theorem attrsA_at:∀(l:List (List UInt8 × List UInt8)) (i:Nat) (h:i<l.length),((attrsA l).drop (i*2)).take 2=[.str l[i].1,.str l[i].2]
 | [],i,h=>by simp at h
 | a::l,0,_=>rfl
 | a::l,i+1,h=>by
  have:=attrsA_at l i (by simpa using h)
  have e:(i+1)*2=i*2+1+1:=by omega
  simp only[attrsA,List.flatMap_cons,e,List.cons_append,List.nil_append,List.drop_succ_cons,List.getElem_cons_succ]at this ⊢
  exact this
end Go.Ab
namespace Go.Ab
open Go Go.Lib Go.Proofs
theorem Weak.refl (G:Nat→Option (List AV)) (a:List AV) (H:AHeap):Weak G a H a H:=fun C _ R hH=>⟨C,hH,R,Adv.refl C _,fun _ h=>h⟩
theorem Weak.evNil3 (G:Nat→Option (List AV)) (k:Int) (a b:List UInt8) (n:Int) (o:Bool) (J:AHeap) :
  Weak G [.tup [.agg [.int .i64 k,.str a,.str b,.nils,.int .i64 0,.int .i64 0],.int .i64 n,.bool o]] J [.tup [.agg [.int .i64 k,.str a,.str b,.lst 0 [],.int .i64 0,.int .i64 0],.int .i64 n,.bool o]] J:=
 Weak.nilLst ⟨.tup' ⟨.agg' ⟨.same _,.same _,.same _,.nil _ rfl,.same _,.same _,trivial⟩,.same _,.same _,trivial⟩,trivial⟩
theorem rowF_true {s:List UInt8} {top:Bool}:∀(f i:Nat) (acc:List UInt8) (x),rowF f top s i acc true = .ok x→x.2.1=true
 | 0,i,acc,x,h=>by
  simp only[rowF,Except.ok.injEq]at h
  subst h
  rfl
 | f+1,i,acc,x,h=>by
  simp only[rowF]at h
  split at h
  case isFalse=>cases h;rfl
  split at h
  ·split at h
   ·cases h
   ·exact rowF_true f _ _ _ h
  split at h
  ·cases h;rfl
  ·split at h
   ·cases h
   ·exact rowF_true f _ _ _ h
theorem rowF_false {s:List UInt8} {top:Bool}:∀(f i:Nat) (acc:List UInt8) (x),rowF f top s i acc false = .ok x→x.2.1=false→x.2.2=i
 | 0,i,acc,x,h,_=>by
  simp only[rowF,Except.ok.injEq]at h
  subst h
  rfl
 | f+1,i,acc,x,h,hx=>by
  simp only[rowF]at h
  split at h
  case isFalse=>cases h;rfl
  split at h
  ·split at h
   ·cases h
   ·have:=rowF_true f _ _ _ h
    rw[this]at hx
    cases hx
  split at h
  ·cases h;rfl
  ·split at h
   ·cases h
   ·have:=rowF_true f _ _ _ h
    rw[this]at hx
    cases hx
theorem pieceS_empty {s:List UInt8} {p q:Pst} {x:Ev} (h:pieceS s p = .ok (x,q)) (hp:p.empty=none) (e:Ev) (he:q.empty=some e):e.kind=1:=by
 unfold pieceS at h
 split at h
 ·cases h
  simp[hp]at he
 split at h
 ·cases h
  simp[hp]at he
 split at h
 ·split at h
  ·cases h
   simp[hp]at he
  ·cases h
 split at h
 ·cases h
 ·split at h
  ·cases h
  split at h
  ·cases h
  split at h
  ·cases h
  cases h
  split at he
  ·simp only[Option.some.injEq]at he
   subst he
   rfl
  ·simp[hp]at he
end Go.Ab
namespace Go.Ab
open Go Go.Lib Go.Proofs
theorem ptextF_err {s:List UInt8} {top:Bool}:∀(f i:Nat) (acc:List UInt8) (w:Wrong),ptextF f top s i acc = .error w→w.at_≤s.length
 | 0,i,acc,w,h=>by simp[ptextF]at h
 | f+1,i,acc,w,h=>by
  simp only[ptextF]at h
  split at h
  ·rename_i hl
   split at h
   ·split at h
    ·exact ptextF_err f _ _ w h
    ·cases h;simp only;omega
   split at h
   ·split at h
    ·exact ptextF_err f _ _ w h
    ·cases h;simp only;omega
   split at h
   ·cases h;simp only;omega
   ·exact ptextF_err f _ _ w h
  ·cases h
theorem rowF_err {s:List UInt8} {top:Bool}:∀(f i:Nat) (acc:List UInt8) (is:Bool) (w:Wrong),rowF f top s i acc is = .error w→w.at_≤s.length
 | 0,i,acc,is,w,h=>by simp[rowF]at h
 | f+1,i,acc,is,w,h=>by
  simp only[rowF]at h
  split at h
  ·rename_i hl
   split at h
   ·split at h
    ·cases h;simp only;omega
    ·exact rowF_err f _ _ _ w h
   split at h
   ·cases h
   ·split at h
    ·rename_i w' hw
     cases h
     have:=ptextF_err _ _ _ _ hw
     simp only[List.length_take]at this
     omega
    ·exact rowF_err f _ _ _ w h
  ·cases h
theorem pieceS_err {s:List UInt8} {p:Pst} {w:Wrong} (h:pieceS s p = .error w):w.at_=p.i:=by
 unfold pieceS at h
 split at h
 ·cases h
 split at h
 ·cases h
 split at h
 ·split at h
  ·cases h
  ·cases h;rfl
 split at h
 ·cases h;rfl
 ·split at h
  ·cases h;rfl
  split at h
  ·cases h;rfl
  split at h
  ·cases h;rfl
  cases h
theorem pieceS_opens {s:List UInt8} {p:Pst} {x:Ev × Pst} (hp:p.opens.length≤200) (h:pieceS s p = .ok x):x.2.opens.length≤200:=by
 unfold pieceS at h
 split at h
 ·cases h;exact hp
 split at h
 ·cases h;exact hp
 split at h
 ·split at h
  ·cases h
   simp only[List.length_dropLast]
   omega
  ·cases h
 split at h
 ·cases h
 ·split at h
  ·cases h
  split at h
  ·cases h
  split at h
  ·cases h
  rename_i hd
  cases h
  simp only
  split
  ·exact hp
  ·simp only[List.length_append,List.length_cons,List.length_nil];omega
theorem eventF_err {s:List UInt8}:∀(f:Nat) (p:Pst) (w:Wrong),eventF f s p = .error w→w.at_≤s.length
 | 0,p,w,h=>by simp[eventF]at h
 | f+1,p,w,h=>by
  simp only[eventF]at h
  split at h
  ·rename_i hl
   split at h
   ·rename_i w' hw
    cases h
    exact rowF_err _ _ _ _ _ hw
   ·split at h
    ·split at h
     ·exact eventF_err f _ w h
     ·cases h
    ·split at h
     ·rename_i w' hw
      cases h
      have:=pieceS_err hw
      omega
     ·cases h
  ·split at h
   ·cases h
    exact Nat.le_refl _
   ·cases h
theorem eventF_opens {s:List UInt8}:∀(f:Nat) (p:Pst) (r),p.opens.length≤200→eventF f s p = .ok r→r.2.opens.length≤200
 | 0,p,r,hp,h=>by
  simp only[eventF,Except.ok.injEq]at h
  subst h
  exact hp
 | f+1,p,r,hp,h=>by
  simp only[eventF]at h
  split at h
  ·split at h
   ·cases h
   ·split at h
    ·split at h
     ·exact eventF_opens f _ _ (by exact hp) h
     ·cases h;exact hp
    ·split at h
     ·cases h
     ·rename_i x q hq
      have:=pieceS_opens hp hq
      cases h
      exact this
  ·split at h
   ·cases h
   ·cases h;exact hp
theorem eventS_err {s:List UInt8} {p:Pst} {w:Wrong} (h:eventS s p = .error w):w.at_≤s.length:=by
 unfold eventS at h
 split at h
 ·split at h
  ·cases h;exact Nat.zero_le _
  ·exact eventF_err _ _ _ h
 ·exact eventF_err _ _ _ h
theorem eventS_opens {s:List UInt8} {p:Pst} {r} (hp:p.opens.length≤200) (h:eventS s p = .ok r):r.2.opens.length≤200:=by
 unfold eventS at h
 split at h
 ·split at h
  ·cases h
  ·exact eventF_opens _ _ _ (by exact hp) h
 ·exact eventF_opens _ _ _ (by exact hp) h
def PosOk (s:List UInt8) (x:Pos):Prop:=x.1≤s.length∧1≤x.2.1∧x.2.1≤x.1+1∧x.2.2≤x.1+1
theorem findF_line {s:List UInt8} {at_:Nat}:∀(f:Nat) (x:Pos),1≤x.2.1→1≤(findF s at_ f x).2.1
 | 0,x,h=>h
 | f+1,x,h=>by
  simp only[findF]
  split
  ·refine findF_line f _ ?_
   simp only[step1]
   split<;>simp only<;>omega
  ·exact h
theorem PosOk.find {s:List UInt8} {x:Pos} (h:PosOk s x) {at_:Nat} (hat:at_≤s.length):PosOk s (findS s at_ x):=by
 have:=findS_bound hat h.1 h.2.2.1 h.2.2.2
 exact⟨this.1,findF_line _ x h.2.1,this.2.1,this.2.2⟩
structure ParOk (s:List UInt8) (q:Par):Prop where
 i:q.p.i≤s.length
 opens:q.p.opens.length≤200
 seen:PosOk s q.seen
 last:1≤q.last.2.1
theorem ParOk.next {s:List UInt8} {q:Par} (h:ParOk s q):ParOk s (nextS s q).2:=by
 unfold nextS
 split
 ·exact h
 split
 ·exact⟨h.i,h.opens,h.seen,h.last⟩
 ·split
  ·rename_i w hw
   have:=h.seen.find (eventS_err hw)
   exact⟨h.i,h.opens,this,this.2.1⟩
  ·rename_i p hp
   obtain⟨a,b,c,d⟩:=eventS_bound h.i hp
   have:=h.seen.find (at_:=p.i) b
   exact⟨b,eventS_opens h.opens hp,this,this.2.1⟩
  ·rename_i x from_ p hp
   obtain⟨a,b,c,d⟩:=eventS_bound h.i hp
   have hd:=d _ rfl
   simp only at b hd
   have h1:=h.seen.find (s:=s) (at_:=from_) (by omega)
   have h2:=h1.find (at_:=p.i) b
   exact⟨b,eventS_opens h.opens hp,h2,h2.2.1⟩
theorem par0_ok (s:List UInt8):ParOk s par0:=⟨Nat.zero_le _,Nat.zero_le _,⟨Nat.zero_le _,Nat.le_refl _,Nat.le_refl _,Nat.le_refl _⟩,Nat.le_refl _⟩
end Go.Ab
namespace Go.Ab
open Go Go.Lib Go.Proofs
end Go.Ab
namespace Go.Ab
open Go Go.Lib Go.Proofs
theorem ptextF_ne {s:List UInt8} {top:Bool}:∀(f i:Nat) (acc:List UInt8) (w:Wrong),ptextF f top s i acc = .error w→w.e≠0
 | 0,i,acc,w,h=>by simp[ptextF]at h
 | f+1,i,acc,w,h=>by
  simp only[ptextF]at h
  split at h
  ·split at h
   ·split at h
    ·exact ptextF_ne f _ _ w h
    ·cases h;simp
   split at h
   ·split at h
    ·exact ptextF_ne f _ _ w h
    ·cases h;simp
   split at h
   ·cases h;simp
   ·exact ptextF_ne f _ _ w h
  ·cases h
theorem rowF_ne {s:List UInt8} {top:Bool}:∀(f i:Nat) (acc:List UInt8) (is:Bool) (w:Wrong),rowF f top s i acc is = .error w→w.e≠0
 | 0,i,acc,is,w,h=>by simp[rowF]at h
 | f+1,i,acc,is,w,h=>by
  simp only[rowF]at h
  split at h
  ·split at h
   ·split at h
    ·cases h;simp
    ·exact rowF_ne f _ _ _ w h
   split at h
   ·cases h
   ·split at h
    ·rename_i w' hw
     cases h
     exact ptextF_ne _ _ _ _ hw
    ·exact rowF_ne f _ _ _ w h
  ·cases h
theorem pieceS_ne {s:List UInt8} {p:Pst} {w:Wrong} (h:pieceS s p = .error w):w.e≠0:=by
 unfold pieceS at h
 split at h
 ·cases h
 split at h
 ·cases h
 split at h
 ·split at h
  ·cases h
  ·cases h;simp
 split at h
 ·cases h;simp
 ·split at h
  ·cases h;simp
  split at h
  ·cases h;simp
  split at h
  ·cases h;simp
  cases h
theorem eventF_ne {s:List UInt8}:∀(f:Nat) (p:Pst) (w:Wrong),eventF f s p = .error w→w.e≠0
 | 0,p,w,h=>by simp[eventF]at h
 | f+1,p,w,h=>by
  simp only[eventF]at h
  split at h
  ·split at h
   ·rename_i w' hw
    cases h
    exact rowF_ne _ _ _ _ _ hw
   ·split at h
    ·split at h
     ·exact eventF_ne f _ w h
     ·cases h
    ·split at h
     ·rename_i w' hw
      cases h
      exact pieceS_ne hw
     ·cases h
  ·split at h
   ·cases h;simp
   ·cases h
theorem eventS_ne {s:List UInt8} {p:Pst} {w:Wrong} (h:eventS s p = .error w):w.e≠0:=by
 unfold eventS at h
 split at h
 ·split at h
  ·cases h;simp
  ·exact eventF_ne _ _ _ h
 ·exact eventF_ne _ _ _ h
theorem eventF_empty {s:List UInt8}:∀(f:Nat) (p:Pst) (r),p.empty=none→eventF f s p = .ok r→∀e,r.2.empty=some e→e.kind=1
 | 0,p,r,hp,h,e,he=>by
  simp only[eventF,Except.ok.injEq]at h
  subst h
  simp[hp]at he
 | f+1,p,r,hp,h,e,he=>by
  simp only[eventF]at h
  split at h
  ·split at h
   ·cases h
   ·split at h
    ·split at h
     ·exact eventF_empty f _ r (by exact hp) h e he
     ·cases h
      simp[hp]at he
    ·split at h
     ·cases h
     ·rename_i x q hq
      cases h
      exact pieceS_empty hq hp e he
  ·split at h
   ·cases h
   ·cases h
    simp[hp]at he
theorem eventS_empty {s:List UInt8} {p:Pst} {r} (hp:p.empty=none) (h:eventS s p = .ok r) (e:Ev) (he:r.2.empty=some e):e.kind=1:=by
 unfold eventS at h
 split at h
 ·split at h
  ·cases h
  ·exact eventF_empty _ _ r (by exact hp) h e he
 ·exact eventF_empty _ _ r hp h e he
theorem ACalls.wfp {P:Program} {G:Nat→Option (List AV)} {f:FuncId} {args:List AV} {H:AHeap} {Q:ARes→AHeap→Prop} (h:ACalls P G f args H Q):ACalls P G f args H fun r H'=>Q r H'∧∀k o,H'.get k=some o→k<H'.next:=
 fun C w a R hH hv=>(h C w a R hH hv).mono fun e w' ⟨r,C',q,hr,R',A'⟩=>⟨r,C',⟨q,fun k o hk=>(R'.pres k o hk).1⟩,hr,R',A'⟩
theorem Weak.evNilE (G:Nat→Option (List AV)) (k:Int) (a b:List UInt8) (m n:Int) (o:Bool) (e:Int) (J:AHeap) :
  Weak G [.tup [.agg [.int .i64 k,.str a,.str b,.nils,.int .i64 m,.int .i64 n],.bool o,.int .i64 e]] J [.tup [.agg [.int .i64 k,.str a,.str b,.lst 0 [],.int .i64 m,.int .i64 n],.bool o,.int .i64 e]] J:=
 Weak.nilLst ⟨.tup' ⟨.agg' ⟨.same _,.same _,.same _,.nil _ rfl,.same _,.same _,trivial⟩,.same _,.same _,trivial⟩,trivial⟩
end Go.Ab
namespace Go.Ab
open Go Go.Lib Go.Proofs
theorem replaceK_len {old new:List UInt8} (h:new.length≤old.length):∀(k:Nat) (s:List UInt8),(Lib.replaceK old new k s).length≤s.length
 | 0,s=>Nat.le_refl _
 | k+1,s=>by
  simp only[Lib.replaceK]
  split
  ·exact Nat.le_refl _
  ·rename_i hi
   have hge:=Lib.index_ge s old
   simp only[beq_iff_eq]at hi
   have hr:=Lib.index_room s old (by omega)
   have:=replaceK_len h k (s.drop ((Lib.index s old).toNat+old.length))
   simp only[List.length_append,List.length_take,List.length_drop]at this ⊢
   omega
theorem replaceAll_len {old new:List UInt8} (h:new.length≤old.length) (s:List UInt8):(Lib.replaceAll s old new).length≤s.length:=by
 unfold Lib.replaceAll Lib.replace
 split
 ·exact Nat.le_refl _
 ·exact replaceK_len h _ _
def linesS (text:List UInt8):List UInt8:=Lib.replaceAll (Lib.replaceAll text [13,10] [10]) [13] [10]
theorem linesS_len (text:List UInt8):(linesS text).length≤text.length:=
 Nat.le_trans (replaceAll_len (by simp) _) (replaceAll_len (by simp) _)
structure EnvR (G:Nat→Option (List AV)):Prop where
def newErr (text:List UInt8):Nat:=if 1048576<text.length then 2 else if isTextS text=true then 0 else 10
end Go.Ab
namespace Go.Ab
open Go Go.Lib Go.Proofs
theorem allF_fuel {s:List UInt8}:∀(f g:Nat) (q:Par) (l:List Ev),q.p.i≤s.length→potS s q<f→potS s q<g→allF f s q l=allF g s q l
 | 0,_,_,_,_,h,_=>absurd h (by omega)
 | _,0,_,_,_,_,h=>absurd h (by omega)
 | f+1,g+1,q,l,hi,hf,hg=>by
  have hb:=nextS_bound hi
  simp only[allF]
  split
  ·rfl
  split
  ·rfl
  ·rename_i h1 h2
   have:=hb.2 (by simpa using h2)
   exact allF_fuel f g _ _ hb.1 (by omega) (by omega)
def allL (s:List UInt8) (q:Par) (l:List Ev):List Ev × Nat × Nat × Nat:=allF (potS s q+1) s q l
theorem allL_step {s:List UInt8} {q:Par} (l:List Ev) (hi:q.p.i≤s.length):allL s q l =
  if(nextS s q).1.2.2≠0 then([],(nextS s q).2.last.2.1,(nextS s q).2.last.2.2,(nextS s q).1.2.2)
  else if(nextS s q).1.2.1=false then(l,0,0,0)else allL s (nextS s q).2 (l++[(nextS s q).1.1]):=by
 have hb:=nextS_bound hi
 conv=>lhs;unfold allL;simp only[allF]
 split
 ·rfl
 split
 ·rfl
 ·rename_i h1 h2
  have:=hb.2 (by simpa using h2)
  exact allF_fuel _ _ _ _ hb.1 (by omega) (by omega)
def all2S (text:List UInt8):List Ev × Nat × Nat × Nat:=if newErr text=0 then allL (linesS text) par0 []else([],0,0,newErr text)
def evC (x:Ev):List AV:=[.int .i64 x.kind,.str x.name,.str x.text,.lst x.attrs.length (attrsA x.attrs),.int .i64 x.line,.int .i64 x.col]
def evsA (l:List Ev):List AV:=l.flatMap evC
theorem evsA_len:∀(l:List Ev),(evsA l).length=l.length*6
 | []=>rfl
 | a::l=>by
  have:=evsA_len l
  simp only[evsA,List.flatMap_cons,List.length_append,evC,List.length_cons,List.length_nil]at this ⊢
  omega
def allA (x:List Ev × Nat × Nat × Nat):AV := .tup [.lst x.1.length (evsA x.1),.int .i64 x.2.1,.int .i64 x.2.2.1,.int .i64 x.2.2.2]
theorem Weak.allNil (G:Nat→Option (List AV)) (a b c:Int) (J:AHeap):Weak G [.tup [.nils,.int .i64 a,.int .i64 b,.int .i64 c]] J [.tup [.lst 0 [],.int .i64 a,.int .i64 b,.int .i64 c]] J:=
 Weak.nilLst ⟨.tup' ⟨.nil _ rfl,.same _,.same _,.same _,trivial⟩,trivial⟩
end Go.Ab
namespace Go.Ab
open Go Go.Lib Go.Proofs
theorem replaceAll_eq {old new:List UInt8} (hne:(old==new)=false) (s:List UInt8):Lib.replaceAll s old new=Lib.replaceK old new (Lib.count s old) s:=by
  unfold Lib.replaceAll Lib.replace
  rw[hne]
  simp[Lib.replaceNum]
theorem replaceAll_nil {old new:List UInt8} (ho:old≠[]):Lib.replaceAll [] old new=[]:=by
  unfold Lib.replaceAll Lib.replace
  split
  · rfl
  · cases hk:Lib.replaceNum [] old (-1)with
    | zero=>rfl
    | succ k=>cases old with
      | nil=>exact absurd rfl ho
      | cons a o=>simp[Lib.replaceK,Lib.index]
theorem replaceAll_hit {old new s:List UInt8} (hne:(old==new)=false) (ho:old≠[]) (h:old.isPrefixOf s=true):Lib.replaceAll s old new=new++Lib.replaceAll (s.drop old.length) old new:=by
  have hi:Lib.index s old=((0:Nat):Int):=by
    cases s with
    | nil=>cases old with
      | nil=>exact absurd rfl ho
      | cons a o=>simp at h
    | cons b l=>simp only[Lib.index,h,if_true];rfl
  rw[replaceAll_eq hne,replaceAll_eq hne,Lib.count_hit ho hi,Nat.add_comm,Lib.replaceK_hit _ _ _ _ 0 hi]
  simp
theorem replaceAll_miss {old new l:List UInt8} {b:UInt8} (hne:(old==new)=false) (ho:old≠[]) (h:old.isPrefixOf (b::l)=false):Lib.replaceAll (b::l) old new=b::Lib.replaceAll l old new:=by
  have hx:Lib.index (b::l) old=if Lib.index l old == -1 then -1 else Lib.index l old+1:=by simp[Lib.index,h]
  have hge:=Lib.index_ge l old
  rw[replaceAll_eq hne,replaceAll_eq hne]
  by_cases hm:Lib.index l old = -1
  · have h1:Lib.index (b::l) old = -1:=by rw[hx];simp[hm]
    rw[Lib.count_miss hm,Lib.count_miss h1]
    rfl
  · obtain⟨i,hi⟩:∃i:Nat,Lib.index l old=i:=⟨(Lib.index l old).toNat,by omega⟩
    have h1:Lib.index (b::l) old=((i+1:Nat):Int):=by rw[hx,if_neg (by simp[hm]),hi];rfl
    have e:(b::l).drop (i+1+old.length)=l.drop (i+old.length):=by rw[show i+1+old.length=(i+old.length)+1 by omega];rfl
    have c1:=Lib.count_hit ho hi
    have c2:=Lib.count_hit ho h1
    rw[Nat.add_comm]at c1 c2
    rw[c1,c2,Lib.replaceK_hit _ _ _ _ _ h1,Lib.replaceK_hit _ _ _ _ _ hi,e]
    simp
theorem replace1 (l:List UInt8) (c:UInt8) (new:List UInt8) (hne:([c]==new)=false):Lib.replaceAll l [c] new=l.flatMap fun x=>if x=c then new else [x]:=by
  induction l with
  | nil=>exact replaceAll_nil (by simp)
  | cons b l ih=>
    simp only[List.flatMap_cons]
    by_cases h:b=c
    · subst h
      rw[replaceAll_hit hne (by simp) (by simp[List.isPrefixOf]),if_pos rfl]
      simp only[List.length_singleton,List.drop_one,List.tail_cons,ih]
    · rw[replaceAll_miss hne (by simp) (by simp[List.isPrefixOf,Ne.symm h]),if_neg h,ih]
      rfl
theorem linesS_nil:linesS []=[]:=by
  unfold linesS
  rw[replaceAll_nil (by simp),replaceAll_nil (by simp)]
theorem linesS_two (l:List UInt8):linesS (13::10::l)=10::linesS l:=by
  have a:Lib.replaceAll (13::10::l) [13,10] [10]=10::Lib.replaceAll l [13,10] [10]:=replaceAll_hit (by decide) (by simp) (by simp[List.isPrefixOf])
  unfold linesS
  rw[a,replaceAll_miss (by decide) (by simp) (by simp[List.isPrefixOf])]
theorem linesS_cons (b:UInt8) (l:List UInt8) (h:([13,10]:List UInt8).isPrefixOf (b::l)=false):linesS (b::l)=(if b=13 then 10 else b)::linesS l:=by
  unfold linesS
  rw[replaceAll_miss (by decide) (by simp) h]
  by_cases hb:b=13
  · subst hb
    rw[replaceAll_hit (by decide) (by simp) (by simp)]
    rfl
  · rw[replaceAll_miss (by decide) (by simp) (by simp[List.isPrefixOf,Ne.symm hb]),if_neg hb]
theorem linesS_ends (l:List UInt8):linesS l=endsS l:=by
  fun_induction endsS l with
  | case1 l ih=>rw[linesS_two,ih]
  | case2 l hx ih=>
    rw[linesS_cons,ih]
    · rfl
    · cases l with
      | nil=>rfl
      | cons c l=>
        have:c≠10:=fun e=>hx l (by rw[e])
        simp[List.isPrefixOf,Ne.symm this]
  | case3 c l h1 h2 ih=>
    have hc:c≠13:=fun e=>h2 e
    rw[linesS_cons,ih,if_neg hc]
    simp[List.isPrefixOf,Ne.symm hc]
  | case4=>exact linesS_nil
def lfMap (e:List UInt8) (l:List UInt8):List UInt8:=l.flatMap fun x=>if x=10 then e else [x]
theorem lfMap_lf (e l:List UInt8):lfMap e (10::l)=e++lfMap e l:=by simp[lfMap]
theorem lfMap_ne (e:List UInt8) {b:UInt8} (l:List UInt8) (h:b≠10):lfMap e (b::l)=b::lfMap e l:=by simp[lfMap,h]
theorem lfMap_app (e c l:List UInt8) (h:∀x∈c,x≠10):lfMap e (c++l)=c++lfMap e l:=by
  induction c with
  | nil=>rfl
  | cons b c ih=>
    rw[List.cons_append,lfMap_ne e _ (h b (by simp)),ih fun x hx=>h x (by simp[hx])]
    rfl
def IsEnd (e:List UInt8):Prop:=e=[13]∨e=[13,10]
theorem lfMap_head {e:List UInt8} (he:IsEnd e) (l:List UInt8):(lfMap e l).head?≠some 10:=by
  cases l with
  | nil=>simp[lfMap]
  | cons b l=>
    by_cases h:b=10
    · subst h
      rw[lfMap_lf]
      rcases he with rfl | rfl<;>simp
    · rw[lfMap_ne e l h]
      simpa using h
theorem lfMap_inv {e:List UInt8} (he:IsEnd e):∀(c l m:List UInt8),(∀x∈c,128≤x.toNat)→lfMap e l=c++m→∃l',l=c++l'∧m=lfMap e l'
  | [],l,m,_,h=>⟨l,rfl,h.symm⟩
  | x::c,[],m,_,h=>by simp[lfMap]at h
  | x::c,b::l,m,hc,h=>by
    have hx:128≤x.toNat:=hc x (by simp)
    by_cases hb:b=10
    · subst hb
      rw[lfMap_lf]at h
      rcases he with rfl | rfl<;>
      · simp at h
        obtain⟨rfl,_⟩:=h
        exact absurd hx (by decide)
    · rw[lfMap_ne e l hb,List.cons_append,List.cons.injEq]at h
      obtain⟨l',h1,h2⟩:=lfMap_inv he c l m (fun y hy=>hc y (by simp[hy])) h.2
      exact⟨l',by rw[h.1,h1];rfl,h2⟩
theorem endsS_plain:∀(l:List UInt8),(∀x∈l,x≠13)→endsS l=l
  | [],_=>rfl
  | c::l,h=>by
    have hc:c≠13:=h c (by simp)
    have:=endsS_plain l fun x hx=>h x (by simp[hx])
    rw[←linesS_ends]at this ⊢
    rw[linesS_cons _ _ (by simp[List.isPrefixOf,Ne.symm hc]),if_neg hc,this]
theorem endsS_lfMap {e:List UInt8} (he:IsEnd e):∀(l:List UInt8),(∀x∈l,x≠13)→endsS (lfMap e l)=l
  | [],_=>rfl
  | c::l,h=>by
    have hc:c≠13:=h c (by simp)
    have ih:=endsS_lfMap he l fun x hx=>h x (by simp[hx])
    rw[←linesS_ends]at ih ⊢
    by_cases h10:c=10
    · subst h10
      rw[lfMap_lf]
      rcases he with rfl | rfl
      · have hh:=lfMap_head (e:=[13]) (.inl rfl) l
        rw[List.singleton_append,linesS_cons,ih,if_pos rfl]
        cases hm:lfMap [13] l with
        | nil=>rfl
        | cons b m=>
          rw[hm]at hh
          have:b≠10:=by simpa using hh
          simp[List.isPrefixOf,Ne.symm this]
      · show linesS (13::10::lfMap [13,10] l)=_
        rw[linesS_two,ih]
    · rw[lfMap_ne e l h10,linesS_cons _ _ (by simp[List.isPrefixOf,Ne.symm hc]),if_neg hc,ih]
/-! The decoder, behind other line ends. -/
set_option maxRecDepth 100000 in
set_option maxHeartbeats 2000000 in
theorem decodeN_same (n n' w b0 b1 b2 b3 c1 c2 c3:Nat) (hw:(Lib.decodeN n b0 b1 b2 b3).2=w) (h2:2≤w) (hn:w≤n') (e1:c1=b1) (e2:2<w→c2=b2) (e3:3<w→c3=b3):Lib.decodeN n' b0 c1 c2 c3=Lib.decodeN n b0 b1 b2 b3:=by
  subst e1
  unfold Lib.decodeN at hw ⊢
  repeat' split at hw
  all_goals first
    | (exfalso;try simp only at hw
       omega)
    | (try simp only at hw
       subst hw
       first
         | (have E2:=e2 (by omega);subst E2;first | (have E3:=e3 (by omega);subst E3;simp_all) | simp_all)
         | simp_all)
  all_goals (repeat' split)
  all_goals first | (exfalso;omega) | rfl
set_option maxRecDepth 100000 in
set_option maxHeartbeats 2000000 in
theorem decodeN_cont (n b0 b1 b2 b3:Nat) (h0:128≤b0):Lib.decodeN n b0 b1 b2 b3=(65533,1)∨(2≤(Lib.decodeN n b0 b1 b2 b3).2∧(Lib.decodeN n b0 b1 b2 b3).2≤4∧(Lib.decodeN n b0 b1 b2 b3).2≤n∧b1 / 64=2∧(2<(Lib.decodeN n b0 b1 b2 b3).2→b2 / 64=2)∧(3<(Lib.decodeN n b0 b1 b2 b3).2→b3 / 64=2)):=by
  unfold Lib.decodeN
  repeat' split
  all_goals first
    | (exfalso;omega)
    | exact .inl rfl
    | (refine .inr ⟨?_,?_,?_,?_,?_,?_⟩<;>(try simp only)<;>omega)
theorem take_cont:∀(l:List UInt8) (k:Nat),(∀i,i<k→128≤(l.getD i 0).toNat)→∀x∈l.take k,128≤x.toNat
  | [],k,_,x,hx=>by simp at hx
  | b::l,0,_,x,hx=>by simp at hx
  | b::l,k+1,h,x,hx=>by
    rw[List.take_succ_cons,List.mem_cons]at hx
    rcases hx with rfl | hx
    · exact h 0 (by omega)
    · exact take_cont l k (fun i hi=>h (i+1) (by omega)) x hx
theorem dec_split {b:UInt8} (l:List UInt8) (h:128≤b.toNat):dec (b::l)=(65533,1)∨∃c m,l=c++m∧1≤c.length∧(∀x∈c,128≤x.toNat)∧(dec (b::l)).2=1+c.length∧∀m',dec (b::(c++m'))=dec (b::l):=by
  have hN:=Lib.decodeL_N (b::l)
  simp only[List.getD_cons_zero,List.getD_cons_succ]at hN
  rcases decodeN_cont (b::l).length b.toNat (l.getD 0 0).toNat (l.getD 1 0).toNat (l.getD 2 0).toNat h with h1 | ⟨h2,h4,hn,c1,c2,c3⟩
  · exact .inl (hN.trans h1)
  · right
    rw[←hN]at h2 h4 hn c2 c3
    generalize hw:(Lib.decodeL (b::l)).2=w at h2 h4 hn c2 c3
    simp only[List.length_cons]at hn
    have hlen:(l.take (w-1)).length=w-1:=by rw[List.length_take];omega
    refine⟨l.take (w-1),l.drop (w-1),(List.take_append_drop _ _).symm,by omega,take_cont l _ fun i hi=>?_,by rw[hlen];omega,fun m'=>?_⟩
    · rcases Nat.lt_or_ge i 1 with h | h
      · rw[show i=0 by omega];omega
      rcases Nat.lt_or_ge i 2 with h | h
      · rw[show i=1 by omega];have:=c2 (by omega);omega
      · rw[show i=2 by omega];have:=c3 (by omega);omega
    · show Lib.decodeL _=Lib.decodeL _
      have hN2:=Lib.decodeL_N (b::(l.take (w-1)++m'))
      simp only[List.getD_cons_zero,List.getD_cons_succ]at hN2
      rw[hN]at hw
      rw[hN2,hN]
      have g:∀i,i<w-1→(l.take (w-1)++m').getD i 0=l.getD i 0:=fun i hi=>by
        simp only[List.getD_eq_getElem?_getD]
        rw[List.getElem?_append_left (by omega),List.getElem?_take_of_lt hi]
      refine decodeN_same _ _ w _ _ _ _ _ _ _ hw h2 (by simp only[List.length_cons,List.length_append];omega) (by rw[g 0 (by omega)]) (fun h=>by rw[g 1 (by omega)]) fun h=>by rw[g 2 (by omega)]
theorem dec_lfMap {e:List UInt8} (he:IsEnd e) {b:UInt8} (l:List UInt8) (h:128≤b.toNat):dec (b::lfMap e l)=dec (b::l):=by
  rcases dec_split l h with h1 | ⟨c,m,rfl,_,hc,_,h3⟩
  · rcases dec_split (lfMap e l) h with h2 | ⟨c,m,h4,h5,hc,h6,h3⟩
    · rw[h1,h2]
    · obtain⟨l',rfl,_⟩:=lfMap_inv he c l m hc h4
      rw[←h3 l']
  · rw[lfMap_app e c m fun x hx e=>by have:=hc x hx;rw[e]at this;exact absurd this (by decide),h3]
theorem pre_lfMap {e:List UInt8} (he:IsEnd e) (b:UInt8) (l:List UInt8):Lib.hasPrefix (b::lfMap e l) [239,191,189]=Lib.hasPrefix (b::l) [239,191,189]:=by
  rw[Bool.eq_iff_iff]
  unfold Lib.hasPrefix
  simp only[List.isPrefixOf_iff_prefix]
  constructor
  · rintro⟨m,hm⟩
    simp only[List.cons_append,List.nil_append,List.cons.injEq]at hm
    obtain⟨rfl,hm⟩:=hm
    obtain⟨l',rfl,_⟩:=lfMap_inv he [191,189] l m (by decide) hm.symm
    exact⟨l',rfl⟩
  · rintro⟨m,hm⟩
    simp only[List.cons_append,List.nil_append,List.cons.injEq]at hm
    obtain⟨rfl,rfl⟩:=hm
    exact⟨lfMap e m,by rw[lfMap_ne e _ (by decide),lfMap_ne e _ (by decide)];rfl⟩
theorem isTextS_cons (b:UInt8) (l:List UInt8):isTextS (b::l)=(headTextS (b::l)&&isTextS ((b::l).drop (dec (b::l)).2)):=by
  have:=dec_pos (l:=b::l) (by simp)
  unfold isTextS
  simp only[List.length_cons,textF]
  rw[textF_fuel l.length _ _ (by simp only[List.length_drop,List.length_cons];omega) (Nat.le_refl _)]
theorem isTextS_ascii {b:UInt8} (l:List UInt8) (h:b.toNat<128):isTextS (b::l)=(isCharS b.toNat&&isTextS l):=by
  rw[isTextS_cons,headTextS,dec_ascii h]
  have e:((b.toNat==65533):Bool)=false:=by simp;omega
  simp[e]
theorem isTextS_lfMap {e:List UInt8} (he:IsEnd e):∀(n:Nat) (l:List UInt8),l.length≤n→isTextS (lfMap e l)=isTextS l
  | _,[],_=>rfl
  | 0,b::l,h=>absurd h (by simp)
  | n+1,b::l,hn=>by
    simp only[List.length_cons]at hn
    by_cases h10:b=10
    · subst h10
      rw[lfMap_lf,isTextS_ascii l (by decide),←isTextS_lfMap he n l (by omega)]
      rcases he with rfl | rfl
      · rw[List.singleton_append,isTextS_ascii _ (by decide)]
        rfl
      · show isTextS (13::10::lfMap [13,10] l)=_
        rw[isTextS_ascii _ (by decide),isTextS_ascii _ (by decide)]
        rfl
    · rw[lfMap_ne e l h10]
      by_cases hb:b.toNat<128
      · rw[isTextS_ascii _ hb,isTextS_ascii _ hb,isTextS_lfMap he n l (by omega)]
      · have hd:=dec_lfMap he l (b:=b) (by omega)
        rw[isTextS_cons,isTextS_cons,headTextS,headTextS,hd,pre_lfMap he]
        rcases dec_split l (b:=b) (by omega)with h1 | ⟨c,m,rfl,hc1,hc,hw,h3⟩
        · rw[h1]
          show(_&&isTextS (lfMap e l))=(_&&isTextS l)
          rw[isTextS_lfMap he n l (by omega)]
        · rw[hw,lfMap_app e c m fun x hx e=>by have:=hc x hx;rw[e]at this;exact absurd this (by decide)]
          have ed:∀m':List UInt8,(b::(c++m')).drop (1+c.length)=m':=fun m'=>by rw[Nat.add_comm];simp
          rw[ed,ed,isTextS_lfMap he n m (by simp only[List.length_append]at hn;omega)]
theorem lfMap_len {e:List UInt8} (he:IsEnd e) (l:List UInt8):(lfMap e l).length≤2*l.length:=by
  induction l with
  | nil=>simp[lfMap]
  | cons b l ih=>
    by_cases h:b=10
    · subst h
      rw[lfMap_lf]
      rcases he with rfl | rfl<;>simp<;>omega
    · rw[lfMap_ne e l h]
      simp
      omega
theorem all2S_lfMap {e:List UInt8} (he:IsEnd e) {l:List UInt8} (hl:l.length≤500000) (h13:∀x∈l,x≠13):all2S (lfMap e l)=all2S l:=by
  have h1:newErr (lfMap e l)=newErr l:=by
    have:=lfMap_len he l
    have a:¬1048576<(lfMap e l).length:=by omega
    have b:¬1048576<l.length:=by omega
    simp only[newErr,a,b,if_false,isTextS_lfMap he _ l (Nat.le_refl _)]
  unfold all2S
  rw[h1,linesS_ends,linesS_ends,endsS_lfMap he l h13,endsS_plain l h13]
end Go.Ab
namespace Go.Ab
open Go Go.Lib
theorem drop_one {s t:List UInt8} {i:Nat} {b:UInt8} (h:s.drop i=b::t):i<s.length∧s.drop (i+1)=t∧s.getD i 0=b:=by
 have hi:i<s.length:=by
  rcases Nat.lt_or_ge i s.length with h1 | h1
  ·exact h1
  ·rw[List.drop_eq_nil_of_le h1]at h;cases h
 rw[List.drop_eq_getElem_cons hi,List.cons.injEq]at h
 refine⟨hi,h.2,?_⟩
 rw[List.getD_eq_getElem?_getD,List.getElem?_eq_getElem hi,Option.getD_some,h.1]
theorem untilN_at {s:List UInt8} {i:Nat} {st:List UInt8} {a b:UInt8} {t:List UInt8} (h:s.drop i=a::b::t) (ha:isW a=false∧Lib.indexByte st a<0) (hb:isW b=true∨¬Lib.indexByte st b<0):untilN s i st=i+1:=by
 unfold untilN
 rw[h]
 have h1:(!isW a&&decide (Lib.indexByte st a<0))=true:=by simp[ha]
 have h2:(!isW b&&decide (Lib.indexByte st b<0))=false:=by
  rcases hb with hb | hb<;>simp[hb]
 simp[List.takeWhile_cons,h1,h2]
theorem skipN_at {s:List UInt8} {i:Nat} {a:UInt8} {t:List UInt8} (h:s.drop i=a::t) (ha:isW a=false):skipN s i=i:=by
 unfold skipN
 rw[h]
 simp[List.takeWhile_cons,ha]
theorem name_at {s:List UInt8} {i:Nat} {a:UInt8} {t:List UInt8} (h:s.drop i=a::t):(s.take (i+1)).drop i=[a]:=by
 rw[List.drop_take,h]
 simp
theorem all_next {s:List UInt8} {q q':Par} {x:Ev} (hi:q.p.i≤s.length) (h:nextS s q=((x,true,0),q')) (l:List Ev):allL s q l=allL s q' (l++[x]):=by
 rw[allL_step l hi,h]
 simp
end Go.Ab
