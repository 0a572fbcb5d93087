/- What tree.Build computes, on lists. -/
import Derived.Test.YtojncnpmlhhccaaGreatDoorH1
import Derived.Lib.MapU
import Derived.Lib.IndexAny
set_option linter.all false
namespace Go.Ab
open Go Go.Lib
structure Nd where
 kind:Nat
 name:List UInt8
 text:List UInt8
 up:Int
deriving DecidableEq
structure TSt where
 l:List Nd
 op:Nat
 deep:Int
 bytes:Nat
def allowedS (kind:Nat) (name text:List UInt8):Bool:=
 isTextS text&&match kind with
  | 0=>name==[]&&text==[]
  | 1=>isNameS name&&text==[]
  | 2=>isNameS name
  | 3=>name==[]&&text != []
  | 4=>name==[] && !Lib.contains text sDash && !Lib.hasSuffix text [45]
  | 5=>isNameS name&&Lib.toLowerD name != [120,109,108] && !Lib.contains text [63,62] && !Lib.containsAny (text.take (min 1 text.length)) [32,9,13,10]
  | _=>false
def TSt.add (t:TSt) (kind:Nat) (name text:List UInt8):Except Nat TSt:=
 if 65536≤t.l.length∨(kind≠2∧200≤t.deep)∨1048576<t.bytes+text.length then .error 2
 else .ok { t with l:=t.l++[⟨kind,name,text,t.op⟩],bytes:=t.bytes+text.length }
def attrsT:List (List UInt8 × List UInt8)→TSt→Except Nat TSt
 | [],t => .ok t
 | a::l,t=>match t.add 2 a.1 a.2 with
  | .error e => .error e
  | .ok t'=>attrsT l t'
def dupT:List (List UInt8 × List UInt8)→List (List UInt8 × List UInt8)→Bool
 | _,[]=>false
 | seen,a::l=>(seen.any fun b=>b.1==a.1)||dupT (seen++[a]) l
def startT (t:TSt) (x:Ev):Except Nat TSt:=
 if allowedS 1 x.name []=false then .error 1
 else if(x.attrs.all fun a=>allowedS 2 a.1 a.2)=false then .error 1
 else if dupT [] x.attrs=true then .error 4
 else match t.add 1 x.name []with
  | .error e => .error e
  | .ok t1=>attrsT x.attrs { t1 with op:=t.l.length,deep:=t.deep+1 }
def nd0:Nd:=⟨0,[],[],-1⟩
def TSt.cur (t:TSt):Nd:=t.l.getD t.op nd0
def endT (t:TSt) (x:Ev):Except Nat TSt:=
 if isNameS x.name=false then .error 1
 else if t.cur.kind≠1∨t.cur.name≠x.name then .error 110
 else .ok { t with op:=t.cur.up.toNat,deep:=t.deep-1 }
def TSt.last (t:TSt):Nd:=t.l.getD (t.l.length-1) nd0
def textT (t:TSt) (x:Ev):Except Nat TSt:=
 if isTextS x.text=false then .error 1
 else if x.text=[]then .ok t
 else if t.last.kind=3∧t.last.up=t.op then
  (if 1048576<t.bytes+x.text.length then .error 2
  else .ok { t with l:=t.l.dropLast++[{ t.last with text:=t.last.text++x.text }],bytes:=t.bytes+x.text.length })
 else t.add 3 [] x.text
def otherT (t:TSt) (kind:Nat) (name text:List UInt8):Except Nat TSt:=
 if allowedS kind name text=false then .error 1 else t.add kind name text
def eventT (t:TSt) (x:Ev):Except Nat TSt:=
 match x.kind with
 | 0=>startT t x
 | 1=>endT t x
 | 2=>textT t x
 | 3=>otherT t 4 [] x.text
 | 4=>otherT t 5 x.name x.text
 | _ => .error 1
def foldT:List Ev→TSt→Except Nat TSt
 | [],t => .ok t
 | x::l,t=>match eventT t x with
  | .error e => .error e
  | .ok t'=>foldT l t'
def t0T:TSt:=⟨[nd0],0,1,0⟩
def buildS (l:List Ev):Except Nat (List Nd):=
 match foldT l t0T with
 | .error e => .error e
 | .ok t=>if t.op≠0 then .error 110 else .ok t.l
def htmlS (text:List UInt8):Except Nat (List Nd):=
 if 1048576<text.length then .error 2
 else if isTextS text=false then .error 10
 else match eventsHS text with
  | .error e => .error e
  | .ok l=>buildS l
structure TOk (t:TSt):Prop where
 op:t.op<t.l.length
 up:∀(i:Nat) (n:Nd),t.l[i]?=some n→n.kind=1→0≤n.up∧n.up<t.l.length
 len:t.l.length≤65536
 bytes:t.bytes≤1048576
theorem TOk.init:TOk t0T:=⟨by decide,fun i n h hk=>by
 match i,h with
 | 0,h=>simp[t0T]at h;subst h;cases hk
 | i+1,h=>simp[t0T]at h,by decide,by decide⟩
theorem TOk.add {t t':TSt} {kind:Nat} {name text:List UInt8} (h:TOk t) (e:t.add kind name text = .ok t'):TOk t'∧t'.op=t.op∧t'.deep=t.deep∧t'.l.length=t.l.length+1:=by
 unfold TSt.add at e
 split at e
 ·cases e
 ·rename_i hn
  cases e
  refine⟨⟨?_,?_,?_,?_⟩,rfl,rfl,by simp⟩
  ·have:=h.op
   simp only[List.length_append,List.length_cons,List.length_nil]
   omega
  ·intro i n hi hk
   have h1:=h.op
   simp only[List.length_append,List.length_cons,List.length_nil]
   by_cases hl:i<t.l.length
   ·rw[List.getElem?_append_left hl]at hi
    have:=h.up i n hi hk
    omega
   ·rw[List.getElem?_append_right (by omega)]at hi
    match h0:i-t.l.length,hi with
    | 0,hi=>
     simp only[List.getElem?_cons_zero,Option.some.injEq]at hi
     rw[←hi]
     simp only
     omega
    | k+1,hi=>simp at hi
  ·simp only[List.length_append,List.length_cons,List.length_nil]
   omega
  ·simp only
   omega
theorem TOk.attrs:∀(l:List (List UInt8 × List UInt8)) {t t':TSt},TOk t→attrsT l t = .ok t'→TOk t'∧t'.op=t.op∧t'.deep=t.deep∧t'.l.length=t.l.length+l.length
 | [],t,t',h,e=>by cases e;exact⟨h,rfl,rfl,rfl⟩
 | a::l,t,t',h,e=>by
  simp only[attrsT]at e
  split at e
  ·cases e
  ·rename_i t1 h1
   obtain⟨a1,a2,a3,a4⟩:=h.add h1
   obtain⟨b1,b2,b3,b4⟩:=TOk.attrs l a1 e
   exact⟨b1,b2.trans a2,b3.trans a3,by rw[b4,a4,List.length_cons];omega⟩
theorem TOk.start {t t':TSt} {x:Ev} (h:TOk t) (e:startT t x = .ok t'):TOk t'∧t'.deep=t.deep+1:=by
 unfold startT at e
 split at e
 ·cases e
 split at e
 ·cases e
 split at e
 ·cases e
 split at e
 ·cases e
 rename_i t1 h1
 obtain⟨a1,a2,a3,a4⟩:=h.add h1
 have hh:TOk { t1 with op:=t.l.length,deep:=t.deep+1 }:=⟨by simp only;omega,a1.up,a1.len,a1.bytes⟩
 obtain⟨b1,b2,b3,b4⟩:=TOk.attrs _ hh e
 exact⟨b1,b3⟩
theorem TOk.curE {t:TSt} (h:TOk t):t.l[t.op]?=some t.cur:=by
 unfold TSt.cur
 rw[List.getD_eq_getElem?_getD,List.getElem?_eq_getElem h.op]
 rfl
theorem TOk.lastE {t:TSt} (h:TOk t):t.l[t.l.length-1]?=some t.last:=by
 have:=h.op
 unfold TSt.last
 rw[List.getD_eq_getElem?_getD,List.getElem?_eq_getElem (by omega)]
 rfl
theorem TOk.end {t t':TSt} {x:Ev} (h:TOk t) (e:endT t x = .ok t'):TOk t'∧t'.deep=t.deep-1:=by
 unfold endT at e
 split at e
 ·cases e
 split at e
 ·cases e
 rename_i hn
 cases e
 have:=h.up _ _ h.curE (by omega)
 exact⟨⟨by simp only;omega,h.up,h.len,h.bytes⟩,rfl⟩
theorem TOk.text {t t':TSt} {x:Ev} (h:TOk t) (e:textT t x = .ok t'):TOk t'∧t'.deep=t.deep:=by
 unfold textT at e
 split at e
 ·cases e
 split at e
 ·cases e;exact⟨h,rfl⟩
 split at e
 ·rename_i h3
  split at e
  ·cases e
  ·cases e
   have h0:=h.op
   have hl:(t.l.dropLast++[{ t.last with text:=t.last.text++x.text }]).length=t.l.length:=by
    simp only[List.length_append,List.length_dropLast,List.length_cons,List.length_nil]
    omega
   refine⟨⟨?_,?_,?_,?_⟩,rfl⟩
   ·simp only;rw[hl];exact h0
   ·intro i n hi hk
    simp only at hi ⊢
    rw[hl]
    by_cases hlt:i<t.l.length-1
    ·rw[List.getElem?_append_left (by simp;omega),List.getElem?_dropLast,if_pos hlt]at hi
     exact h.up i n hi hk
    ·rw[List.getElem?_append_right (by simp;omega)]at hi
     match h0:i-t.l.dropLast.length,hi with
     | 0,hi=>
      simp only[List.getElem?_cons_zero,Option.some.injEq]at hi
      subst hi
      simp only at hk
      omega
     | k+1,hi=>simp at hi
   ·simp only;rw[hl];exact h.len
   ·simp only;omega
 ·have:=h.add e
  exact⟨this.1,this.2.2.1⟩
theorem TOk.event {t t':TSt} {x:Ev} (h:TOk t) (e:eventT t x = .ok t'):TOk t'∧t.deep-1≤t'.deep∧t'.deep≤t.deep+1:=by
 unfold eventT otherT at e
 split at e
 ·have:=h.start e;exact⟨this.1,by omega,by omega⟩
 ·have:=h.end e;exact⟨this.1,by omega,by omega⟩
 ·have:=h.text e;exact⟨this.1,by omega,by omega⟩
 ·split at e
  ·cases e
  ·have:=h.add e;exact⟨this.1,by omega,by omega⟩
 ·split at e
  ·cases e
  ·have:=h.add e;exact⟨this.1,by omega,by omega⟩
 ·cases e
end Go.Ab
