/- Facts on what reparse.HTML computes: fuel, steps, bounds. What tree.Build computes, on lists. -/
import Derived.Test.YtojncnpmlhhccaaGreatDoorH1
import Derived.Test.YtojncnpmlhhccaaGreatDoorWC
import Derived.Lib.MapU
import Derived.Lib.IndexAny
set_option linter.all false
namespace Go.Ab
open Go Go.Lib
theorem unescF_fuel:∀(f g:Nat) (s acc:List UInt8),s.length<f→s.length<g→unescF f s acc=unescF g s acc
 | 0,_,_,_,h,_=>absurd h (Nat.not_lt_zero _)
 | _,0,_,_,_,h=>absurd h (Nat.not_lt_zero _)
 | f+1,g+1,s,acc,hf,hg=>by
  simp only[unescF]
  split
  ·rename_i h1
   have b1:=cut_found h1
   split
   ·rename_i h2
    have b2:=cut_found h2.1
    simp only[List.length_cons,List.length_nil]at b1 b2
    exact unescF_fuel f g _ _ (by omega) (by omega)
   ·rfl
  ·rfl
theorem unescL_step (s acc:List UInt8):unescL s acc =
  if(Lib.cut s [38]).2.2=true then
   (if(Lib.cut (Lib.cut s [38]).2.1 [59]).2.2=true∧(refHS (Lib.cut (Lib.cut s [38]).2.1 [59]).1).2=true then unescL (Lib.cut (Lib.cut s [38]).2.1 [59]).2.1 (acc++(Lib.cut s [38]).1++(refHS (Lib.cut (Lib.cut s [38]).2.1 [59]).1).1)else([],false))
  else(acc++(Lib.cut s [38]).1,true):=by
 conv=>lhs;unfold unescL
 simp only[unescF]
 split
 ·rename_i h1
  have b1:=cut_found h1
  split
  ·rename_i h2
   have b2:=cut_found h2.1
   simp only[List.length_cons,List.length_nil]at b1 b2
   exact unescF_fuel _ _ _ _ (by omega) (by omega)
  ·rfl
 ·rfl
theorem refHS_len {name:List UInt8} (h:(refHS name).2=true):(refHS name).1.length≤name.length+2:=by
 unfold refHS at h ⊢
 split
 ·have:=entityS_len name
  simp only
  omega
 ·rename_i h2
  rw[if_neg h2]at h
  split
  ·simp
  ·rename_i n hn
   have h1:=numS_len hn
   have h2:(charS n).1.length≤4:=by
    unfold charS
    split
    ·exact encodeRune_len _
    ·simp
   omega
theorem cut_len (s p:List UInt8):(Lib.cut s p).1.length≤s.length:=by
 unfold Lib.cut
 split
 ·simp only[List.length_take];omega
 ·exact Nat.le_refl _
theorem unescF_len:∀(f:Nat) (s acc:List UInt8),(unescF f s acc).1.length≤acc.length+s.length
 | 0,s,acc=>by simp only[unescF];omega
 | f+1,s,acc=>by
  simp only[unescF]
  split
  ·rename_i h1
   have b1:=cut_found h1
   split
   ·rename_i h2
    have b2:=cut_found h2.1
    have b3:=refHS_len h2.2
    have:=unescF_len f (Lib.cut (Lib.cut s [38]).2.1 [59]).2.1 (acc++(Lib.cut s [38]).1++(refHS (Lib.cut (Lib.cut s [38]).2.1 [59]).1).1)
    simp only[List.length_cons,List.length_nil]at b1 b2
    simp only[List.length_append]at this ⊢
    omega
   ·simp
  ·have:=cut_len s [38]
   simp only[List.length_append]
   omega
theorem unescS_len (s:List UInt8):(unescS s).1.length≤s.length:=by
 have:=unescF_len (s.length+1) s []
 simpa[unescS,unescL]using this
theorem uptoS_le (s stop:List UInt8):uptoS s stop≤s.length:=(List.takeWhile_prefix _).length_le
theorem uptoS_step {s:List UInt8} {i:Nat} (stop:List UInt8) (hi:i<s.length):uptoS (s.drop i) stop=if stop.contains s[i]=true then 0 else uptoS (s.drop (i+1)) stop+1:=by
 unfold uptoS
 rw[List.drop_eq_getElem_cons hi,List.takeWhile_cons]
 cases h:stop.contains s[i]with
 | true=>simp
 | false=>simp
theorem uptoS_end {s:List UInt8} {i:Nat} (stop:List UInt8) (hi:s.length≤i):uptoS (s.drop i) stop=0:=by
 unfold uptoS
 rw[List.drop_eq_nil_of_le hi]
 rfl
theorem nameS_ne {s:List UInt8} (h:isNameS s=true):s≠[]:=by
 rintro rfl
 revert h
 decide
theorem attrHS_bound {s:List UInt8} (h:(attrHS s).2.2=true):1≤(attrHS s).2.1∧(attrHS s).2.1≤s.length∧(attrHS s).1.1.length≤(attrHS s).2.1∧(attrHS s).1.2.length≤(attrHS s).2.1:=by
 unfold attrHS at h ⊢
 simp only at h ⊢
 have hu:=uptoS_le s [32,62,61]
 split at h
 case isFalse=>simp at h
 rename_i hn
 rw[if_pos hn]
 have h1:1≤uptoS s [32,62,61]:=by
  have:=nameS_ne hn
  have h2:(s.take (uptoS s [32,62,61])).length≠0:=fun e=>this (List.length_eq_zero_iff.1 e)
  simp only[List.length_take]at h2
  omega
 split at h
 ·rename_i hp
  rw[if_pos hp]
  split at h
  case isFalse=>simp at h
  rename_i hc
  rw[if_pos hc]
  have b1:=cut_found hc.1
  have b2:=unescS_len (Lib.cut (s.drop (uptoS s [32,62,61]+2)) [34]).1
  simp only[List.length_cons,List.length_nil,List.length_drop]at b1
  simp only[List.length_take]
  omega
 ·rename_i hp
  rw[if_neg hp]
  simp only[List.length_take]
  omega
theorem tagHF_fuel (s:List UInt8):∀(f g k:Nat) (l:List (List UInt8 × List UInt8)) (tw:Bool),s.length-k<f→s.length-k<g→tagHF f s k l tw=tagHF g s k l tw
 | 0,_,_,_,_,h,_=>absurd h (Nat.not_lt_zero _)
 | _,0,_,_,_,_,h=>absurd h (Nat.not_lt_zero _)
 | f+1,g+1,k,l,tw,hf,hg=>by
  simp only[tagHF]
  split
  ·rename_i hp
   have:=hasPrefix_len hp
   simp only[List.length_cons,List.length_nil,List.length_drop]at this
   split
   ·rename_i ha
    exact tagHF_fuel s f g _ _ _ (by omega) (by omega)
   ·rfl
  ·rfl
theorem tagHL_step (s:List UInt8) (k:Nat) (l:List (List UInt8 × List UInt8)) (tw:Bool):tagHL s k l tw =
  if Lib.hasPrefix (s.drop k) [32]=true then
   (if(attrHS (s.drop (k+1))).2.2=true then tagHL s (k+1+(attrHS (s.drop (k+1))).2.1) (l++[(attrHS (s.drop (k+1))).1]) (tw||l.any fun a=>a.1==(attrHS (s.drop (k+1))).1.1)else none)
  else some (k,l,tw):=by
 conv=>lhs;unfold tagHL
 simp only[tagHF]
 split
 ·rename_i hp
  have:=hasPrefix_len hp
  simp only[List.length_cons,List.length_nil,List.length_drop]at this
  split
  ·rename_i ha
   exact tagHF_fuel s _ _ _ _ _ (by omega) (by omega)
  ·rfl
 ·rfl
theorem tagHF_bound {s:List UInt8}:∀(f k:Nat) (l:List (List UInt8 × List UInt8)) (tw:Bool) (x),k≤s.length→tagHF f s k l tw=some x→k≤x.1∧x.1≤s.length∧x.2.1.length+k≤l.length+x.1
 | 0,_,_,_,_,_,h=>by simp[tagHF]at h
 | f+1,k,l,tw,x,hk,h=>by
  simp only[tagHF]at h
  split at h
  ·rename_i hp
   have hp:=hasPrefix_len hp
   simp only[List.length_cons,List.length_nil,List.length_drop]at hp
   split at h
   ·rename_i ha
    have hb:=attrHS_bound ha
    simp only[List.length_drop]at hb
    have:=tagHF_bound f _ _ _ x (by omega) h
    simp only[List.length_append,List.length_cons,List.length_nil]at this
    omega
   ·cases h
  ·cases h
   exact⟨Nat.le_refl _,hk,Nat.le_refl _⟩
theorem startHS_bound {s:List UInt8} {x:Ev × Nat × Bool} (h:startHS s=some x):2≤x.2.1∧x.2.1≤s.length∧x.1.attrs.length≤s.length∧x.1.kind=0:=by
 unfold startHS at h
 simp only at h
 have hu:=uptoS_le (s.drop 1) [32,62]
 simp only[List.length_drop]at hu
 split at h
 case isFalse=>cases h
 rename_i hn
 have hne:=nameS_ne hn
 have h2:((s.take (1+uptoS (s.drop 1) [32,62])).drop 1).length≠0:=fun e=>hne (List.length_eq_zero_iff.1 e)
 simp only[List.length_take,List.length_drop]at h2
 split at h
 ·cases h
 rename_i k2 l tw ht
 have hb:=tagHF_bound _ _ _ _ _ (by omega) ht
 change 1+uptoS (s.drop 1) [32,62]≤k2∧k2≤s.length∧l.length+(1+uptoS (s.drop 1) [32,62])≤0+k2 at hb
 split at h
 ·rename_i hp
  have hp:=hasPrefix_len hp
  simp only[List.length_cons,List.length_nil,List.length_drop]at hp
  cases h
  exact⟨show 2≤k2+1 by omega,show k2+1≤s.length by omega,show l.length≤s.length by omega,rfl⟩
 ·cases h
theorem trimPrefix_len {s p:List UInt8} (h:Lib.hasPrefix s p=true):(Lib.trimPrefix s p).length+p.length=s.length:=by
 have:=hasPrefix_len h
 unfold Lib.trimPrefix
 rw[if_pos h,List.length_drop]
 omega
theorem endHS_bound {s:List UInt8} {x:List UInt8 × List UInt8} (h:endHS s=some x):x.2.length+x.1.length+3=s.length∧1≤x.1.length:=by
 unfold endHS at h
 simp only at h
 split at h
 case isFalse=>cases h
 rename_i hh
 have h1:=trimPrefix_len hh.1
 have h2:=cut_found hh.2.1
 have h3:(Lib.cut (Lib.trimPrefix s [60,47]) [62]).1.length≠0:=fun e=>nameS_ne hh.2.2 (List.length_eq_zero_iff.1 e)
 simp only[List.length_cons,List.length_nil]at h1 h2
 cases h
 simp only
 omega
theorem commentHS_bound {s:List UInt8} {x:List UInt8 × List UInt8} (h:commentHS s=some x):x.2.length+x.1.length+7=s.length:=by
 unfold commentHS at h
 simp only at h
 split at h
 case isFalse=>cases h
 rename_i hh
 have h1:=trimPrefix_len hh.1
 have h2:=cut_found hh.2.1
 have h3:=hasPrefix_len hh.2.2
 simp only[List.length_cons,List.length_nil,sCom,sDash]at h1 h2 h3
 cases h
 simp only[List.length_drop,sCom,sDash]
 omega
theorem instrHS_bound {s:List UInt8} {x:List UInt8 × List UInt8 × List UInt8} (h:instrHS s=some x):x.2.2.length+x.1.length+x.2.1.length+3≤s.length∧1≤x.1.length:=by
 unfold instrHS at h
 simp only at h
 split at h
 case isFalse=>cases h
 rename_i hh
 have h1:=trimPrefix_len hh.1
 have h2:=cut_found hh.2.1
 have h3:(Lib.cut (Lib.cut (Lib.trimPrefix s [60,63]) [62]).1 [32]).1.length≠0:=fun e=>nameS_ne hh.2.2.1 (List.length_eq_zero_iff.1 e)
 have h4:(Lib.cut (Lib.cut (Lib.trimPrefix s [60,63]) [62]).1 [32]).2.1.length+(Lib.cut (Lib.cut (Lib.trimPrefix s [60,63]) [62]).1 [32]).1.length≤(Lib.cut (Lib.trimPrefix s [60,63]) [62]).1.length:=by
  cases hc:(Lib.cut (Lib.cut (Lib.trimPrefix s [60,63]) [62]).1 [32]).2.2 with
  | true=>have:=cut_found hc;omega
  | false=>
   generalize (Lib.cut (Lib.trimPrefix s [60,63]) [62]).1=t at hc
   unfold Lib.cut at hc ⊢
   split at hc
   ·cases hc
   ·rename_i h0
    rw[if_neg h0]
    simp
 simp only[List.length_cons,List.length_nil]at h1 h2
 cases h
 simp only
 omega
theorem pieceHS_less {h h':HSt} (hne:h.s≠[]) (e:pieceHS h = .ok h'):h'.s.length<h.s.length∧h'.l.length≤h.l.length+2∧h'.opens.length≤h.opens.length+1:=by
 have h0:h.s.length≠0:=fun e=>hne (List.length_eq_zero_iff.1 e)
 unfold pieceHS at e
 split at e
 ·rename_i hr
  split at e
  ·cases e
  ·rename_i hi
   cases e
   have hr2:=Lib.index_room h.s [60,47] (by omega)
   have hk:(Lib.index h.s [60,47]).toNat≠0:=by
    intro e0
    unfold rawNow at hr
    split at hr
    ·cases hr
    ·simp only[Bool.and_eq_true]at hr
     rcases Lib.index_spec h.s [60,47]with ⟨e1,_⟩ | ⟨m,e1,_,e3,_⟩
     ·omega
     ·have:m=0:=by omega
      subst this
      unfold Lib.occAt at e3
      rw[List.drop_zero]at e3
      have e4:Lib.hasPrefix h.s [60,47]=true:=e3
      rw[e4]at hr
      simp at hr
   simp only[HSt.add,List.length_append,List.length_cons,List.length_nil,List.length_drop]
   omega
 split at e
 ·rename_i h60
  split at e
  ·cases e
   have hc:(Lib.cut h.s [60]).1.length≠0:=by
    intro e0
    have hcf:0<h.s.length:=by omega
    unfold Lib.cut at e0
    split at e0
    ·rename_i hi
     rcases Lib.index_spec h.s [60]with ⟨e1,_⟩ | ⟨m,e1,e2,e3,_⟩
     ·omega
     ·simp only[List.length_take]at e0
      have:m=0:=by omega
      subst this
      unfold Lib.occAt at e3
      obtain⟨b,t,hbt⟩:=cons_of hne
      rw[List.drop_zero,hbt]at e3
      rw[hbt]at h60
      simp[Lib.hasPrefix]at e3
      apply h60
      simp[e3]
    ·exact h0 e0
   simp only[HSt.add,List.length_append,List.length_cons,List.length_nil,List.length_drop]
   omega
  ·cases e
 split at e
 ·rename_i name rest he
  have:=endHS_bound he
  simp only at this
  split at e
  ·cases e
   simp only[HSt.add,List.length_append,List.length_cons,List.length_nil,List.length_dropLast]
   omega
  ·cases e
 split at e
 ·rename_i he
  have:=commentHS_bound he
  simp only at this
  cases e
  simp only[HSt.add,List.length_append,List.length_cons,List.length_nil]
  omega
 split at e
 ·rename_i he
  have:=instrHS_bound he
  simp only at this
  cases e
  simp only[HSt.add,List.length_append,List.length_cons,List.length_nil]
  omega
 split at e
 ·cases e
 rename_i x k tw he
 have:=startHS_bound he
 simp only at this
 split at e
 ·cases e
 split at e
 ·cases e
  simp only[List.length_append,List.length_cons,List.length_nil,List.length_drop]
  omega
 ·cases e
  simp only[List.length_append,List.length_cons,List.length_nil,List.length_drop]
  omega
theorem readHF_fuel:∀(f g:Nat) (h:HSt),h.s.length<f→h.s.length<g→readHF f h=readHF g h
 | 0,_,_,h,_=>absurd h (Nat.not_lt_zero _)
 | _,0,_,_,h=>absurd h (Nat.not_lt_zero _)
 | f+1,g+1,h,hf,hg=>by
  simp only[readHF]
  split
  ·rfl
  ·rename_i hne
   split
   ·rfl
   ·rename_i h' he
    have:=pieceHS_less hne he
    exact readHF_fuel f g h' (by omega) (by omega)
theorem readHL_step (h:HSt):readHL h=if h.s=[]then(if h.opens=[]then .ok h.l else .error 110)else match pieceHS h with
  | .error e => .error e
  | .ok h'=>readHL h':=by
 conv=>lhs;unfold readHL
 simp only[readHF]
 split
 ·rfl
 ·rename_i hne
  split
  ·rename_i he;rw[he]
  ·rename_i h' he
   rw[he]
   have:=pieceHS_less hne he
   exact readHF_fuel _ _ h' (by omega) (by omega)
theorem endHS_no {s:List UInt8} (h:Lib.hasPrefix s [60,47]=false):endHS s=none:=by
 unfold endHS
 simp[h]
theorem commentHS_no {s:List UInt8} (h:Lib.hasPrefix s sCom=false):commentHS s=none:=by
 unfold commentHS
 simp[h]
theorem instrHS_no {s:List UInt8} (h:Lib.hasPrefix s [60,63]=false):instrHS s=none:=by
 unfold instrHS
 simp[h]
end Go.Ab
namespace Go.Ab
open Go Go.Lib
structure Nd where
 kind:Nat
 name:List UInt8
 text:List UInt8
 up:Int
deriving DecidableEq
structure TSt where
 l:List Nd
 op:Nat
 deep:Int
 bytes:Nat
def allowedS (kind:Nat) (name text:List UInt8):Bool:=
 isTextS text&&match kind with
  | 0=>name==[]&&text==[]
  | 1=>isNameS name&&text==[]
  | 2=>isNameS name
  | 3=>name==[]&&text != []
  | 4=>name==[] && !Lib.contains text sDash && !Lib.hasSuffix text [45]
  | 5=>isNameS name&&Lib.toLowerD name != [120,109,108] && !Lib.contains text [63,62] && !Lib.containsAny (text.take (min 1 text.length)) [32,9,13,10]
  | _=>false
def TSt.add (t:TSt) (kind:Nat) (name text:List UInt8):Except Nat TSt:=
 if 65536≤t.l.length∨(kind≠2∧200≤t.deep)∨1048576<t.bytes+text.length then .error 2
 else .ok { t with l:=t.l++[⟨kind,name,text,t.op⟩],bytes:=t.bytes+text.length }
def attrsT:List (List UInt8 × List UInt8)→TSt→Except Nat TSt
 | [],t => .ok t
 | a::l,t=>match t.add 2 a.1 a.2 with
  | .error e => .error e
  | .ok t'=>attrsT l t'
def dupT:List (List UInt8 × List UInt8)→List (List UInt8 × List UInt8)→Bool
 | _,[]=>false
 | seen,a::l=>(seen.any fun b=>b.1==a.1)||dupT (seen++[a]) l
def startT (t:TSt) (x:Ev):Except Nat TSt:=
 if allowedS 1 x.name []=false then .error 1
 else if(x.attrs.all fun a=>allowedS 2 a.1 a.2)=false then .error 1
 else if dupT [] x.attrs=true then .error 4
 else match t.add 1 x.name []with
  | .error e => .error e
  | .ok t1=>attrsT x.attrs { t1 with op:=t.l.length,deep:=t.deep+1 }
def nd0:Nd:=⟨0,[],[],-1⟩
def TSt.cur (t:TSt):Nd:=t.l.getD t.op nd0
def endT (t:TSt) (x:Ev):Except Nat TSt:=
 if isNameS x.name=false then .error 1
 else if t.cur.kind≠1∨t.cur.name≠x.name then .error 110
 else .ok { t with op:=t.cur.up.toNat,deep:=t.deep-1 }
def TSt.last (t:TSt):Nd:=t.l.getD (t.l.length-1) nd0
def textT (t:TSt) (x:Ev):Except Nat TSt:=
 if isTextS x.text=false then .error 1
 else if x.text=[]then .ok t
 else if t.last.kind=3∧t.last.up=t.op then
  (if 1048576<t.bytes+x.text.length then .error 2
  else .ok { t with l:=t.l.dropLast++[{ t.last with text:=t.last.text++x.text }],bytes:=t.bytes+x.text.length })
 else t.add 3 [] x.text
def otherT (t:TSt) (kind:Nat) (name text:List UInt8):Except Nat TSt:=
 if allowedS kind name text=false then .error 1 else t.add kind name text
def eventT (t:TSt) (x:Ev):Except Nat TSt:=
 match x.kind with
 | 0=>startT t x
 | 1=>endT t x
 | 2=>textT t x
 | 3=>otherT t 4 [] x.text
 | 4=>otherT t 5 x.name x.text
 | _ => .error 1
def foldT:List Ev→TSt→Except Nat TSt
 | [],t => .ok t
 | x::l,t=>match eventT t x with
  | .error e => .error e
  | .ok t'=>foldT l t'
def t0T:TSt:=⟨[nd0],0,1,0⟩
def buildS (l:List Ev):Except Nat (List Nd):=
 match foldT l t0T with
 | .error e => .error e
 | .ok t=>if t.op≠0 then .error 110 else .ok t.l
def htmlS (text:List UInt8):Except Nat (List Nd):=
 if 1048576<text.length then .error 2
 else if isTextS text=false then .error 10
 else match eventsHS text with
  | .error e => .error e
  | .ok l=>buildS l
structure TOk (t:TSt):Prop where
 op:t.op<t.l.length
 up:∀(i:Nat) (n:Nd),t.l[i]?=some n→n.kind=1→0≤n.up∧n.up<t.l.length
 len:t.l.length≤65536
 bytes:t.bytes≤1048576
theorem TOk.init:TOk t0T:=⟨by decide,fun i n h hk=>by
 match i,h with
 | 0,h=>simp[t0T]at h;subst h;cases hk
 | i+1,h=>simp[t0T]at h,by decide,by decide⟩
theorem TOk.add {t t':TSt} {kind:Nat} {name text:List UInt8} (h:TOk t) (e:t.add kind name text = .ok t'):TOk t'∧t'.op=t.op∧t'.deep=t.deep∧t'.l.length=t.l.length+1:=by
 unfold TSt.add at e
 split at e
 ·cases e
 ·rename_i hn
  cases e
  refine⟨⟨?_,?_,?_,?_⟩,rfl,rfl,by simp⟩
  ·have:=h.op
   simp only[List.length_append,List.length_cons,List.length_nil]
   omega
  ·intro i n hi hk
   have h1:=h.op
   simp only[List.length_append,List.length_cons,List.length_nil]
   by_cases hl:i<t.l.length
   ·rw[List.getElem?_append_left hl]at hi
    have:=h.up i n hi hk
    omega
   ·rw[List.getElem?_append_right (by omega)]at hi
    match h0:i-t.l.length,hi with
    | 0,hi=>
     simp only[List.getElem?_cons_zero,Option.some.injEq]at hi
     rw[←hi]
     simp only
     omega
    | k+1,hi=>simp at hi
  ·simp only[List.length_append,List.length_cons,List.length_nil]
   omega
  ·simp only
   omega
theorem TOk.attrs:∀(l:List (List UInt8 × List UInt8)) {t t':TSt},TOk t→attrsT l t = .ok t'→TOk t'∧t'.op=t.op∧t'.deep=t.deep∧t'.l.length=t.l.length+l.length
 | [],t,t',h,e=>by cases e;exact⟨h,rfl,rfl,rfl⟩
 | a::l,t,t',h,e=>by
  simp only[attrsT]at e
  split at e
  ·cases e
  ·rename_i t1 h1
   obtain⟨a1,a2,a3,a4⟩:=h.add h1
   obtain⟨b1,b2,b3,b4⟩:=TOk.attrs l a1 e
   exact⟨b1,b2.trans a2,b3.trans a3,by rw[b4,a4,List.length_cons];omega⟩
theorem TOk.start {t t':TSt} {x:Ev} (h:TOk t) (e:startT t x = .ok t'):TOk t'∧t'.deep=t.deep+1:=by
 unfold startT at e
 split at e
 ·cases e
 split at e
 ·cases e
 split at e
 ·cases e
 split at e
 ·cases e
 rename_i t1 h1
 obtain⟨a1,a2,a3,a4⟩:=h.add h1
 have hh:TOk { t1 with op:=t.l.length,deep:=t.deep+1 }:=⟨by simp only;omega,a1.up,a1.len,a1.bytes⟩
 obtain⟨b1,b2,b3,b4⟩:=TOk.attrs _ hh e
 exact⟨b1,b3⟩
theorem TOk.curE {t:TSt} (h:TOk t):t.l[t.op]?=some t.cur:=by
 unfold TSt.cur
 rw[List.getD_eq_getElem?_getD,List.getElem?_eq_getElem h.op]
 rfl
theorem TOk.lastE {t:TSt} (h:TOk t):t.l[t.l.length-1]?=some t.last:=by
 have:=h.op
 unfold TSt.last
 rw[List.getD_eq_getElem?_getD,List.getElem?_eq_getElem (by omega)]
 rfl
theorem TOk.end {t t':TSt} {x:Ev} (h:TOk t) (e:endT t x = .ok t'):TOk t'∧t'.deep=t.deep-1:=by
 unfold endT at e
 split at e
 ·cases e
 split at e
 ·cases e
 rename_i hn
 cases e
 have:=h.up _ _ h.curE (by omega)
 exact⟨⟨by simp only;omega,h.up,h.len,h.bytes⟩,rfl⟩
theorem TOk.text {t t':TSt} {x:Ev} (h:TOk t) (e:textT t x = .ok t'):TOk t'∧t'.deep=t.deep:=by
 unfold textT at e
 split at e
 ·cases e
 split at e
 ·cases e;exact⟨h,rfl⟩
 split at e
 ·rename_i h3
  split at e
  ·cases e
  ·cases e
   have h0:=h.op
   have hl:(t.l.dropLast++[{ t.last with text:=t.last.text++x.text }]).length=t.l.length:=by
    simp only[List.length_append,List.length_dropLast,List.length_cons,List.length_nil]
    omega
   refine⟨⟨?_,?_,?_,?_⟩,rfl⟩
   ·simp only;rw[hl];exact h0
   ·intro i n hi hk
    simp only at hi ⊢
    rw[hl]
    by_cases hlt:i<t.l.length-1
    ·rw[List.getElem?_append_left (by simp;omega),List.getElem?_dropLast,if_pos hlt]at hi
     exact h.up i n hi hk
    ·rw[List.getElem?_append_right (by simp;omega)]at hi
     match h0:i-t.l.dropLast.length,hi with
     | 0,hi=>
      simp only[List.getElem?_cons_zero,Option.some.injEq]at hi
      subst hi
      simp only at hk
      omega
     | k+1,hi=>simp at hi
   ·simp only;rw[hl];exact h.len
   ·simp only;omega
 ·have:=h.add e
  exact⟨this.1,this.2.2.1⟩
theorem TOk.event {t t':TSt} {x:Ev} (h:TOk t) (e:eventT t x = .ok t'):TOk t'∧t.deep-1≤t'.deep∧t'.deep≤t.deep+1:=by
 unfold eventT otherT at e
 split at e
 ·have:=h.start e;exact⟨this.1,by omega,by omega⟩
 ·have:=h.end e;exact⟨this.1,by omega,by omega⟩
 ·have:=h.text e;exact⟨this.1,by omega,by omega⟩
 ·split at e
  ·cases e
  ·have:=h.add e;exact⟨this.1,by omega,by omega⟩
 ·split at e
  ·cases e
  ·have:=h.add e;exact⟨this.1,by omega,by omega⟩
 ·cases e
end Go.Ab
