/- Two HTML texts, one after the other: tags and pieces. -/
import Derived.Test.YtojncnpmlhhccaaGreatDoorPL1
set_option linter.all false
namespace Go.Ab
open Go Go.Lib
theorem unescS_app {x:List UInt8} (y:List UInt8) (h:(unescS x).2=true):unescS (x++y)=((unescS x).1++(unescS y).1,(unescS y).2)∨((unescS (x++y)).2=false∧(unescS y).2=false):=by
 have h1:=unescL_app y _ x [] (Nat.le_refl _) h
 have acc:∀(n:Nat) (s a b:List UInt8),s.length≤n→(unescL s (a++b)).2=(unescL s b).2∧((unescL s b).2=true→(unescL s (a++b)).1=a++(unescL s b).1):=by
  intro n
  induction n with
  | zero=>
   intro s a b hs
   have:s=[]:=List.length_eq_zero_iff.1 (by omega)
   subst this
   rw[unescL_step,unescL_step [] b,cut1_nil]
   simp
  | succ n ih=>
   intro s a b hs
   rw[unescL_step,unescL_step s b]
   split
   ·rename_i g1
    have b1:=cut_found g1
    simp only[List.length_cons,List.length_nil]at b1
    split
    ·rename_i g2
     have b2:=cut_found g2.1
     simp only[List.length_cons,List.length_nil]at b2
     have:=ih (Lib.cut (Lib.cut s [38]).2.1 [59]).2.1 a (b++(Lib.cut s [38]).1++(refHS (Lib.cut (Lib.cut s [38]).2.1 [59]).1).1) (by omega)
     simpa only[List.append_assoc]using this
    ·exact⟨rfl,fun h=>by cases h⟩
   ·simp
 obtain⟨h2,h3⟩:=acc _ y (unescS x).1 [] (Nat.le_refl _)
 rw[List.append_nil]at h2 h3
 have h1:unescS (x++y)=unescL y (unescS x).1:=h1
 cases hy:(unescL y []).2 with
 | true=>
  left
  rw[h1]
  refine Prod.ext (h3 hy) ?_
  exact h2
 | false=>
  right
  rw[h1]
  exact⟨h2.trans hy,hy⟩
theorem attrHS_app {u:List UInt8} (r:List UInt8) {c:UInt8} {v:List UInt8} (h:(attrHS u).2.2=true) (hd:u.drop (attrHS u).2.1=c::v) (hc:c≠61):attrHS (u++r)=attrHS u:=by
 have hb:=attrHS_bound h
 have hlt:(attrHS u).2.1<u.length:=by
  have:=congrArg List.length hd
  simp only[List.length_drop,List.length_cons]at this
  omega
 have hn:uptoS u [32,62,61]≤(attrHS u).2.1:=by
  unfold attrHS at h ⊢
  simp only at h ⊢
  split
  ·rename_i h1
   rw[if_pos h1]at h
   split
   ·rename_i h2
    rw[if_pos h2]at h
    split
    ·simp only;omega
    ·rename_i h3
     rw[if_neg h3]at h;cases h
   ·exact Nat.le_refl _
  ·rename_i h1
   rw[if_neg h1]at h;cases h
 have hu:=upto_app (stop:=[32,62,61]) r u (by omega)
 unfold attrHS at h hd ⊢
 simp only at h hd ⊢
 rw[hu,List.take_append_of_le_length (by omega),List.drop_append_of_le_length (by omega)]
 split
 ·rename_i h1
  rw[if_pos h1]at h hd
  by_cases h2:Lib.hasPrefix (u.drop (uptoS u [32,62,61])) [61,34]=true
  ·have hl:=hasPrefix_len h2
   simp only[List.length_cons,List.length_nil,List.length_drop]at hl
   rw[if_pos h2]at h
   rw[if_pos h2,prefix_app' r h2,if_pos rfl,List.drop_append_of_le_length (by omega)]
   split at h
   ·rename_i h3
    rw[cut_app r (by simp) h3.1]
    simp only[true_and]
    rw[if_pos h3.2,if_pos h3]
   ·cases h
  ·rw[if_neg h2]at h hd ⊢
   simp only at hd
   have h4:Lib.hasPrefix (u.drop (uptoS u [32,62,61])++r) [61,34]=false:=by
    rw[hd]
    simp[Lib.hasPrefix,List.isPrefixOf,Ne.symm hc]
   rw[h4]
   simp
 ·rfl
theorem tagHL_app {s:List UInt8} (r:List UInt8):∀(n k:Nat) (l:List (List UInt8 × List UInt8)) (tw:Bool) {x},s.length-k≤n→k≤s.length→tagHL s k l tw=some x→Lib.hasPrefix (s.drop x.1) [62]=true→tagHL (s++r) k l tw=some x∧∃c v,s.drop k=c::v∧c≠61
 | n,k,l,tw,x,hn,hk,h,hx=>by
  rw[tagHL_step]at h ⊢
  split at h
  ·rename_i hp
   have hl:=hasPrefix_len hp
   simp only[List.length_cons,List.length_nil,List.length_drop]at hl
   have hpa:Lib.hasPrefix ((s++r).drop k) [32]=true:=by rw[List.drop_append_of_le_length hk];exact prefix_app' r hp
   have hcv:∃c v,s.drop k=c::v∧c≠61:=by
    cases hs:s.drop k with
    | nil=>rw[hs]at hp;exact absurd hp (by simp[Lib.hasPrefix])
    | cons c v=>
     refine⟨c,v,rfl,?_⟩
     rw[hs]at hp
     simp[Lib.hasPrefix,List.isPrefixOf]at hp
     rw[←hp];decide
   rw[if_pos hpa]
   split at h
   ·rename_i ha
    have hb:=attrHS_bound ha
    simp only[List.length_drop]at hb
    cases n with
    | zero=>omega
    | succ n=>
     obtain⟨g1,c,v,g2,g3⟩:=tagHL_app r n _ _ _ (by omega) (by omega) h hx
     have hat:attrHS ((s++r).drop (k+1))=attrHS (s.drop (k+1)):=by
      rw[List.drop_append_of_le_length (by omega)]
      exact attrHS_app r ha (c:=c) (v:=v) (by rw[List.drop_drop];exact g2) g3
     rw[hat,if_pos ha]
     exact⟨g1,hcv⟩
   ·cases h
  ·rename_i hp
   cases h
   simp only at hx
   have hl:=hasPrefix_len hx
   simp only[List.length_cons,List.length_nil,List.length_drop]at hl
   cases hs:s.drop k with
   | nil=>rw[hs]at hx;exact absurd hx (by simp[Lib.hasPrefix])
   | cons c v=>
    rw[hs]at hx
    simp[Lib.hasPrefix,List.isPrefixOf]at hx
    have hpa:Lib.hasPrefix ((s++r).drop k) [32]=false:=by
     rw[List.drop_append_of_le_length hk,hs,←hx]
     simp[Lib.hasPrefix,List.isPrefixOf]
    rw[hpa]
    exact⟨by simp,c,v,rfl,by rw[←hx];decide⟩
theorem startHS_app {s:List UInt8} (r:List UInt8) {x:Ev × Nat × Bool} (h:startHS s=some x):startHS (s++r)=some x∧∃c d v,s=c::d::v∧d≠47∧d≠33∧d≠63:=by
 unfold startHS at h ⊢
 simp only at h ⊢
 have hu:=uptoS_le (s.drop 1) [32,62]
 split at h
 case isFalse=>cases h
 rename_i hn
 have hne:=nameS_ne hn
 have h2:((s.take (1+uptoS (s.drop 1) [32,62])).drop 1).length≠0:=fun e=>hne (List.length_eq_zero_iff.1 e)
 simp only[List.length_take,List.length_drop]at h2 hu
 split at h
 ·cases h
 rename_i k2 l tw ht
 split at h
 case isFalse=>cases h
 rename_i hp
 have hlp:=hasPrefix_len hp
 simp only[List.length_cons,List.length_nil,List.length_drop]at hlp
 have hkb:=tagHF_bound _ _ _ _ _ (by omega) ht
 change 1+uptoS (s.drop 1) [32,62]≤k2∧k2≤s.length∧l.length+(1+uptoS (s.drop 1) [32,62])≤0+k2 at hkb
 obtain⟨g1,_⟩:=tagHL_app r _ _ _ _ (Nat.le_refl _) (by omega) ht hp
 have hup:uptoS ((s++r).drop 1) [32,62]=uptoS (s.drop 1) [32,62]:=by
  rw[List.drop_append_of_le_length (by omega)]
  exact upto_app r _ (by rw[List.length_drop];omega)
 rw[hup,List.take_append_of_le_length (by omega),if_pos hn,g1]
 simp only
 rw[List.drop_append_of_le_length (by omega),prefix_app' r hp,if_pos rfl]
 refine⟨h,?_⟩
 match s,h2,hn with
 | [],h2,_=>simp at h2
 | [_],h2,_=>simp at h2
 | c::d::v,h2,hn=>
  simp only[List.drop_succ_cons,List.drop_zero]at hn h2
  cases hk:uptoS (d::v) [32,62]with
  | zero=>rw[hk]at h2;simp at h2
  | succ n=>
   rw[hk,show 1+(n+1)=n+1+1 by omega,List.take_succ_cons,List.take_succ_cons,List.drop_succ_cons,List.drop_zero]at hn
   have:=nameS_head hn
   exact⟨c,d,v,rfl,this.1,this.2.1,this.2.2.1⟩
theorem endHS_app {s:List UInt8} (r:List UInt8) {x:List UInt8 × List UInt8} (h:endHS s=some x):endHS (s++r)=some (x.1,x.2++r):=by
 unfold endHS at h ⊢
 simp only at h ⊢
 split at h
 case isFalse=>cases h
 rename_i hh
 rw[trim_app r hh.1,cut_app r (by simp) hh.2.1,prefix_app' r hh.1]
 simp only[true_and]
 rw[if_pos hh.2.2]
 cases h
 rfl
theorem commentHS_app {s:List UInt8} (r:List UInt8) {x:List UInt8 × List UInt8} (h:commentHS s=some x):commentHS (s++r)=some (x.1,x.2++r):=by
 unfold commentHS at h ⊢
 simp only at h ⊢
 split at h
 case isFalse=>cases h
 rename_i hh
 have hl:=hasPrefix_len hh.2.2
 simp only[List.length_cons,List.length_nil]at hl
 rw[trim_app r hh.1,cut_app r (by simp[sDash]) hh.2.1,prefix_app' r hh.1]
 simp only[true_and]
 rw[if_pos (prefix_app' r hh.2.2),List.drop_append_of_le_length (by omega)]
 cases h
 rfl
theorem instrHS_app {s:List UInt8} (r:List UInt8) {x:List UInt8 × List UInt8 × List UInt8} (h:instrHS s=some x):instrHS (s++r)=some (x.1,x.2.1,x.2.2++r):=by
 unfold instrHS at h ⊢
 simp only at h ⊢
 split at h
 case isFalse=>cases h
 rename_i hh
 rw[trim_app r hh.1,cut_app r (by simp) hh.2.1,prefix_app' r hh.1]
 simp only[true_and]
 rw[if_pos hh.2.2]
 cases h
 rfl
theorem two_of_prefix {s:List UInt8} {a b:UInt8} {q:List UInt8} (h:Lib.hasPrefix s (a::b::q)=true):∃v,s=a::b::v:=by
 match s,h with
 | [],h=>simp[Lib.hasPrefix,List.isPrefixOf]at h
 | [_],h=>simp[Lib.hasPrefix,List.isPrefixOf]at h
 | c::d::v,h=>
  simp[Lib.hasPrefix,List.isPrefixOf]at h
  exact⟨v,by rw[h.1,h.2.1]⟩
theorem pieceHS_app {h h':HSt} (r:List UInt8) (e:pieceHS h = .ok h') :
  pieceHS { h with s:=h.s++r } = .ok { h' with s:=h'.s++r } ∨
  ((∀c∈h.s,c≠60)∧rawNow h=false∧(unescS h.s).2=true∧h'=h.add 2 [] (unescS h.s).1 []):=by
 have hraw:∀(hl:2≤h.s.length),rawNow { h with s:=h.s++r }=rawNow h:=fun hl=>by
  unfold rawNow
  simp only
  rw[prefix_app r (show([60,47]:List UInt8).length≤h.s.length from hl)]
 have hraw1:(∀hl:h.l.getLast?.map (fun x=>x.kind==0&&isRawS x.name)≠some true,rawNow { h with s:=h.s++r }=false∧rawNow h=false):=fun hl=>by
  unfold rawNow
  simp only
  cases hg:h.l.getLast? with
  | none=>exact⟨rfl,rfl⟩
  | some x=>
   rw[hg]at hl
   simp only[Option.map_some,ne_eq,Option.some.injEq,Bool.not_eq_true]at hl
   simp only
   rw[hl]
   exact⟨rfl,rfl⟩
 unfold pieceHS at e
 split at e
 ·rename_i hr
  split at e
  ·cases e
  rename_i hi
  cases e
  left
  have hroom:=Lib.index_room h.s [60,47] (by omega)
  simp only[List.length_cons,List.length_nil]at hroom
  unfold pieceHS
  rw[hraw (by omega),if_pos hr]
  simp only
  rw[index_app r (by simp) h.s (by omega),if_neg hi,List.take_append_of_le_length (by omega),List.drop_append_of_le_length (by omega)]
  rfl
 rename_i hr
 split at e
 ·rename_i h60
  split at e
  case isFalse=>cases e
  rename_i hu
  cases hc:(Lib.cut h.s [60]).2.2 with
  | false=>
   right
   obtain⟨e1,e2⟩:=cut1_none 60 h.s hc
   rw[e1]at e hu
   rw[List.drop_length]at e
   exact⟨fun c hc2=>cut1_no 60 h.s c (by rw[e1];exact hc2),by simpa using hr,hu,by cases e;rfl⟩
  | true=>
   left
   have hcf:=cut_found hc
   simp only[List.length_cons,List.length_nil]at hcf
   have h0:(h.s++r).getD 0 0=h.s.getD 0 0:=by
    rw[List.getD_eq_getElem?_getD,List.getD_eq_getElem?_getD,List.getElem?_append_left (by omega)]
   have hr2:rawNow { h with s:=h.s++r }=false:=by
    rcases Nat.lt_or_ge h.s.length 2 with hlt | hge
    ·exfalso
     obtain⟨e1,e2,e3,e4⟩:=cut1_rest 60 h.s hc
     have:(Lib.cut h.s [60]).1.length=0:=by omega
     rw[this]at e4
     exact h60 e4
    ·rw[hraw hge];simpa using hr
   unfold pieceHS
   rw[hr2,if_neg (by simp)]
   simp only
   rw[h0,if_pos h60,cut_app r (by simp) hc]
   simp only
   rw[if_pos hu,List.drop_append_of_le_length (by omega)]
   cases e
   rfl
 rename_i h60
 left
 have h60:h.s.getD 0 0=60:=by simpa using h60
 have hs1:∃t,h.s=60::t:=by
  cases hs:h.s with
  | nil=>rw[hs]at h60;exact absurd h60 (by decide)
  | cons a t=>rw[hs]at h60;simp at h60;exact⟨t,by rw[h60]⟩
 obtain⟨t,ht⟩:=hs1
 have go:2≤h.s.length→pieceHS { h with s:=h.s++r }=(match endHS (h.s++r)with
  | some (name,rest)=>if h.opens.getLast?=some name then .ok { ({ h with s:=h.s++r }:HSt).add 1 name [] rest with opens:=h.opens.dropLast } else .error 110
  | none=>match commentHS (h.s++r)with
   | some (text,rest) => .ok (({ h with s:=h.s++r }:HSt).add 3 [] text rest)
   | none=>match instrHS (h.s++r)with
    | some (name,text,rest) => .ok (({ h with s:=h.s++r }:HSt).add 4 name text rest)
    | none=>match startHS (h.s++r)with
     | none => .error 5
     | some (x,k,tw)=>
      if tw=true then .error 4
      else if isVoidS x.name=true then .ok { h with s:=(h.s++r).drop k,l:=h.l++[x,⟨1,x.name,[],[],0,0⟩] }
      else .ok { s:=(h.s++r).drop k,l:=h.l++[x],opens:=h.opens++[x.name] }):=fun hl=>by
  unfold pieceHS
  rw[hraw hl,if_neg hr]
  simp only
  rw[if_neg (by rw[ht];simp)]
  rfl
 split at e
 ·rename_i name rest he
  have hb:=endHS_bound he
  simp only at hb
  rw[go (by omega),endHS_app r he]
  simp only
  split at e
  ·rename_i ho
   rw[if_pos ho]
   cases e
   rfl
  ·cases e
 split at e
 ·rename_i text rest he
  have hb:=commentHS_bound he
  simp only at hb
  have hp:Lib.hasPrefix h.s sCom=true:=by
   by_cases hp:Lib.hasPrefix h.s sCom=true
   ·exact hp
   ·rw[commentHS_no (by simpa using hp)]at he;cases he
  obtain⟨v,hv⟩:=two_of_prefix hp
  rw[go (by omega),endHS_no (by rw[hv];simp[Lib.hasPrefix,List.isPrefixOf]),commentHS_app r he]
  cases e
  rfl
 rename_i hcom
 split at e
 ·rename_i name text rest he
  have hb:=instrHS_bound he
  simp only at hb
  have hp:Lib.hasPrefix h.s [60,63]=true:=by
   by_cases hp:Lib.hasPrefix h.s [60,63]=true
   ·exact hp
   ·rw[instrHS_no (by simpa using hp)]at he;cases he
  obtain⟨v,hv⟩:=two_of_prefix hp
  rw[go (by omega),endHS_no (by rw[hv];simp[Lib.hasPrefix,List.isPrefixOf]),commentHS_no (by rw[hv];simp[Lib.hasPrefix,List.isPrefixOf,sCom]),instrHS_app r he]
  cases e
  rfl
 split at e
 ·cases e
 rename_i x k tw he
 obtain⟨g1,c,d,v,g2,g3,g4,g5⟩:=startHS_app r he
 have hb:=startHS_bound he
 simp only at hb
 rw[go (by omega),endHS_no (by rw[g2];simp[Lib.hasPrefix,List.isPrefixOf,Ne.symm g3]),commentHS_no (by rw[g2];simp[Lib.hasPrefix,List.isPrefixOf,sCom,Ne.symm g4]),instrHS_no (by rw[g2];simp[Lib.hasPrefix,List.isPrefixOf,Ne.symm g5]),g1]
 simp only
 split at e
 ·cases e
 rename_i htw
 rw[if_neg htw]
 split at e
 ·rename_i hv
  rw[if_pos hv,List.drop_append_of_le_length (by omega)]
  cases e
  rfl
 ·rename_i hv
  rw[if_neg hv,List.drop_append_of_le_length (by omega)]
  cases e
  rfl
end Go.Ab
