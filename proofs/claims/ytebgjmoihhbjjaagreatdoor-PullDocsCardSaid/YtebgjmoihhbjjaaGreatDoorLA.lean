/- The pieces of the reference are those of the program: comments, character data, declarations, instructions. The reference's processing instruction is the program's. The reference's text and rows are the program's. The reference's rows and pieces are the program's. What the reference reads is what the program reads, but for the places. Places in a valid text. Where pieces and events end: at characters. The events of the program, one after the other, are those that the reference reads, with their places. -/
import Derived.Test.YtebgjmoihhbjjaaGreatDoorRD
import Derived.Test.YtebgjmoihhbjjaaGreatDoorT0
set_option linter.all false
namespace Go.Ab
open Go Go.Lib
theorem cut_eq (s p:List UInt8):Lib.cut s p=if 0≤Lib.index s p then(s.take (Lib.index s p).toNat,s.drop ((Lib.index s p).toNat+p.length),true)else(s,[],false):=by
 unfold Lib.cut
 rfl
theorem insideR_cut (s:List UInt8) (i:Nat) (first last:List UInt8):insideR s i first last =
  if Lib.hasPrefix (s.drop i) first=true∧(Lib.cut ((s.drop i).drop first.length) last).2.2=true then((Lib.cut ((s.drop i).drop first.length) last).1,((i+first.length+(Lib.cut ((s.drop i).drop first.length) last).1.length+last.length:Nat):Int))else([],-1):=by
 unfold insideR
 rw[List.drop_drop,cut_eq]
 by_cases h:0≤Lib.index (s.drop (i+first.length)) last
 ·have hr:=Lib.index_room (s.drop (i+first.length)) last h
  rw[if_pos h]
  by_cases hp:Lib.hasPrefix (s.drop i) first=true
  ·rw[if_pos ⟨hp,h⟩,if_pos ⟨hp,rfl⟩]
   simp only[List.length_take]
   congr 1
   omega
  ·rw[if_neg (fun hh=>hp hh.1),if_neg (fun hh=>hp hh.1)]
 ·rw[if_neg h,if_neg (fun hh=>h hh.2),if_neg (by simp)]
theorem pre_two {l:List UInt8} {a b:UInt8} {p q:List UInt8} (h:Lib.hasPrefix l (a::p)=true) (h2:Lib.hasPrefix l (b::q)=true):a=b:=by
 cases l with
 | nil=>simp[Lib.hasPrefix]at h
 | cons c l=>
  simp only[Lib.hasPrefix,List.isPrefixOf,Bool.and_eq_true,beq_iff_eq]at h h2
  rw[h.1,h2.1]
theorem pre_second {l:List UInt8} {x a b:UInt8} {p q:List UInt8} (h:Lib.hasPrefix l (x::a::p)=true) (h2:Lib.hasPrefix l (x::b::q)=true):a=b:=by
 cases l with
 | nil=>simp[Lib.hasPrefix]at h
 | cons c l=>
  simp only[Lib.hasPrefix,List.isPrefixOf,Bool.and_eq_true,beq_iff_eq]at h h2
  exact pre_two (l:=l) (by simp only[Lib.hasPrefix];exact h.2) (by simp only[Lib.hasPrefix];exact h2.2)
theorem pre_third {l:List UInt8} {x y a b:UInt8} {p q:List UInt8} (h:Lib.hasPrefix l (x::y::a::p)=true) (h2:Lib.hasPrefix l (x::y::b::q)=true):a=b:=by
 cases l with
 | nil=>simp[Lib.hasPrefix]at h
 | cons c l=>
  simp only[Lib.hasPrefix,List.isPrefixOf,Bool.and_eq_true,beq_iff_eq]at h h2
  exact pre_second (l:=l) (x:=y) (by simp only[Lib.hasPrefix,List.isPrefixOf,Bool.and_eq_true,beq_iff_eq];exact h.2) (by simp only[Lib.hasPrefix,List.isPrefixOf,Bool.and_eq_true,beq_iff_eq];exact h2.2)
theorem com_not_cdata {l:List UInt8} (h:Lib.hasPrefix l sCom=true):Lib.hasPrefix l sCdata=false:=by
 rw[Bool.eq_false_iff]
 intro h2
 exact absurd (pre_third h h2) (by decide)
theorem com_not_pi {l:List UInt8} (h:Lib.hasPrefix l sCom=true):Lib.hasPrefix l [60,63]=false:=by
 rw[Bool.eq_false_iff]
 intro h2
 exact absurd (pre_second h h2) (by decide)
theorem cdata_not_pi {l:List UInt8} (h:Lib.hasPrefix l sCdata=true):Lib.hasPrefix l [60,63]=false:=by
 rw[Bool.eq_false_iff]
 intro h2
 exact absurd (pre_second h h2) (by decide)
theorem xml_pi {l:List UInt8} (h:Lib.hasPrefix l sXml=true):Lib.hasPrefix l [60,63]=true:=by
 simp only[Lib.hasPrefix,List.isPrefixOf_iff_prefix]at h ⊢
 exact List.IsPrefix.trans ⟨[120,109,108],rfl⟩ h
def instrR (s:List UInt8) (i:Nat):Option Pc:=
 let t:=insideR s i [60,63] [63,62]
 let k:=nameR t.1 0
 if t.2<0∨k=0∨(t.1.take k).map lowC=[120,109,108]∨(k<t.1.length∧isW (t.1.getD k 0)=false)then none
 else some ⟨⟨4,t.1.take k,t.1.drop (skipN t.1 k),[],0,0⟩,t.2.toNat,false,false,false,false⟩
theorem otherP_com {s:List UInt8} {i:Nat} (h:(commentS s i).2.2=true):otherP s i=some ⟨⟨3,[],(commentS s i).1,[],0,0⟩,(commentS s i).2.1,false,false,false,false⟩:=by
 unfold commentS at h ⊢
 split at h
 case isFalse=>simp at h
 rename_i hp
 rw[if_pos hp]
 simp only[Bool.and_eq_true]at h
 unfold otherP
 simp only
 have hi:=insideR_cut s i sCom sDash
 rw[if_pos ⟨hp,h.1⟩]at hi
 rw[hi,if_pos (by omega)]
 have hc:=cut_eq ((s.drop i).drop sCom.length) sDash
 have hpre:=h.2
 by_cases hx:0≤Lib.index ((s.drop i).drop sCom.length) sDash
 ·rw[if_pos hx]at hc
  have hr:=Lib.index_room _ _ hx
  change Lib.hasPrefix (Lib.cut ((s.drop i).drop sCom.length) sDash).2.1 [62]=true at hpre
  rw[hc]at hpre
  change(if Lib.hasPrefix (s.drop _) [62]=true then _ else _)=some (Pc.mk ⟨3,[],(Lib.cut ((s.drop i).drop sCom.length) sDash).1,[],0,0⟩ (i+4+(Lib.cut ((s.drop i).drop sCom.length) sDash).1.length+3) false false false false)
  rw[hc]
  simp only[Int.toNat_natCast]
  have e:((s.drop i).drop sCom.length).take (Lib.index ((s.drop i).drop sCom.length) sDash).toNat=((s.drop i).drop sCom.length).take (Lib.index ((s.drop i).drop sCom.length) sDash).toNat:=rfl
  have el:(((s.drop i).drop sCom.length).take (Lib.index ((s.drop i).drop sCom.length) sDash).toNat).length=(Lib.index ((s.drop i).drop sCom.length) sDash).toNat:=by
   rw[List.length_take]
   omega
  rw[el,if_pos]
  ·rfl
  ·simp only[List.drop_drop]at hpre ⊢
   rw[←hpre]
   congr 2
 ·have:(Lib.cut ((s.drop i).drop 4) sDash).2.2=false:=by
   change(Lib.cut ((s.drop i).drop sCom.length) sDash).2.2=false
   rw[hc,if_neg hx]
  rw[this]at h
  cases h.1
theorem otherP_dash {s:List UInt8} {i:Nat} (h:(commentS s i).2.2=false) (hp:Lib.hasPrefix (s.drop i) sCom=true):otherP s i=none:=by
 have h':=h
 unfold commentS at h'
 rw[if_pos hp]at h'
 simp only at h'
 unfold otherP
 simp only
 have hi:=insideR_cut s i sCom sDash
 by_cases hc2:(Lib.cut ((s.drop i).drop sCom.length) sDash).2.2=true
 ·rw[if_pos ⟨hp,hc2⟩]at hi
  rw[hi,if_pos (by omega),if_neg]
  have hc:=cut_eq ((s.drop i).drop sCom.length) sDash
  by_cases hx:0≤Lib.index ((s.drop i).drop sCom.length) sDash
  ·rw[if_pos hx]at hc
   have hr:=Lib.index_room _ _ hx
   change((Lib.cut ((s.drop i).drop sCom.length) sDash).2.2&&Lib.hasPrefix (Lib.cut ((s.drop i).drop sCom.length) sDash).2.1 [62])=false at h'
   rw[hc]at h' ⊢
   simp only[Bool.true_and,Int.toNat_natCast]at h' ⊢
   have el:(((s.drop i).drop sCom.length).take (Lib.index ((s.drop i).drop sCom.length) sDash).toNat).length=(Lib.index ((s.drop i).drop sCom.length) sDash).toNat:=by
    rw[List.length_take]
    omega
   rw[el]
   simp only[List.drop_drop]at h' ⊢
   rw[Bool.not_eq_true,←h']
   congr 2
  ·rw[hc,if_neg hx]at hc2
   cases hc2
 ·rw[if_neg (fun hh=>hc2 hh.2)]at hi
  rw[hi,if_neg (by simp)]
  have h1:=insideR_cut s i sCdata sCend
  rw[if_neg (fun hh=>by rw[com_not_cdata hp]at hh;cases hh.1)]at h1
  have h2:=insideR_cut s i sXml [63,62]
  rw[if_neg (fun hh=>by have:=xml_pi hh.1;rw[com_not_pi hp]at this;cases this)]at h2
  have h3:=insideR_cut s i [60,63] [63,62]
  rw[if_neg (fun hh=>by rw[com_not_pi hp]at hh;cases hh.1)]at h3
  rw[h1,if_neg (by simp),h2,if_neg (by simp),h3,if_pos (by simp)]
theorem otherP_rest {s:List UInt8} {i:Nat} (hp:Lib.hasPrefix (s.drop i) sCom=false):otherP s i =
  if(cdataS s i).2.2=true then some ⟨⟨2,[],(cdataS s i).1,[],0,0⟩,(cdataS s i).2.1,false,true,true,false⟩
  else if i=0∧0<declS s then some ⟨⟨0,[],[],[],0,0⟩,(declS s).toNat,false,false,false,true⟩
  else instrR s i:=by
 unfold otherP
 simp only
 have hi:=insideR_cut s i sCom sDash
 rw[if_neg (fun hh=>by rw[hp]at hh;cases hh.1)]at hi
 rw[hi,if_neg (by simp)]
 have h1:=insideR_cut s i sCdata sCend
 by_cases hc:(cdataS s i).2.2=true
 ·rw[if_pos hc]
  have hc':=hc
  unfold cdataS at hc' ⊢
  split at hc'
  case isFalse=>simp at hc'
  rename_i hpc
  rw[if_pos hpc]
  rw[if_pos ⟨hpc,hc'⟩]at h1
  rw[h1,if_pos (by omega)]
  simp only[Int.toNat_natCast]
  rfl
 ·rw[if_neg hc]
  have hc':¬(Lib.hasPrefix (s.drop i) sCdata=true∧(Lib.cut ((s.drop i).drop sCdata.length) sCend).2.2=true):=by
   rintro⟨ha,hb⟩
   apply hc
   unfold cdataS
   rw[if_pos ha]
   exact hb
  rw[if_neg hc']at h1
  rw[h1,if_neg (by simp)]
  have hx:(0≤(insideR s i sXml [63,62]).2∧i=0∧isW (s.getD 5 0)=true)↔(i=0∧0<declS s):=by
   unfold insideR declS
   constructor
   ·rintro⟨ha,rfl,hw⟩
    refine⟨rfl,?_⟩
    split at ha
    ·rename_i hh
     rw[List.drop_zero]at hh
     have h5:s.length≠5:=by
      intro h5
      rw[List.getD_eq_getElem?_getD,List.getElem?_eq_none (by omega)]at hw
      cases hw
     have this:0≤Lib.index (s.drop 5) [63,62]:=hh.2
     rw[if_pos ⟨hh.1,h5,hw⟩,if_pos this]
     omega
    ·simp at ha
   ·rintro⟨rfl,hd⟩
    split at hd
    ·rename_i hh
     split at hd
     ·rename_i hh2
      rw[List.drop_zero,if_pos ⟨hh.1,hh2⟩]
      refine⟨?_,rfl,hh.2.2⟩
      have:(0:Int)≤Lib.index (s.drop (0+sXml.length)) [63,62]:=hh2
      simp only
      omega
     ·omega
    ·omega
  by_cases hd:i=0∧0<declS s
  ·rw[if_pos hd,if_pos (hx.2 hd)]
   obtain⟨rfl,hd⟩:=hd
   congr 2
   unfold declS at hd ⊢
   unfold insideR
   split at hd
   ·rename_i hh
    split at hd
    ·rename_i hh2
     rw[if_pos hh,if_pos hh2,List.drop_zero,if_pos ⟨hh.1,hh2⟩]
     simp only[sXml,List.length_cons,List.length_nil,Nat.zero_add,Nat.reduceAdd]
     have:(0:Int)≤Lib.index (s.drop 5) [63,62]:=hh2
     omega
    ·omega
   ·omega
  ·rw[if_neg hd,if_neg (fun hh=>hd (hx.1 hh))]
   rfl
end Go.Ab
namespace Go.Ab
open Go Go.Lib
theorem takeWhile_stop {P:UInt8→Bool} {c:UInt8} (hc:P c=false) (r:List UInt8):∀l:List UInt8,(l++c::r).takeWhile P=l.takeWhile P
 | []=>by simp[hc]
 | a::l=>by
  cases h:P a with
  | true=>rw[List.cons_append,List.takeWhile_cons_of_pos h,List.takeWhile_cons_of_pos h,takeWhile_stop hc r l]
  | false=>rw[List.cons_append,List.takeWhile_cons_of_neg (by simp[h]),List.takeWhile_cons_of_neg (by simp[h])]
theorem low_is (x d u:UInt8) (h1:d.toNat=u.toNat+32) (h2:65≤u.toNat) (h3:u.toNat≤90):lowC x=d↔(x==d||x==u)=true:=by
 simp only[Bool.or_eq_true,beq_iff_eq]
 unfold lowC
 split
 ·rename_i h
  rw[←UInt8.toNat_inj,←UInt8.toNat_inj,←UInt8.toNat_inj,UInt8.toNat_add]
  have:(32:UInt8).toNat=32:=rfl
  omega
 ·rename_i h
  rw[←UInt8.toNat_inj,←UInt8.toNat_inj]
  omega
theorem lowC_xml (l:List UInt8):l.map lowC=[120,109,108]↔isXmlS l=true:=by
 have k1:=fun c=>low_is c 120 88 rfl (by decide) (by decide)
 have k2:=fun c=>low_is c 109 77 rfl (by decide) (by decide)
 have k3:=fun c=>low_is c 108 76 rfl (by decide) (by decide)
 match l with
 | []=>simp[isXmlS]
 | [a]=>simp[isXmlS]
 | [a,b]=>simp[isXmlS]
 | [a,b,c]=>
  simp only[List.map_cons,List.map_nil,List.cons.injEq,and_true,isXmlS,Bool.and_eq_true]
  rw[k1,k2,k3]
  constructor
  ·rintro⟨x,y,z⟩;exact⟨⟨x,y⟩,z⟩
  ·rintro⟨⟨x,y⟩,z⟩;exact⟨x,y,z⟩
 | a::b::c::d::l=>simp[isXmlS]
theorem stopsPi:∀c∈([63]:List UInt8),stopC c=true:=by intro c hc;simp at hc;subst hc;exact stop63
theorem instrR_eq {s:List UInt8} {i:Nat} (hi:i≤s.length):instrR s i =
  if(instrS s i).2.2.2=true then some ⟨⟨4,(instrS s i).1,(instrS s i).2.1,[],0,0⟩,(instrS s i).2.2.1,false,false,false,false⟩else none:=by
 by_cases hp:Lib.hasPrefix (s.drop i) [60,63]=true
 case neg=>
  have h3:=insideR_cut s i [60,63] [63,62]
  rw[if_neg (fun hh=>hp hh.1)]at h3
  unfold instrR instrS
  simp only
  rw[h3,if_pos (Or.inl (by simp)),if_neg hp,if_neg (by simp)]
 have hpl:=hasPrefix_len hp
 simp only[List.length_drop,List.length_cons,List.length_nil]at hpl
 generalize hb:i+2=b
 have hbl:b≤s.length:=by omega
 rcases Lib.index_spec (s.drop b) [63,62]with ⟨hn,hno⟩ | ⟨m,hm,hml,hocc,hno⟩
 ·have h3:insideR s i [60,63] [63,62]=([],-1):=by
   unfold insideR
   rw[if_neg]
   rintro⟨_,hh⟩
   simp only[List.length_cons,List.length_nil,Nat.zero_add,Nat.reduceAdd]at hh
   rw[hb,hn]at hh
   omega
  unfold instrR
  simp only
  rw[h3,if_pos (Or.inl (by simp)),if_neg]
  unfold instrS
  rw[if_pos hp]
  simp only
  split
  ·rw[if_pos]
   ·simp
   ·left
    rw[hb]
    have hu:=untilN_ge s b [63]
    have hul:=untilN_le [63] hbl
    have hs1:=skipN_ge s (untilN s b [63])
    have hs2:=skipN_le hul
    generalize skipN s (untilN s b [63])=f at hs1 hs2
    have hd:=Lib.index_drop (s:=s.drop b) (sub:=[63,62]) (i:=f-b) (fun j hj=>hno j (by simp only[List.length_drop];omega)) (by simp only[List.length_drop];omega)
    rw[hn,List.drop_drop,show b+(f-b)=f by omega]at hd
    split at hd
    ·rename_i hh
     simp only[beq_iff_eq]at hh
     omega
    ·have:=Lib.index_ge (s.drop f) [63,62]
     omega
  ·simp
 ·simp only[List.length_drop]at hml
  have hroom:=Lib.index_room (s.drop b) [63,62] (by omega)
  simp only[List.length_drop,List.length_cons,List.length_nil]at hroom
  have hmb:b+m+2≤s.length:=by omega
  have hpre:Lib.hasPrefix ((s.drop b).drop m) [63,62]=true:=by
   have:=hocc
   unfold Lib.occAt at this
   simpa[Lib.hasPrefix]using this
  obtain⟨r,hr⟩:∃r,(s.drop b).drop m=63::r:=by
   cases hd:(s.drop b).drop m with
   | nil=>rw[hd]at hpre;simp[Lib.hasPrefix]at hpre
   | cons c r=>
    rw[hd]at hpre
    simp only[Lib.hasPrefix,List.isPrefixOf,Bool.and_eq_true,beq_iff_eq]at hpre
    exact⟨r,by rw[←hpre.1]⟩
  have h3:insideR s i [60,63] [63,62]=((s.drop b).take m,((b+m+2:Nat):Int)):=by
   unfold insideR
   simp only[List.length_cons,List.length_nil,Nat.zero_add,Nat.reduceAdd]
   rw[hb,hm,if_pos ⟨hp,by omega⟩]
   simp only[Int.toNat_natCast]
   congr 1
   omega
  unfold instrR
  simp only
  rw[h3]
  simp only[Int.toNat_natCast]
  have hsplit:s.drop b=(s.drop b).take m++63::r:=by rw[←hr,List.take_append_drop]
  have htl:((s.drop b).take m).length=m:=by rw[List.length_take,List.length_drop];omega
  generalize ht:(s.drop b).take m=t at hsplit htl
  have hun:untilN s b [63]=b+untilN t 0 [63]:=by
   unfold untilN
   rw[hsplit,takeWhile_stop (by decide),List.drop_zero,Nat.zero_add]
  have hsk:∀k,k≤m→skipN s (b+k)=b+skipN t k:=fun k hk=>by
   unfold skipN
   rw[show s.drop (b+k)=(s.drop b).drop k by rw[List.drop_drop],hsplit,List.drop_append_of_le_length (by omega),takeWhile_stop (by decide)]
   omega
  have hk0:untilN t 0 [63]≤m:=by have:=untilN_le (s:=t) (i:=0) [63] (Nat.zero_le _);omega
  have hnm:(s.take (b+untilN t 0 [63])).drop b=t.take (untilN t 0 [63]):=by
   rw[←List.take_drop,hsplit,List.take_append_of_le_length (by omega)]
  unfold instrS
  rw[if_pos hp]
  simp only
  rw[hb,hun,hnm]
  rcases token (s:=t) (i:=0) (Nat.zero_le _) stopsPi with ⟨h1,h2,h4⟩ | ⟨h1,h2⟩
  ·rw[List.drop_zero]at h1
   rw[h2]
   generalize untilN t 0 [63]=k0 at *
   have hf1:=skipN_ge t k0
   have hf2:=skipN_le (s:=t) (i:=k0) (by omega)
   rw[hsk k0 hk0]
   have hix:Lib.index (s.drop (b+skipN t k0)) [63,62]=((m-skipN t k0:Nat):Int):=by
    have hd:=Lib.index_drop (s:=s.drop b) (sub:=[63,62]) (i:=skipN t k0) (fun j hj=>hno j (by omega)) (by simp only[List.length_drop];omega)
    rw[hm,List.drop_drop]at hd
    split at hd
    ·omega
    ·omega
   rw[hix]
   by_cases hx:isXmlS (t.take k0)=true
   ·rw[if_pos (Or.inr (Or.inr (Or.inl ((lowC_xml _).2 hx)))),if_neg (c:=isNameS _=true∧_) (by simp[hx]),if_neg (by simp)]
   ·have hx':isXmlS (t.take k0)=false:=by simpa using hx
    rw[if_pos (c:=isNameS _=true∧_) ⟨h1,hx'⟩]
    by_cases hbad:k0<t.length∧isW (t.getD k0 0)=false
    ·rw[if_pos (Or.inr (Or.inr (Or.inr hbad)))]
     have hfk:skipN t k0=k0:=skipN_at (drop_getD hbad.1) hbad.2
     rw[hfk,if_pos (Or.inr ⟨by omega,rfl⟩),if_neg (by simp)]
    ·have hL:¬(((b+m+2:Nat):Int)<0∨k0=0∨(t.take k0).map lowC=[120,109,108]∨(k0<t.length∧isW (t.getD k0 0)=false)):=by
      rintro(hh | hh | hh | hh)
      ·omega
      ·omega
      ·exact hx ((lowC_xml _).1 hh)
      ·exact hbad hh
     have hR:¬(((m-skipN t k0:Nat):Int)<0∨(0<((m-skipN t k0:Nat):Int)∧b+skipN t k0=b+k0)):=by
      rintro(hh | ⟨h5,h6⟩)
      ·omega
      ·apply hbad
       refine⟨by omega,?_⟩
       have h7:skipN t k0=k0:=by omega
       have h8:k0<t.length:=by omega
       cases hw:isW (t.getD k0 0)with
       | false=>rfl
       | true=>
        have h9:t[k0]=t.getD k0 0:=by rw[List.getD_eq_getElem?_getD,List.getElem?_eq_getElem h8];rfl
        have:=skipN_step h8 (by rw[h9];exact hw)
        have:=skipN_ge t (k0+1)
        omega
     rw[if_neg hL,if_neg hR,if_pos rfl]
     simp only[Int.toNat_natCast]
     rw[show b+skipN t k0+(m-skipN t k0)=b+m by omega,←List.drop_drop,←List.take_drop,ht]
  ·rw[List.drop_zero]at h1
   have hL:((b+m+2:Nat):Int)<0∨nameR t 0=0∨(t.take (nameR t 0)).map lowC=[120,109,108]∨(nameR t 0<t.length∧isW (t.getD (nameR t 0) 0)=false):=by
    rcases h2 with h2 | ⟨h2,h5,h6,h7⟩
    ·exact Or.inr (Or.inl h2)
    ·exact Or.inr (Or.inr (Or.inr ⟨h5,h6⟩))
   rw[if_pos hL,if_neg (c:=isNameS _=true∧_) (by simp[h1]),if_neg (by simp)]
end Go.Ab
namespace Go.Ab
open Go Go.Lib
theorem getD_drop (s:List UInt8) (i j:Nat):(s.drop i).getD j 0=s.getD (i+j) 0:=by
 simp only[List.getD_eq_getElem?_getD,List.getElem?_drop]
theorem getD_take {s:List UInt8} {e j:Nat} (h:j<e):(s.take e).getD j 0=s.getD j 0:=by
 simp only[List.getD_eq_getElem?_getD,List.getElem?_take_of_lt h]
theorem drop_cons {s:List UInt8} {i:Nat} (h:i<s.length):s.drop i=s.getD i 0::s.drop (i+1):=drop_getD h
theorem occ60 (l:List UInt8) (j:Nat) (c:UInt8):Lib.occAt l [c] j=true↔(j<l.length∧l.getD j 0=c):=by
 unfold Lib.occAt
 by_cases h:j<l.length
 ·rw[drop_cons h]
  simp only[List.isPrefixOf,Bool.and_true,beq_iff_eq]
  exact⟨fun e=>⟨h,e.symm⟩,fun e=>e.2.symm⟩
 ·rw[List.drop_eq_nil_of_le (by omega)]
  simp[List.isPrefixOf,h]
theorem row60 {s:List UInt8} {i:Nat} (h:i<s.length):(Lib.indexByte (s.drop i) 60=0↔s.getD i 0=60)∧(s.getD i 0≠60→(∀j,i≤j→j<rowEnd s i→s.getD j 0≠60)∧(rowEnd s i=s.length∨s.getD (rowEnd s i) 0=60)):=by
 have hi:=Lib.index_one (s.drop i) 60
 unfold rowEnd
 rw[←hi]
 rcases Lib.index_spec (s.drop i) [60]with ⟨h1,h2⟩ | ⟨m,h1,h2,h3,h4⟩
 ·rw[h1]
  refine⟨⟨fun hh=>by omega,fun hh=>?_⟩,fun _=>⟨fun j hj hlt=>?_,.inl (if_neg (by omega))⟩⟩
  ·have:=h2 0 (Nat.zero_le _)
   rw[Bool.eq_false_iff]at this
   exact absurd ((occ60 _ _ _).2 ⟨by simp only[List.length_drop];omega,by rw[getD_drop];exact hh⟩) this
  ·rw[if_neg (by omega)]at hlt
   intro hh
   have:=h2 (j-i) (by simp only[List.length_drop];omega)
   rw[Bool.eq_false_iff]at this
   exact this ((occ60 _ _ _).2 ⟨by simp only[List.length_drop];omega,by rw[getD_drop,show i+(j-i)=j by omega];exact hh⟩)
 ·rw[h1]
  have ho:=(occ60 _ _ _).1 h3
  rw[getD_drop]at ho
  simp only[List.length_drop]at ho
  refine⟨⟨fun hh=>?_,fun hh=>?_⟩,fun hne=>?_⟩
  ·have:m=0:=by omega
   subst this
   exact ho.2
  ·by_cases hm:m=0
   ·rw[hm];rfl
   ·have:=h4 0 (by omega)
    rw[Bool.eq_false_iff]at this
    exact absurd ((occ60 _ _ _).2 ⟨by simp only[List.length_drop];omega,by rw[getD_drop];exact hh⟩) this
  ·have hm:m≠0:=by
    rintro rfl
    exact hne ho.2
   rw[if_pos (by omega),Int.toNat_natCast]
   refine⟨fun j hj hlt hh=>?_,.inr ho.2⟩
   have:=h4 (j-i) (by omega)
   rw[Bool.eq_false_iff]at this
   exact this ((occ60 _ _ _).2 ⟨by simp only[List.length_drop];omega,by rw[getD_drop,show i+(j-i)=j by omega];exact hh⟩)
theorem parseF_no {base:Nat}:∀(l:List UInt8) (n m:Nat),parseF base n l=some m→∀c∈l,c≠60
 | [],_,_,_=>by simp
 | c::l,n,m,h=>by
  unfold parseF at h
  intro x hx
  split at h
  ·cases h
  ·rename_i d hd
   split at h
   ·rcases List.mem_cons.1 hx with rfl | hx
    ·rintro rfl
     simp[digitS]at hd
    ·exact parseF_no l _ _ h x hx
   ·cases h
theorem refD_no {t:List UInt8} (h:(refD t).2.2=true):∀j,j≤(refD t).2.1→t.getD j 0≠60:=by
 obtain⟨h1,h2⟩:=refD_ok_cut h
 have hnm:∀c∈(Lib.cut t [59]).1,c≠60:=by
  unfold refD at h
  rw[if_pos h1]at h
  by_cases he:(entityS (Lib.cut t [59]).1).2=true
  ·unfold entityS at he
   generalize (Lib.cut t [59]).1=nm at he
   split at he
   ·rename_i e;rw[e];decide
   split at he
   ·rename_i e;rw[e];decide
   split at he
   ·rename_i e;rw[e];decide
   split at he
   ·rename_i e;rw[e];decide
   split at he
   ·rename_i e;rw[e];decide
   ·cases he
  ·rw[if_neg he]at h
   cases hn:numS (Lib.cut t [59]).1 with
   | none=>rw[hn]at h;cases h
   | some n=>
    rcases numS_some hn with ⟨l,e,_,hp⟩ | ⟨l,e,_,_,hp⟩
    ·rw[e]
     intro c hc
     simp only[List.mem_cons]at hc
     rcases hc with rfl | rfl | hc
     ·decide
     ·decide
     ·exact parseF_no _ _ _ hp c hc
    ·rw[e]
     intro c hc
     simp only[List.mem_cons]at hc
     rcases hc with rfl | hc
     ·decide
     ·exact parseF_no _ _ _ hp c hc
 rw[h2]
 rw[cut_eq]at h1 hnm ⊢
 by_cases hx:0≤Lib.index t [59]
 case neg=>rw[if_neg hx]at h1;cases h1
 rw[if_pos hx]at hnm ⊢
 have hr:=Lib.index_room t [59] hx
 simp only[List.length_singleton]at hr
 intro j hj
 simp only[List.length_take]at hj hnm
 by_cases hjl:j<(Lib.index t [59]).toNat
 ·apply hnm
  have:t.getD j 0=(t.take (Lib.index t [59]).toNat).getD j 0:=(getD_take hjl).symm
  rw[this,List.getD_eq_getElem?_getD,List.getElem?_eq_getElem (by rw[List.length_take];omega)]
  exact List.getElem_mem _
 ·rcases Lib.index_spec t [59]with ⟨e1,_⟩ | ⟨m,e1,_,e3,_⟩
  ·omega
  ·have:=(occ60 _ _ _).1 e3
   rw[show j=m by omega,this.2]
   decide
theorem rtextL_skip {s:List UInt8}:∀(n i:Nat) (acc:List UInt8),i+n≤s.length→(∀j,i≤j→j<i+n→128≤(s.getD j 0).toNat)→rtextL s i acc=rtextL s (i+n) (acc++(s.drop i).take n)
 | 0,i,acc,_,_=>by simp
 | n+1,i,acc,h,hb=>by
  have hlt:i<s.length:=by omega
  have hc:=hb i (Nat.le_refl _) (by omega)
  have hd:=drop_cons hlt
  rw[hd,List.take_succ_cons]
  generalize hg:s.getD i 0=c at hc hd ⊢
  have h60:c≠60:=by rintro rfl;simp at hc
  have h38:c≠38:=by rintro rfl;simp at hc
  have hp:Lib.hasPrefix (s.drop i) sCend=false:=by
   rw[hd]
   simp only[Lib.hasPrefix,sCend,List.isPrefixOf,Bool.and_eq_false_imp,beq_iff_eq]
   rintro rfl
   simp at hc
  rw[rtextL_step acc hlt (by rw[hg];exact h60),hp,if_neg (by simp),hg,if_neg h38,rtextL_skip n (i+1) (acc++[c]) (by omega) (fun j h1 h2=>hb j (by omega) (by omega))]
  congr 1
  ·omega
  ·simp
theorem rtextL_acc {s:List UInt8} (a:List UInt8):∀(n i:Nat) (b:List UInt8),s.length-i≤n→rtextL s i (a++b)=(rtextL s i b).map fun x=>(a++x.1,x.2)
 | 0,i,b,h=>by rw[rtextL_end _ (.inl (by omega)),rtextL_end _ (.inl (by omega))];rfl
 | n+1,i,b,h=>by
  by_cases hlt:i<s.length
  case neg=>rw[rtextL_end _ (.inl (by omega)),rtextL_end _ (.inl (by omega))];rfl
  by_cases h60:s.getD i 0=60
  ·rw[rtextL_end _ (.inr h60),rtextL_end _ (.inr h60)];rfl
  rw[rtextL_step _ hlt h60,rtextL_step _ hlt h60]
  split
  ·rfl
  split
  ·split
   ·rw[List.append_assoc,rtextL_acc a n _ _ (by omega)]
   ·rfl
  ·rw[List.append_assoc,rtextL_acc a n _ _ (by omega)]
theorem text_eq {s:List UInt8} {e:Nat} (he:e≤s.length):∀(n i:Nat) (acc:List UInt8),e-i≤n→i≤e→(∀j,i≤j→j<e→s.getD j 0≠60)→(e=s.length∨s.getD e 0=60) →
  rtextL s i acc=(match ptextS false (s.take e) i acc with | .ok acc' => .ok (acc',e) | .error w => .error w.at_)∧∀w,ptextS false (s.take e) i acc = .error w→w.e=5∧i≤w.at_∧w.at_<e∧(s.getD w.at_ 0).toNat<128
 | n,i,acc,hn,hie,hno,hend=>by
  have hl:(s.take e).length=e:=by rw[List.length_take];omega
  by_cases hlt:i<e
  case neg=>
   have:i=e:=by omega
   subst this
   rw[ptextS_end false acc (by omega)]
   refine⟨rtextL_end acc (by rcases hend with h | h;exact .inl (by omega);exact .inr h),fun w hw=>by cases hw⟩
  cases n with
  | zero=>omega
  | succ n=>
  have hls:i<s.length:=by omega
  have h60:=hno i (Nat.le_refl _) hlt
  have hd:=drop_cons hls
  have hd':=drop_cons (s:=s.take e) (i:=i) (by omega)
  rw[getD_take hlt]at hd'
  rw[rtextL_step acc hls h60,ptextS_step false acc (by omega)]
  simp only[Bool.false_eq_true,if_false]
  generalize hg:s.getD i 0=c at hd hd' h60
  have hdp:(s.take e).drop (i+1)=(s.drop (i+1)).take (e-(i+1)):=by rw[List.drop_take]
  by_cases h38:c=38
  ·have hdec:dec ((s.take e).drop i)=(38,1):=by rw[hd',h38,dec_ascii (by decide)];rfl
   have hp:Lib.hasPrefix (s.drop i) sCend=false:=by rw[hd,h38];rfl
   rw[hp,hdec]
   simp only[Bool.false_eq_true,if_false,if_true,h38]
   obtain⟨r1,r2⟩:=refS_refD (s.take e) i
   rw[hdp]at r1 r2
   obtain⟨t1,t2⟩:=refD_take (s.drop (i+1)) (e-(i+1))
   cases hok:(refD (s.drop (i+1))).2.2 with
   | false=>
    rw[hok,Bool.false_and]at t1
    rw[r1,t1]
    simp only[Bool.false_eq_true,if_false]
    refine⟨trivial,fun w hw=>?_⟩
    cases hw
    exact⟨rfl,Nat.le_refl _,hlt,by simp only;rw[hg,h38];decide⟩
   | true=>
    have hbd:=refD_bound hok
    have hno60:=refD_no hok
    simp only[List.length_drop]at hbd
    have hle:(refD (s.drop (i+1))).2.1+1≤e-(i+1):=by
     rcases hend with h | h
     ·omega
     ·by_cases hc:(refD (s.drop (i+1))).2.1+1≤e-(i+1)
      ·exact hc
      ·have:=hno60 (e-(i+1)) (by omega)
       rw[getD_drop,show i+1+(e-(i+1))=e by omega]at this
       exact absurd h this
    have t3:(refD ((s.drop (i+1)).take (e-(i+1)))).2.2=true:=by rw[t1,hok];simpa using hle
    obtain⟨q1,q2⟩:=r2 t3
    rw[t2 t3]at q1 q2
    rw[r1,t3,q1,q2]
    simp only[if_true]
    have:=text_eq he n (i+1+(refD (s.drop (i+1))).2.1+1) (acc++(refD (s.drop (i+1))).1) (by omega) (by omega) (fun j h1 h2=>hno j (by omega) h2) hend
    exact⟨this.1,fun w hw=>by have:=this.2 w hw;exact⟨this.1,by omega,this.2.2⟩⟩
  ·have hdec1:(dec ((s.take e).drop i)).1≠38:=by
    rw[hd']
    rcases Nat.lt_or_ge c.toNat 128 with h | h
    ·rw[dec_ascii h]
     simp only
     intro hh
     apply h38
     apply UInt8.toNat_inj.1
     simpa using hh
    ·have:=dec_high (b:=c) (t:=(s.take e).drop (i+1)) h
     omega
   rw[if_neg hdec1,if_neg h38]
   have hpe:Lib.hasPrefix ((s.take e).drop i) sCend=Lib.hasPrefix (s.drop i) sCend:=by
    rw[Bool.eq_iff_iff]
    simp only[Lib.hasPrefix,List.isPrefixOf_iff_prefix]
    constructor
    ·intro h
     rw[List.drop_take]at h
     exact h.trans (List.take_prefix _ _)
    ·intro h
     obtain⟨r,hr⟩:=h
     have hlen:=congrArg List.length hr
     simp only[sCend,List.length_append,List.length_cons,List.length_nil,List.length_drop]at hlen
     have hle:i+3≤e:=by
      by_cases hc:i+3≤e
      ·exact hc
      ·exfalso
       rcases hend with h | h
       ·omega
       ·have he60:(s.drop i).getD (e-i) 0=60:=by rw[getD_drop,show i+(e-i)=e by omega];exact h
        rw[←hr]at he60
        have:e-i=1∨e-i=2:=by omega
        rcases this with h1 | h1<;>rw[h1]at he60<;>simp[sCend]at he60
     rw[List.drop_take,←hr,List.take_append]
     have h3:sCend.length≤e-i:=by simp only[sCend,List.length_cons,List.length_nil];omega
     rw[List.take_of_length_le h3]
     exact⟨_,rfl⟩
   rw[hpe]
   cases hp:Lib.hasPrefix (s.drop i) sCend with
   | true=>
    simp only[if_true]
    refine⟨trivial,fun w hw=>?_⟩
    cases hw
    refine⟨rfl,Nat.le_refl _,hlt,?_⟩
    rw[hd]at hp
    simp only[Lib.hasPrefix,sCend,List.isPrefixOf,Bool.and_eq_true,beq_iff_eq]at hp
    simp only
    rw[hg,←hp.1]
    decide
   | false=>
    simp only[Bool.false_eq_true,if_false]
    have key:∃n',(dec ((s.take e).drop i)).2=n'+1∧i+1+n'≤e∧∀j,i+1≤j→j<i+1+n'→128≤(s.getD j 0).toNat:=by
     rw[hd']
     rcases Nat.lt_or_ge c.toNat 128 with h | h
     ·rw[dec_ascii h]
      exact⟨0,rfl,by omega,fun j h1 h2=>by omega⟩
     ·rcases dec_split ((s.take e).drop (i+1)) h with h1 | ⟨cs,m,h1,h2,h3,h4,_⟩
      ·rw[h1]
       exact⟨0,rfl,by omega,fun j h1 h2=>by omega⟩
      ·have hcl:=congrArg List.length h1
       simp only[List.length_drop,List.length_append,hl]at hcl
       refine⟨cs.length,by rw[h4];omega,by omega,fun j h5 h6=>?_⟩
       have:s.getD j 0=((s.take e).drop (i+1)).getD (j-(i+1)) 0:=by
        rw[getD_drop,getD_take (by omega)]
        congr 1
        omega
       rw[this,h1,List.getD_eq_getElem?_getD,List.getElem?_append_left (by omega),List.getElem?_eq_getElem (by omega)]
       exact h3 _ (List.getElem_mem _)
    obtain⟨n',k1,k2,k3⟩:=key
    rw[k1,rtextL_skip n' (i+1) (acc++[c]) (by omega) k3]
    have hacc:acc++[c]++(s.drop (i+1)).take n'=acc++((s.take e).take (i+(n'+1))).drop i:=by
     rw[List.take_take,Nat.min_eq_left (by omega),List.append_assoc]
     congr 1
     rw[List.drop_take,hd,show i+(n'+1)-i=n'+1 by omega,List.take_succ_cons]
     rfl
    rw[hacc,show i+1+n'=i+(n'+1) by omega]
    have:=text_eq he n (i+(n'+1)) (acc++((s.take e).take (i+(n'+1))).drop i) (by omega) (by omega) (fun j h1 h2=>hno j (by omega) h2) hend
    exact⟨this.1,fun w hw=>by have:=this.2 w hw;exact⟨this.1,by omega,this.2.2⟩⟩
end Go.Ab
namespace Go.Ab
open Go Go.Lib
theorem cdata_pre {s:List UInt8} {i:Nat} (h:(cdataS s i).2.2=true):Lib.hasPrefix (s.drop i) sCdata=true:=by
 unfold cdataS at h
 split at h
 ·assumption
 ·cases h
theorem cdata_60 {s:List UInt8} {i:Nat} (h:(cdataS s i).2.2=true):i<s.length∧s.getD i 0=60:=by
 have hp:=cdata_pre h
 have hl:=hasPrefix_len hp
 simp only[sCdata,List.length_cons,List.length_nil,List.length_drop]at hl
 have hlt:i<s.length:=by omega
 rw[drop_cons hlt]at hp
 simp only[Lib.hasPrefix,sCdata,List.isPrefixOf,Bool.and_eq_true,beq_iff_eq]at hp
 exact⟨hlt,hp.1.symm⟩
theorem cdata_not_com {s:List UInt8} {i:Nat} (h:(cdataS s i).2.2=true):Lib.hasPrefix (s.drop i) sCom=false:=by
 rw[Bool.eq_false_iff]
 intro hh
 have:=com_not_cdata hh
 rw[cdata_pre h]at this
 cases this
theorem other_cdata {s:List UInt8} {i:Nat} (h:(cdataS s i).2.2=true):otherP s i=some ⟨⟨2,[],(cdataS s i).1,[],0,0⟩,(cdataS s i).2.1,false,true,true,false⟩:=by
 rw[otherP_rest (cdata_not_com h),if_pos h]
theorem other_data {s:List UInt8} {i:Nat} (h:¬(cdataS s i).2.2=true) {p:Pc} (hp:otherP s i=some p):p.data=false:=by
 by_cases hc:(commentS s i).2.2=true
 ·rw[otherP_com hc]at hp
  cases hp
  rfl
 ·cases hpre:Lib.hasPrefix (s.drop i) sCom with
  | true=>
   rw[otherP_dash (by simpa using hc) hpre]at hp
   cases hp
  | false=>
   rw[otherP_rest hpre,if_neg h]at hp
   split at hp
   ·cases hp;rfl
   ·unfold instrR at hp
    simp only at hp
    split at hp
    ·cases hp
    ·cases hp;rfl
theorem row_eq {s:List UInt8}:∀(n i:Nat) (acc:List UInt8) (is:Bool),s.length-i≤n→i≤s.length →
  match rowL false s i acc is with
  | .ok x=>rrowL s i acc is = .ok x
  | .error w=>rrowL s i acc is = .error w.at_∧w.e=5∧i≤w.at_∧w.at_<s.length∧(s.getD w.at_ 0).toNat<128
 | n,i,acc,is,hn,hi=>by
  by_cases hlt:i<s.length
  case neg=>rw[rowL_end false acc is (by omega),rrowL_end acc is (by omega)]
  cases n with
  | zero=>omega
  | succ n=>
  rw[rowL_step false acc is hlt,rrowL_step acc is hlt]
  by_cases hc:(cdataS s i).2.2=true
  ·have hb:=cdataS_bound hc
   rw[if_pos hc,if_neg (by simp),if_pos (cdata_60 hc).2,other_cdata hc]
   simp only[if_true]
   have:=row_eq (s:=s) n (cdataS s i).2.1 (acc++(cdataS s i).1) true (by omega) (by omega)
   generalize rowL false s (cdataS s i).2.1 (acc++(cdataS s i).1) true=r at this
   cases r with
   | ok x=>exact this
   | error w=>exact⟨this.1,this.2.1,by have:=this.2.2.1;omega,this.2.2.2⟩
  rw[if_neg hc]
  obtain⟨h60,hrow⟩:=row60 hlt
  by_cases h0:s.getD i 0=60
  ·rw[if_pos (h60.2 h0),if_pos h0]
   cases ho:otherP s i with
   | none=>rfl
   | some p=>simp only[other_data hc ho,Bool.false_eq_true,if_false]
  ·rw[if_neg (fun hh=>h0 (h60.1 hh)),if_neg h0]
   obtain⟨hr1,hr2⟩:=hrow h0
   have hre:=rowEnd_bound hlt
   have ht:=text_eq hre.2 (rowEnd s i-i) i acc (Nat.le_refl _) (Nat.le_of_lt hre.1) hr1 hr2
   have hacc:=rtextL_acc (s:=s) acc (s.length-i) i [] (Nat.le_refl _)
   rw[List.append_nil,ht.1]at hacc
   cases hp:ptextS false (s.take (rowEnd s i)) i acc with
   | error w=>
    rw[hp]at hacc
    have hw:=ht.2 w hp
    cases hrt:rtextL s i []with
    | ok x=>rw[hrt]at hacc;cases hacc
    | error k=>
     rw[hrt]at hacc
     simp only[Except.map,Except.error.injEq]at hacc
     exact⟨by rw[hacc],hw.1,hw.2.1,by omega,hw.2.2.2⟩
   | ok a=>
    rw[hp]at hacc
    cases hrt:rtextL s i []with
    | error k=>rw[hrt]at hacc;cases hacc
    | ok x=>
     rw[hrt]at hacc
     simp only[Except.map,Except.ok.injEq,Prod.mk.injEq]at hacc
     obtain⟨rfl,ha2⟩:=hacc
     simp only
     rw[←ha2]
     have:=row_eq (s:=s) n (rowEnd s i) (acc++x.1) true (by omega) hre.2
     generalize rowL false s (rowEnd s i) (acc++x.1) true=r at this
     cases r with
     | ok x=>exact this
     | error w=>exact⟨this.1,this.2.1,by have:=this.2.2.1;omega,this.2.2.2⟩
theorem ptop {s:List UInt8} {e:Nat} (he:e≤s.length) {t:RSt} (ht:t.opens=[]):∀(n i:Nat) (acc:List UInt8),e-i≤n→i≤e→(∀j,i≤j→j<e→s.getD j 0≠60) →
  match ptextS true (s.take e) i acc with
  | .ok a=>a=acc∧rreadL s i t=rreadL s e t∧∀j,i≤j→j<e→isW (s.getD j 0)=true
  | .error w=>rreadL s i t=(t,w.at_,w.e)∧w.e=5∧i≤w.at_∧w.at_<e∧∀j,i≤j→j<w.at_→isW (s.getD j 0)=true
 | n,i,acc,hn,hie,hno=>by
  have hl:(s.take e).length=e:=by rw[List.length_take];omega
  by_cases hlt:i<e
  case neg=>
   have:i=e:=by omega
   subst this
   rw[ptextS_end true acc (by omega)]
   exact⟨rfl,rfl,fun j h1 h2=>by omega⟩
  cases n with
  | zero=>omega
  | succ n=>
  have hls:i<s.length:=by omega
  have h60:=hno i (Nat.le_refl _) hlt
  rw[ptextS_step true acc (by omega),if_pos rfl,getD_take hlt]
  have hrp:rowP s i t = .ok ([],false,i):=by unfold rowP;rw[if_pos ht]
  have hst:=rreadL_step s i t
  rw[if_pos hls,hrp]at hst
  simp only[Bool.false_eq_true,if_false]at hst
  rw[if_pos h60]at hst
  by_cases hw:isW (s.getD i 0)=true
  ·rw[if_pos hw]at hst ⊢
   have hd:(dec ((s.take e).drop i)).2=1:=by
    rw[drop_cons (s:=s.take e) (i:=i) (by omega),getD_take hlt]
    generalize s.getD i 0=c at hw
    have hc:c=32∨c=9∨c=10:=by
     unfold isW at hw
     simpa[or_assoc]using hw
    rw[dec_ascii (by rcases hc with rfl | rfl | rfl<;>decide)]
   rw[hd,hst]
   have:=ptop he ht n (i+1) acc (by omega) (by omega) (fun j h1 h2=>hno j (by omega) h2)
   generalize ptextS true (s.take e) (i+1) acc=r at this
   cases r with
   | ok a=>
    refine⟨this.1,this.2.1,fun j h1 h2=>?_⟩
    by_cases hj:j=i
    ·rw[hj];exact hw
    ·exact this.2.2 j (by omega) h2
   | error w=>
    refine⟨this.1,this.2.1,by omega,this.2.2.2.1,fun j h1 h2=>?_⟩
    by_cases hj:j=i
    ·rw[hj];exact hw
    ·exact this.2.2.2.2 j (by omega) h2
  ·rw[if_neg hw]at hst ⊢
   exact⟨hst,rfl,Nat.le_refl _,hlt,fun j h1 h2=>by simp only at h2;omega⟩
theorem top_eq {s:List UInt8} {t:RSt} (ht:t.opens=[]):∀(n i:Nat) (is:Bool),s.length-i≤n→i≤s.length →
  match rowL true s i [] is with
  | .ok x=>x.1=[]∧rreadL s i t=rreadL s x.2.2 t∧i≤x.2.2∧x.2.2≤s.length∧∀j,i≤j→j<x.2.2→isW (s.getD j 0)=true
  | .error w=>rreadL s i t=(t,w.at_,w.e)∧w.e=5∧i≤w.at_∧w.at_<s.length∧∀j,i≤j→j<w.at_→isW (s.getD j 0)=true
 | n,i,is,hn,hi=>by
  by_cases hlt:i<s.length
  case neg=>rw[rowL_end true [] is (by omega)];exact⟨rfl,rfl,Nat.le_refl _,hi,fun j h1 h2=>by simp only at h2;omega⟩
  cases n with
  | zero=>omega
  | succ n=>
  rw[rowL_step true [] is hlt]
  by_cases hc:(cdataS s i).2.2=true
  ·rw[if_pos hc,if_pos rfl]
   have hrp:rowP s i t = .ok ([],false,i):=by unfold rowP;rw[if_pos ht]
   have hst:=rreadL_step s i t
   rw[if_pos hlt,hrp]at hst
   simp only[Bool.false_eq_true,if_false]at hst
   have hat:atP s i=some ⟨⟨2,[],(cdataS s i).1,[],0,0⟩,(cdataS s i).2.1,false,true,true,false⟩:=by
    unfold atP
    rw[other_cdata hc]
    rfl
   rw[if_neg (by rw[(cdata_60 hc).2];simp),hat]at hst
   simp only[if_true]at hst
   exact⟨hst,rfl,Nat.le_refl _,hlt,fun j h1 h2=>by simp only at h2;omega⟩
  rw[if_neg hc]
  obtain⟨h60,hrow⟩:=row60 hlt
  by_cases h0:s.getD i 0=60
  ·rw[if_pos (h60.2 h0)]
   exact⟨rfl,rfl,Nat.le_refl _,hi,fun j h1 h2=>by simp only at h2;omega⟩
  ·rw[if_neg (fun hh=>h0 (h60.1 hh))]
   obtain⟨hr1,hr2⟩:=hrow h0
   have hre:=rowEnd_bound hlt
   have hp:=ptop hre.2 ht (rowEnd s i-i) i [] (Nat.le_refl _) (Nat.le_of_lt hre.1) hr1
   generalize ptextS true (s.take (rowEnd s i)) i []=r at hp
   cases r with
   | error w=>exact⟨hp.1,hp.2.1,hp.2.2.1,by omega,hp.2.2.2.2⟩
   | ok a=>
    obtain⟨rfl,hp2,hp3⟩:=hp
    simp only
    have:=top_eq ht n (rowEnd s i) true (by omega) hre.2
    rw[hp2]
    generalize rowL true s (rowEnd s i) [] true=r at this
    cases r with
    | ok x=>
     refine⟨this.1,this.2.1,by omega,this.2.2.2.1,fun j h1 h2=>?_⟩
     by_cases hj:j<rowEnd s i
     ·exact hp3 j h1 hj
     ·exact this.2.2.2.2 j (by omega) h2
    | error w=>
     refine⟨this.1,this.2.1,by omega,this.2.2.2.1,fun j h1 h2=>?_⟩
     by_cases hj:j<rowEnd s i
     ·exact hp3 j h1 hj
     ·exact this.2.2.2.2 j (by omega) h2
end Go.Ab
namespace Go.Ab
open Go Go.Lib
def plc (s:List UInt8) (i:Nat) (x:Ev):Ev:={ x with line:=(placeS s i).1,col:=(placeS s i).2 }
def RSt.put (t:RSt) (s:List UInt8) (x:Ev) (i:Nat) (q:Pst):RSt:=⟨t.l++plc s i x::(q.empty.map (plc s i)).toList,t.ends++q.i::(q.empty.map fun _=>q.i).toList,q.opens,q.any⟩
theorem other_eq {s:List UInt8} {i:Nat} (hi:i≤s.length) (h0:i≠0∨declS s=0) (hcd:¬(cdataS s i).2.2=true) (hcom:¬(commentS s i).2.2=true):otherP s i =
  if(instrS s i).2.2.2=true then some ⟨⟨4,(instrS s i).1,(instrS s i).2.1,[],0,0⟩,(instrS s i).2.2.1,false,false,false,false⟩else none:=by
 cases hpre:Lib.hasPrefix (s.drop i) sCom with
 | true=>
  rw[otherP_dash (by simpa using hcom) hpre,if_neg]
  unfold instrS
  rw[com_not_pi hpre,if_neg (by simp)]
  simp
 | false=>
  rw[otherP_rest hpre,if_neg hcd,if_neg (by rintro⟨h1,h2⟩;omega),instrR_eq hi]
theorem piece_eq {s:List UInt8} {i:Nat} (hi:i<s.length) (h0:i≠0∨declS s=0) (hcd:¬(cdataS s i).2.2=true) {p:Pst} {t:RSt} (hpi:p.i=i) (hem:p.empty=none) (ho:t.opens=p.opens) (ha:t.any=p.any) (h200:p.opens.length≤200) :
  match pieceS s p with
  | .error w=>w.at_=i∧w.e≠0∧(match atP s i with | none=>w.e=5 | some pc=>pc.data=false∧pieceP s t pc i=(w.e,t))
  | .ok (x,q)=>∃pc,atP s i=some pc∧pc.data=false∧pieceP s t pc i=(0,t.put s x i q)∧pc.fin=q.i:=by
 subst hpi
 obtain⟨i,opens,any,em⟩:=p
 simp only at hi h0 hcd hem ho ha h200
 subst hem
 obtain⟨l,ends,opens',any'⟩:=t
 simp only at ho ha
 subst ho ha
 unfold pieceS
 simp only
 by_cases hcom:(commentS s i).2.2=true
 ·rw[if_pos hcom]
  refine⟨⟨⟨3,[],(commentS s i).1,[],0,0⟩,(commentS s i).2.1,false,false,false,false⟩,?_,rfl,?_,rfl⟩
  ·unfold atP
   rw[otherP_com hcom]
   rfl
  ·rfl
 rw[if_neg hcom]
 have hoth:=other_eq (Nat.le_of_lt hi) h0 hcd hcom
 by_cases hin:(instrS s i).2.2.2=true
 ·rw[if_pos hin]
  rw[if_pos hin]at hoth
  refine⟨⟨⟨4,(instrS s i).1,(instrS s i).2.1,[],0,0⟩,(instrS s i).2.2.1,false,false,false,false⟩,?_,rfl,?_,rfl⟩
  ·unfold atP
   rw[hoth]
   rfl
  ·rfl
 rw[if_neg hin]at hoth ⊢
 have hat:atP s i=(endP s i).orElse fun _=>startP s i:=by
  unfold atP
  rw[hoth]
  rfl
 rw[hat]
 unfold endP startP
 by_cases hen:(endS s i).2.2=true
 ·rw[if_pos hen,if_pos hen]
  by_cases hg:opens'.getLast?=some (endS s i).1
  ·rw[if_pos hg]
   refine⟨_,rfl,rfl,?_,rfl⟩
   unfold pieceP
   simp only[Bool.false_eq_true,if_false,if_true,Nat.one_ne_zero,hg]
   rfl
  ·rw[if_neg hg]
   refine⟨rfl,by simp,?_⟩
   refine⟨rfl,?_⟩
   unfold pieceP
   simp only[Bool.false_eq_true,if_false,if_true,Nat.one_ne_zero,hg]
 rw[if_neg hen,if_neg hen]
 cases hs:startS s i with
 | none=>exact⟨rfl,by simp,rfl⟩
 | some tg=>
  simp only[Option.map_some]
  have hpp:∀t:RSt,pieceP s t ⟨⟨0,tg.name,[],tg.attrs,0,0⟩,tg.next,tg.empty,false,false,false⟩ i=elementP s t ⟨⟨0,tg.name,[],tg.attrs,0,0⟩,tg.next,tg.empty,false,false,false⟩ i:=fun t=>rfl
  by_cases h1:opens'=[]∧any'=true
  ·rw[if_pos h1]
   refine⟨rfl,by simp,rfl,?_⟩
   rw[hpp]
   unfold elementP
   rw[if_pos h1]
  rw[if_neg h1]
  by_cases h2:twiceF [] tg.attrs=true
  ·rw[if_pos h2]
   refine⟨rfl,by simp,rfl,?_⟩
   rw[hpp]
   unfold elementP
   rw[if_neg h1,if_pos h2]
  rw[if_neg h2]
  by_cases h3:200≤opens'.length
  ·rw[if_pos h3]
   refine⟨rfl,by simp,rfl,?_⟩
   rw[hpp]
   unfold elementP
   rw[if_neg h1,if_neg h2,if_pos (show opens'.length=200 by omega)]
  rw[if_neg h3]
  refine⟨_,rfl,rfl,?_,?_⟩
  ·rw[hpp]
   unfold elementP
   rw[if_neg h1,if_neg h2,if_neg (show ¬opens'.length=200 by omega)]
   simp only
   cases hemp:tg.empty with
   | true=>
    simp only[if_true,RSt.add,RSt.put,Option.map_some,Option.toList_some,List.append_assoc,List.cons_append,List.nil_append]
    rfl
   | false=>
    simp only[Bool.false_eq_true,if_false,RSt.add,RSt.put,Option.map_none,Option.toList_none]
    rfl
  ·simp only
   split<;>rfl
def simR (s:List UInt8) (t:RSt):Except Wrong (Option (Ev × Nat) × Pst)→RSt × Nat × Nat
 | .error w=>(t,w.at_,w.e)
 | .ok (none,_)=>(t,0,0)
 | .ok (some (x,f),q)=>rreadL s q.i (t.put s x f q)
theorem sim {s:List UInt8}:∀(n:Nat) (p:Pst) (t:RSt),s.length-p.i≤n→p.i≤s.length→p.empty=none→t.opens=p.opens→t.any=p.any→p.opens.length≤200→(p.i≠0∨declS s=0)→rreadL s p.i t=simR s t (eventL s p)
 | n,p,t,hn,hi,hem,ho,ha,h200,h0=>by
  by_cases hlt:p.i<s.length
  case neg=>
   rw[rreadL_step,if_neg hlt,eventL_step,if_neg hlt,ho,ha]
   split
   ·rfl
   ·rfl
  cases n with
  | zero=>omega
  | succ n=>
  rw[eventL_step,if_pos hlt]
  have hpc:rowP s p.i t = .ok ([],false,p.i)→s.getD p.i 0=60→¬(cdataS s p.i).2.2=true→rreadL s p.i t=simR s t (match pieceS s p with | .error w => .error w | .ok (x,q) => .ok (some (x,p.i),q)):=by
   intro hr h60 hcd
   have hst:=rreadL_step s p.i t
   rw[if_pos hlt,hr]at hst
   simp only[Bool.false_eq_true,if_false]at hst
   rw[if_neg (by rw[h60];simp)]at hst
   have hpe:=piece_eq hlt h0 hcd (p:=p) rfl hem ho ha h200
   cases hps:pieceS s p with
   | error w=>
    rw[hps]at hpe
    obtain⟨e1,e2,e3⟩:=hpe
    rw[hst]
    cases hat:atP s p.i with
    | none=>
     rw[hat]at e3
     simp only[simR]
     rw[e1,e3]
    | some pc=>
     rw[hat]at e3
     obtain⟨e4,e5⟩:=e3
     simp only[simR,e4,Bool.false_eq_true,if_false,e5,if_neg e2]
     rw[e1]
   | ok y=>
    obtain⟨x,q⟩:=y
    rw[hps]at hpe
    obtain⟨pc,e1,e2,e3,e4⟩:=hpe
    rw[hst,e1]
    simp only[simR,e2,Bool.false_eq_true,if_false,e3,if_true,e4]
  by_cases hop:p.opens=[]
  ·rw[hop]
   simp only[beq_self_eq_true]
   have ht:=top_eq (s:=s) (t:=t) (by rw[ho,hop]) (s.length-p.i) p.i false (Nat.le_refl _) hi
   change rreadL s p.i t=simR s t (match rowL true s p.i [] false with | .error w => .error w | .ok (row,is,j)=>_)
   have hb:=rowS_bound (s:=s) (top:=true) (i:=p.i) (x:=(rowL true s p.i [] false).toOption.getD ([],false,0)) hi
   have hen:=rowS_end (s:=s) (top:=true) (i:=p.i) (x:=(rowL true s p.i [] false).toOption.getD ([],false,0)) hi
   change rowL true s p.i [] false=_→_ at hb
   change rowL true s p.i [] false=_→_ at hen
   cases hrl:rowL true s p.i [] false with
   | error w=>
    rw[hrl]at ht
    exact ht.1
   | ok x=>
    obtain⟨row,is,j⟩:=x
    rw[hrl]at ht hb hen
    obtain⟨rfl,h2,h3,h4,h5⟩:=ht
    have hb:=hb rfl
    have hen:=hen rfl
    simp only[Except.toOption,Option.getD_some]at hb hen h2 h3 h4 h5
    simp only
    cases is with
    | true=>
     simp only[if_true]
     rw[h2]
     have hij:p.i<j:=by have:=hb.2.2 rfl;omega
     have:=sim n { p with i:=j } t (by simp only;omega) h4 hem ho ha h200 (.inl (by simp only;omega))
     rw[←hop]
     exact this
    | false=>
     simp only[Bool.false_eq_true,if_false]
     have hst:=rowL_step true [] false hlt
     rw[hrl]at hst
     by_cases hcd:(cdataS s p.i).2.2=true
     ·rw[if_pos hcd,if_pos rfl]at hst;cases hst
     rw[if_neg hcd]at hst
     obtain⟨h60,hrow⟩:=row60 hlt
     by_cases hz:s.getD p.i 0=60
     ·exact hpc (by unfold rowP;rw[if_pos (by rw[ho,hop])]) hz hcd
     ·rw[if_neg (fun hh=>hz (h60.1 hh))]at hst
      exfalso
      split at hst
      ·cases hst
      ·have hre:=rowEnd_bound hlt
       have hb2:=rowF_bound _ _ _ _ _ hre.2 hst.symm
       have hj:∀(f i:Nat) (acc:List UInt8) (x),rowF f true s i acc true = .ok x→x.2.1=true:=by
        intro f
        induction f with
        | zero=>intro i acc x h;simp only[rowF,Except.ok.injEq]at h;subst h;rfl
        | succ f ih=>
         intro i acc x h
         simp only[rowF]at h
         split at h
         ·split at h
          ·split at h
           ·cases h
           ·exact ih _ _ _ h
          split at h
          ·cases h;rfl
          ·split at h
           ·cases h
           ·exact ih _ _ _ h
         ·cases h;rfl
       have:=hj _ _ _ _ hst.symm
       simp at this
  ·have hob:(p.opens==[])=false:=by simpa using hop
   rw[hob]
   have hrp:rowP s p.i t=rrowL s p.i [] false:=by unfold rowP;rw[if_neg (by rw[ho];exact hop)]
   have hre:=row_eq (s:=s) (s.length-p.i) p.i [] false (Nat.le_refl _) hi
   change rreadL s p.i t=simR s t (match rowL false s p.i [] false with | .error w => .error w | .ok (row,is,j)=>_)
   have hst:=rreadL_step s p.i t
   rw[if_pos hlt,hrp]at hst
   cases hrl:rowL false s p.i [] false with
   | error w=>
    rw[hrl]at hre
    obtain⟨e1,e2,e3⟩:=hre
    rw[e1]at hst
    simp only at hst
    rw[hst]
    simp only[simR,e2]
   | ok x=>
    obtain⟨row,is,j⟩:=x
    rw[hrl]at hre
    simp only at hre
    have hb:=rrowF_bound _ _ _ _ _ hi hre
    simp only at hb
    rw[hre]at hst
    simp only at hst ⊢
    cases is with
    | true=>
     have hij:p.i<j:=by
      rcases hb.2.2 with h | h
      ·exact h.2
      ·cases h
     simp only[if_true]at hst ⊢
     rw[hst]
     by_cases hrow:row=[]
     ·rw[if_pos hrow,if_pos hrow]
      exact sim n { p with i:=j } t (by simp only;omega) hb.2.1 hem ho ha h200 (.inl (by simp only;omega))
     ·rw[if_neg hrow,if_neg hrow]
      simp only[simR]
      congr 1
      unfold RSt.add RSt.put plc
      rw[hem,←ho,←ha]
      rfl
    | false=>
     have hj:row=[]∧j=p.i:=by
      rcases hb.2.2 with h | h
      ·cases h.1
      ·cases h;exact⟨rfl,rfl⟩
     obtain⟨rfl,rfl⟩:=hj
     simp only[Bool.false_eq_true,if_false]
     have hrs:=rrowL_step [] false hlt
     rw[hre]at hrs
     have hne:∀(i:Nat) (acc:List UInt8) (x),i≤s.length→rrowL s i acc true = .ok x→x.2.1=true:=by
      intro i acc x h1 h2
      rcases(rrowF_bound _ _ _ _ _ h1 h2).2.2 with h | h
      ·exact h.1
      ·rw[h]
     by_cases hz:s.getD p.i 0=60
     ·rw[if_pos hz]at hrs
      by_cases hcd:(cdataS s p.i).2.2=true
      ·rw[other_cdata hcd]at hrs
       simp only[if_true]at hrs
       have:=hne _ _ _ (cdataS_bound hcd).2 hrs.symm
       cases this
      ·exact hpc (by rw[hrp];exact hre) hz hcd
     ·rw[if_neg hz]at hrs
      have hbd:=rtextL_bound hlt hz
      cases hrt:rtextL s p.i []with
      | error k=>rw[hrt]at hrs;cases hrs
      | ok y=>
       rw[hrt]at hrs hbd
       simp only at hrs hbd
       have:=hne _ _ _ hbd.2.1 hrs.symm
       cases this
end Go.Ab
namespace Go.Ab
open Go Go.Lib
def Bd (s:List UInt8) (k:Nat):Prop:=k≤s.length∧isTextS (s.drop k)=true
def NC (s:List UInt8) (k:Nat):Prop:=k≤s.length∧(k<s.length→(s.getD k 0).toNat<128∨192≤(s.getD k 0).toNat)
theorem dec_bytes {s:List UInt8} {b:Nat} (hb:b<s.length):∃n,(dec (s.drop b)).2=n+1∧b+1+n≤s.length∧(∀j,b+1≤j→j<b+1+n→128≤(s.getD j 0).toNat∧(s.getD j 0).toNat<192)∧(0<n→128≤(s.getD b 0).toNat):=by
 have hdd:=dec_drop hb
 have hd:=drop_cons hb
 rcases Nat.lt_or_ge (s.getD b 0).toNat 128 with h | h
 ·refine⟨0,?_,by omega,fun j h1 h2=>by omega,fun h=>by omega⟩
  rw[hd,dec_ascii h]
 ·have hN:=Lib.decodeL_N (s.drop b)
  have e0:(s.drop b).getD 0 0=s.getD b 0:=getD_drop s b 0
  have e1:(s.drop b).getD 1 0=s.getD (b+1) 0:=getD_drop s b 1
  have e2:(s.drop b).getD 2 0=s.getD (b+2) 0:=getD_drop s b 2
  have e3:(s.drop b).getD 3 0=s.getD (b+3) 0:=getD_drop s b 3
  rw[e0,e1,e2,e3]at hN
  have hN':dec (s.drop b)=_:=hN
  rcases decodeN_cont (s.drop b).length (s.getD b 0).toNat (s.getD (b+1) 0).toNat (s.getD (b+2) 0).toNat (s.getD (b+3) 0).toNat h with h1 | ⟨h2,h4,hn,c1,c2,c3⟩
  ·rw[hN',h1]
   exact⟨0,rfl,by omega,fun j h1 h2=>by omega,fun h=>by omega⟩
  ·rw[←hN']at h2 h4 hn c2 c3
   simp only[List.length_drop]at hn
   refine⟨(dec (s.drop b)).2-1,by omega,by omega,fun j h5 h6=>?_,fun _=>h⟩
   rcases Nat.lt_or_ge j (b+2)with h7 | h7
   ·rw[show j=b+1 by omega];omega
   rcases Nat.lt_or_ge j (b+3)with h8 | h8
   ·rw[show j=b+2 by omega];have:=c2 (by omega);omega
   ·rw[show j=b+3 by omega];have:=c3 (by omega);omega
theorem dec_mid {s:List UInt8} {b:Nat} (hb:b<s.length) (h1:128≤(s.getD b 0).toNat) (h2:(s.getD b 0).toNat<192):dec (s.drop b)=(65533,1):=by
 have hN:=Lib.decodeL_N (s.drop b)
 have e0:(s.drop b).getD 0 0=s.getD b 0:=getD_drop s b 0
 rw[e0]at hN
 have hN':dec (s.drop b)=_:=hN
 rw[hN']
 unfold Lib.decodeN
 rw[if_neg (by omega),if_neg (by omega),if_neg (by omega),if_neg (by omega)]
theorem Bd.nc {s:List UInt8} {k:Nat} (h:Bd s k):NC s k:=by
 refine⟨h.1,fun hlt=>?_⟩
 by_cases h1:128≤(s.getD k 0).toNat∧(s.getD k 0).toNat<192
 ·exfalso
  have hd:=dec_mid hlt h1.1 h1.2
  have ht:=h.2
  rw[isTextS_step (drop_ne hlt)]at ht
  unfold headTextS at ht
  rw[hd]at ht
  have hp:Lib.hasPrefix (s.drop k) [239,191,189]=false:=by
   rw[drop_cons hlt]
   generalize s.getD k 0=c at h1
   simp only[Lib.hasPrefix,List.isPrefixOf,Bool.and_eq_false_imp,beq_iff_eq]
   rintro rfl
   simp at h1
  rw[hp]at ht
  simp at ht
 ·omega
theorem Bd.step {s:List UInt8} {k:Nat} (h:Bd s k) (hlt:k<s.length):Bd s (k+(dec (s.drop k)).2):=by
 have hd:=dec_drop hlt
 have ht:=h.2
 rw[isTextS_step (drop_ne hlt),Bool.and_eq_true,List.drop_drop]at ht
 exact⟨hd.2,ht.2⟩
theorem Bd.of {s:List UInt8}:∀(n:Nat) {b k:Nat},k-b≤n→Bd s b→b≤k→NC s k→Bd s k
 | 0,b,k,hn,hb,hbk,_=>by rw[show k=b by omega];exact hb
 | n+1,b,k,hn,hb,hbk,hk=>by
  by_cases e:b=k
  ·rw[←e];exact hb
  have hlt:b<s.length:=by have:=hk.1;omega
  obtain⟨m,h1,h2,h3,_⟩:=dec_bytes hlt
  have hs:=hb.step hlt
  rw[h1]at hs
  have:b+(m+1)≤k:=by
   by_cases hc:b+(m+1)≤k
   ·exact hc
   ·have h4:=h3 k (by omega) (by omega)
    have:=hk.2 (by omega)
    omega
  exact Bd.of n (by omega) hs this hk
theorem Bd.nc_of {s:List UInt8} (h:isTextS s=true) {k:Nat} (hk:NC s k):Bd s k:=Bd.of k (b:=0) (by omega) ⟨Nat.zero_le _,h⟩ (Nat.zero_le _) hk
theorem Bd.ascii {s:List UInt8} (h:isTextS s=true) {k:Nat} (hk:k≤s.length) (hc:(s.getD k 0).toNat<128):Bd s k:=Bd.nc_of h ⟨hk,fun _ => .inl hc⟩
theorem Bd.end {s:List UInt8} (h:isTextS s=true):Bd s s.length:=Bd.nc_of h ⟨Nat.le_refl _,fun h=>by omega⟩
theorem Bd.behind {s:List UInt8} (h:isTextS s=true) {k:Nat} (hk:k<s.length) (hc:(s.getD k 0).toNat<128):Bd s (k+1):=by
 have hb:=Bd.ascii h (Nat.le_of_lt hk) hc
 have:=hb.step hk
 rw[drop_cons hk,dec_ascii hc]at this
 exact this
theorem isW_ascii {c:UInt8} (h:isW c=true):c.toNat<128:=by
 have hc:c=32∨c=9∨c=10:=by
  unfold isW at h
  simpa[or_assoc]using h
 rcases hc with rfl | rfl | rfl<;>decide
theorem Bd.white {s:List UInt8} (h:isTextS s=true) {i k:Nat} (hi:Bd s i) (hik:i≤k) (hk:k≤s.length) (hw:∀j,i≤j→j<k→isW (s.getD j 0)=true):Bd s k:=by
 by_cases e:i=k
 ·rw[←e];exact hi
 ·have:=Bd.behind h (k:=k-1) (by omega) (isW_ascii (hw (k-1) (by omega) (by omega)))
  rw[show k-1+1=k by omega]at this
  exact this
theorem placeS_succ (s:List UInt8) (n:Nat):placeS s (n+1)=if s.getD n 0=10 then((placeS s n).1+1,1)else if s.length≤n+1∨(s.getD (n+1) 0).toNat<128∨192≤(s.getD (n+1) 0).toNat then((placeS s n).1,(placeS s n).2+1)else placeS s n:=rfl
theorem place_mid {s:List UInt8} {b:Nat}:∀(n:Nat),(∀j,b≤j→j<b+n→s.getD j 0≠10∧j+1<s.length∧128≤(s.getD (j+1) 0).toNat∧(s.getD (j+1) 0).toNat<192)→placeS s (b+n)=placeS s b
 | 0,_=>rfl
 | n+1,h=>by
  have h1:=h (b+n) (by omega) (by omega)
  rw[show b+(n+1)=(b+n)+1 from rfl,placeS_succ,if_neg h1.1,if_neg (by omega)]
  exact place_mid n fun j h2 h3=>h j h2 (by omega)
theorem place_step {s:List UInt8} {b:Nat} (h:Bd s b) (hlt:b<s.length):step1 s (b,placeS s b)=(b+(dec (s.drop b)).2,placeS s (b+(dec (s.drop b)).2)):=by
 have hs:=(h.step hlt).nc
 obtain⟨n,h1,h2,h3,h4⟩:=dec_bytes hlt
 have hnc:=h.nc
 unfold step1
 simp only
 rw[h1]at hs ⊢
 have hlast:placeS s (b+(n+1))=if s.getD (b+n) 0=10 then((placeS s (b+n)).1+1,1)else((placeS s (b+n)).1,(placeS s (b+n)).2+1):=by
  have hlc:s.length≤b+n+1∨(s.getD (b+n+1) 0).toNat<128∨192≤(s.getD (b+n+1) 0).toNat:=by
   rcases Nat.lt_or_ge (b+n+1) s.length with h5 | h5
   ·exact Or.inr (hs.2 h5)
   ·exact Or.inl h5
  rw[show b+(n+1)=(b+n)+1 from rfl,placeS_succ,if_pos hlc]
 by_cases h10:(dec (s.drop b)).1=10
 ·have hc:s.getD b 0=10:=by
   rw[drop_cons hlt]at h10
   rcases Nat.lt_or_ge (s.getD b 0).toNat 128 with h | h
   ·rw[dec_ascii h]at h10
    exact UInt8.toNat_inj.1 h10
   ·have:=dec_high (b:=s.getD b 0) (t:=s.drop (b+1)) h
    omega
  have hn:n=0:=by
   by_cases hn:n=0
   ·exact hn
   ·have:=h4 (by omega)
    rw[hc]at this
    simp at this
  subst hn
  rw[if_pos h10,hlast]
  simp only[Nat.add_zero]
  rw[if_pos hc]
 ·have hc:s.getD b 0≠10:=by
   intro hc
   apply h10
   rw[drop_cons hlt,hc,dec_ascii (by decide)]
   rfl
  rw[if_neg h10]
  have hne:s.getD (b+n) 0≠10:=by
   by_cases hn:n=0
   ·subst hn;exact hc
   ·have:=h3 (b+n) (by omega) (by omega)
    intro hh
    rw[hh]at this
    simp at this
  rw[hlast,if_neg hne,place_mid n fun j h5 h6=>⟨?_,by omega,h3 (j+1) (by omega) (by omega)⟩]
  by_cases hj:j=b
  ·rw[hj];exact hc
  ·have:=h3 j (by omega) (by omega)
   intro hh
   rw[hh]at this
   simp at this
theorem find_place {s:List UInt8} {k:Nat} (hk:Bd s k):∀(f b:Nat),k-b≤f→b≤k→Bd s b→findF s k f (b,placeS s b)=(k,placeS s k)
 | 0,b,h1,h2,_=>by rw[show b=k by omega];rfl
 | f+1,b,h1,h2,hb=>by
  simp only[findF]
  by_cases e:b<k
  ·have hlt:b<s.length:=by have:=hk.1;omega
   rw[if_pos e,place_step hb hlt]
   obtain⟨n,h3,h4,h5,_⟩:=dec_bytes hlt
   have hdd:=dec_drop hlt
   refine find_place hk f _ (by omega) ?_ (hb.step hlt)
   by_cases hc:b+(dec (s.drop b)).2≤k
   ·exact hc
   ·have h6:=h5 k (by omega) (by omega)
    have:=hk.nc.2 (by omega)
    omega
  ·rw[if_neg e,show b=k by omega]
theorem findS_place {s:List UInt8} {k b:Nat} (hk:Bd s k) (hb:Bd s b) (h:b≤k):findS s k (b,placeS s b)=(k,placeS s k):=find_place hk _ _ (Nat.le_refl _) h hb
end Go.Ab
namespace Go.Ab
open Go Go.Lib
theorem pre_at {s:List UInt8} {k:Nat} {c:UInt8} {p:List UInt8} (h:Lib.hasPrefix (s.drop k) (c::p)=true):k<s.length∧s.getD k 0=c∧Lib.hasPrefix (s.drop (k+1)) p=true:=by
 have hl:=hasPrefix_len h
 simp only[List.length_drop,List.length_cons]at hl
 have hlt:k<s.length:=by omega
 rw[drop_cons hlt]at h
 simp only[Lib.hasPrefix,List.isPrefixOf,Bool.and_eq_true,beq_iff_eq]at h
 exact⟨hlt,h.1.symm,h.2⟩
theorem tagF_last {s:List UInt8}:∀(f k:Nat) (l:List (List UInt8 × List UInt8)) (x),tagF f s k l=some x→1≤x.2.2∧s.getD (x.2.2-1) 0=62
 | 0,_,_,_,h=>by simp[tagF]at h
 | f+1,k,l,x,h=>by
  simp only[tagF]at h
  split at h
  ·rename_i hp
   cases h
   exact⟨by simp,(pre_at hp).2.1⟩
  split at h
  ·rename_i hp
   cases h
   exact⟨by simp,(pre_at (pre_at hp).2.2).2.1⟩
  split at h
  ·cases h
  split at h
  ·exact tagF_last f _ _ _ h
  ·cases h
theorem pieceS_last {s:List UInt8} {p q:Pst} {x:Ev} (h:pieceS s p = .ok (x,q)):1≤q.i∧s.getD (q.i-1) 0=62:=by
 unfold pieceS at h
 split at h
 ·rename_i hc
  cases h
  simp only
  unfold commentS at hc ⊢
  split at hc
  case isFalse=>simp at hc
  rename_i hp
  rw[if_pos hp]
  simp only[Bool.and_eq_true]at hc ⊢
  obtain⟨h1,h2⟩:=hc
  rw[cut_eq]at h1 h2 ⊢
  by_cases hx:0≤Lib.index ((s.drop p.i).drop 4) sDash
  ·rw[if_pos hx]at h2 ⊢
   have hr:=Lib.index_room _ _ hx
   simp only[List.drop_drop]at h2 hr ⊢
   have:=(pre_at h2).2.1
   refine⟨by omega,?_⟩
   rw[←this]
   congr 1
   simp only[List.length_take,List.length_drop,sDash,List.length_cons,List.length_nil]at hr ⊢
   omega
  ·rw[if_neg hx]at h1
   cases h1
 split at h
 ·rename_i hc
  cases h
  simp only
  unfold instrS at hc ⊢
  split at hc
  case isFalse=>simp at hc
  rename_i hp
  rw[if_pos hp]
  simp only at hc ⊢
  split at hc
  case isFalse=>simp at hc
  rename_i h1
  rw[if_pos h1]
  split at hc
  case isTrue=>simp at hc
  rename_i h2
  rw[if_neg h2]
  simp only
  rcases Lib.index_spec (s.drop (skipN s (untilN s (p.i+2) [63]))) [63,62]with ⟨e1,_⟩ | ⟨m,e1,_,e3,_⟩
  ·exact absurd (Or.inl (by omega)) h2
  ·rw[e1,Int.toNat_natCast]
   refine⟨by omega,?_⟩
   unfold Lib.occAt at e3
   rw[List.drop_drop]at e3
   have:=(pre_at (pre_at (p:=[62]) (by simpa[Lib.hasPrefix]using e3)).2.2).2.1
   exact this
 split at h
 ·rename_i hc
  split at h
  case isFalse=>cases h
  cases h
  simp only
  unfold endS at hc ⊢
  split at hc
  case isFalse=>simp at hc
  rename_i hp
  rw[if_pos hp]
  simp only[Bool.and_eq_true]at hc ⊢
  exact⟨by omega,(pre_at hc.2).2.1⟩
 split at h
 ·cases h
 ·rename_i t ht
  split at h
  ·cases h
  split at h
  ·cases h
  split at h
  ·cases h
  cases h
  have hn:1≤t.next∧s.getD (t.next-1) 0=62:=by
   unfold startS at ht
   simp only at ht
   split at ht
   ·rw[Option.map_eq_some_iff]at ht
    obtain⟨y,hy,rfl⟩:=ht
    exact tagF_last _ _ _ _ hy
   ·cases ht
  split
  ·exact hn
  ·exact hn
theorem declS_last {s:List UInt8} (h:0<declS s):1≤(declS s).toNat∧(declS s).toNat≤s.length∧s.getD ((declS s).toNat-1) 0=62:=by
 unfold declS at h ⊢
 split at h
 case isFalse=>omega
 rename_i hh
 rw[if_pos hh]
 split at h
 case isFalse=>omega
 rename_i h2
 rw[if_pos h2]
 rcases Lib.index_spec (s.drop 5) [63,62]with ⟨e1,_⟩ | ⟨m,e1,_,e3,_⟩
 ·omega
 ·have hr:=Lib.index_room (s.drop 5) [63,62] h2
  rw[e1]at hr ⊢
  simp only[List.length_drop,List.length_cons,List.length_nil]at hr
  have e:(5+(m:Int)+2).toNat=5+m+2:=by omega
  rw[e]
  unfold Lib.occAt at e3
  rw[List.drop_drop]at e3
  exact⟨by omega,by omega,(pre_at (pre_at (p:=[62]) (by simpa[Lib.hasPrefix]using e3)).2.2).2.1⟩
theorem rowF_stop {s:List UInt8} {top:Bool}:∀(f i:Nat) (acc:List UInt8) (is:Bool) (x),s.length-i≤f→i≤s.length→rowF f top s i acc is = .ok x→x.2.2=s.length∨s.getD x.2.2 0=60
 | 0,i,acc,is,x,hf,hi,h=>by
  simp only[rowF,Except.ok.injEq]at h
  subst h
  exact .inl (by simp only;omega)
 | f+1,i,acc,is,x,hf,hi,h=>by
  simp only[rowF]at h
  split at h
  ·rename_i hl
   split at h
   ·rename_i hc
    have:=cdataS_bound hc
    split at h
    ·cases h
    ·exact rowF_stop f _ _ _ _ (by omega) (by omega) h
   split at h
   ·rename_i h0
    cases h
    exact .inr ((row60 hl).1.1 h0)
   ·have hb:i<rowEnd s i∧rowEnd s i≤s.length:=rowEnd_bound hl
    change(match ptextS top (s.take (rowEnd s i)) i acc with | .error w=>Except.error w | .ok acc'=>rowF f top s (rowEnd s i) acc' true) = .ok x at h
    split at h
    ·cases h
    ·exact rowF_stop f _ _ _ _ (by omega) hb.2 h
  ·cases h
   exact .inl (by simp only;omega)
def EvPl (s:List UInt8) (p:Pst):Except Wrong (Option (Ev × Nat) × Pst)→Prop
 | .error w=>Bd s w.at_∧p.i≤w.at_
 | .ok (none,q)=>q.i=s.length∧q.empty=p.empty∧q.opens=[]∧q.any=true∧p.opens=[]∧p.any=true
 | .ok (some (_,f),q)=>Bd s f∧p.i≤f∧f<q.i∧Bd s q.i
theorem ev_places {s:List UInt8} (hs:isTextS s=true):∀(n:Nat) (p:Pst),s.length-p.i≤n→Bd s p.i→EvPl s p (eventL s p)
 | n,p,hn,hb=>by
  have hi:=hb.1
  by_cases hlt:p.i<s.length
  case neg=>
   rw[eventL_step,if_neg hlt]
   split
   ·exact⟨Bd.end hs,hi⟩
   ·rename_i h
    have ho:p.opens=[]∧p.any=true:=by
     cases h1:p.opens with
     | nil=>refine⟨rfl,?_⟩;cases h2:p.any with | true=>rfl | false=>exact absurd (Or.inr h2) h
     | cons a l=>exact absurd (Or.inl (by rw[h1];simp)) h
    exact⟨by omega,rfl,ho.1,ho.2,ho.1,ho.2⟩
  cases n with
  | zero=>omega
  | succ n=>
  rw[eventL_step,if_pos hlt]
  have key:∀(top:Bool),match rowS top s p.i with
   | .error w=>Bd s w.at_∧p.i≤w.at_
   | .ok x=>Bd s x.2.2:=by
   intro top
   cases top with
   | true=>
    have ht:=top_eq (s:=s) (t:=rst0) rfl (s.length-p.i) p.i false (Nat.le_refl _) hi
    change match rowL true s p.i [] false with
     | .error w=>Bd s w.at_∧p.i≤w.at_
     | .ok x=>Bd s x.2.2
    generalize rowL true s p.i [] false=r at ht
    cases r with
    | error w=>exact⟨Bd.white hs hb ht.2.2.1 (Nat.le_of_lt ht.2.2.2.1) ht.2.2.2.2,ht.2.2.1⟩
    | ok x=>exact Bd.white hs hb ht.2.2.1 ht.2.2.2.1 ht.2.2.2.2
   | false=>
    have hre:=row_eq (s:=s) (s.length-p.i) p.i [] false (Nat.le_refl _) hi
    change match rowL false s p.i [] false with
     | .error w=>Bd s w.at_∧p.i≤w.at_
     | .ok x=>Bd s x.2.2
    have hst:=rowF_stop (s:=s) (top:=false) (s.length-p.i) p.i [] false
    have hbd:=rowF_bound (s:=s) (top:=false) (s.length-p.i) p.i [] false
    change ∀x,_→_→rowL false s p.i [] false = .ok x→_ at hst
    change ∀x,_→rowL false s p.i [] false = .ok x→_ at hbd
    generalize rowL false s p.i [] false=r at hre hst hbd
    cases r with
    | error w=>exact⟨Bd.ascii hs (Nat.le_of_lt hre.2.2.2.1) hre.2.2.2.2,hre.2.2.1⟩
    | ok x=>
     have h1:=hst x (Nat.le_refl _) hi rfl
     have h2:=hbd x hi rfl
     rcases h1 with h1 | h1
     ·simp only
      rw[h1]
      exact Bd.end hs
     ·exact Bd.ascii hs h2.2.1 (by rw[h1];decide)
  have hk:=key (p.opens==[])
  have hrb:=rowS_bound (s:=s) (top:=p.opens==[]) (i:=p.i) (x:=(rowS (p.opens==[]) s p.i).toOption.getD ([],false,0)) hi
  generalize rowS (p.opens==[]) s p.i=r at hk hrb
  cases r with
  | error w=>exact hk
  | ok x=>
   obtain⟨row,is,j⟩:=x
   have hrb:=hrb rfl
   simp only[Except.toOption,Option.getD_some]at hk hrb ⊢
   cases is with
   | true=>
    have hij:=hrb.2.2 rfl
    simp only[if_true]
    by_cases hrow:row=[]
    ·rw[if_pos hrow]
     have:=ev_places hs n { p with i:=j } (by simp only;omega) hk
     generalize eventL s { p with i:=j }=r at this
     match r,this with
     | .error w,h=>exact⟨h.1,by have:=h.2;simp only at this;omega⟩
     | .ok (none,q),h=>exact h
     | .ok (some (x,f),q),h=>exact⟨h.1,by have:=h.2.1;simp only at this;omega,h.2.2⟩
    ·rw[if_neg hrow]
     exact⟨hb,Nat.le_refl _,by simp only;omega,hk⟩
   | false=>
    simp only[Bool.false_eq_true,if_false]
    cases hp:pieceS s p with
    | error w=>
     have:w.at_=p.i:=by
      unfold pieceS at hp
      split at hp
      ·cases hp
      split at hp
      ·cases hp
      split at hp
      ·split at hp
       ·cases hp
       ·cases hp;rfl
      split at hp
      ·cases hp;rfl
      split at hp
      ·cases hp;rfl
      split at hp
      ·cases hp;rfl
      split at hp
      ·cases hp;rfl
      ·cases hp
     exact⟨by rw[this];exact hb,by rw[this];exact Nat.le_refl _⟩
    | ok y=>
     obtain⟨x,q⟩:=y
     have h1:=pieceS_last hp
     have h2:=pieceS_bound hlt hp
     refine⟨hb,Nat.le_refl _,by have:=h2.1;simp only at this ⊢;omega,?_⟩
     have:=Bd.behind hs (k:=q.i-1) (by have:=h2.2.1;simp only at this;omega) (by rw[h1.2];decide)
     rw[show q.i-1+1=q.i by omega]at this
     exact this
end Go.Ab
namespace Go.Ab
open Go Go.Lib
theorem nameQ (r:List UInt8):isNameS (63::r)=false:=by
 have hp:isPartS (Lib.cut (63::r) [58]).1=false:=by
  have key:∀u,isPartS (63::u)=false:=fun u=>by
   have h:=partL_step true (l:=63::u) (by simp)
   rw[dec_ascii (by decide)]at h
   have h2:partChar true ((63:UInt8).toNat:Int)=false:=by decide
   unfold isPartS
   change(partL true (63::u)&&_)=false
   rw[h]
   simp only
   rw[h2]
   rfl
  rw[cut_eq]
  split
  ·rename_i h
   rcases Lib.index_spec (63::r) [58]with ⟨e1,_⟩ | ⟨m,e1,_,e3,_⟩
   ·omega
   ·cases m with
    | zero=>
     have:=(occ60 _ _ _).1 e3
     simp at this
    | succ m=>
     rw[e1,Int.toNat_natCast,List.take_succ_cons]
     exact key _
  ·exact key _
 unfold isNameS
 rw[hp]
 simp
theorem decl_none {s:List UInt8} (h:declS s<0):0<s.length∧s.getD 0 0=60∧atP s 0=none:=by
 have hp:Lib.hasPrefix s sXml=true∧Lib.index (s.drop 5) [63,62]<0:=by
  unfold declS at h
  split at h
  ·rename_i hh
   split at h
   ·omega
   ·exact⟨hh.1,by omega⟩
  ·omega
 obtain⟨hx,hn⟩:=hp
 have q0:=pre_at (s:=s) (k:=0) hx
 have q1:=pre_at q0.2.2
 have q2:=pre_at q1.2.2
 have q3:=pre_at q2.2.2
 have q4:=pre_at q3.2.2
 refine⟨q0.1,q0.2.1,?_⟩
 have hno:∀m,¬Lib.occAt s [63,62] m=true∨m<2:=by
  intro m
  by_cases hm:m<2
  ·exact .inr hm
  left
  intro ho
  unfold Lib.occAt at ho
  have h1:=pre_at (s:=s) (k:=m) (c:=63) (p:=[62]) (by simpa[Lib.hasPrefix]using ho)
  rcases Nat.lt_or_ge m 5 with h5 | h5
  ·have:m=2∨m=3∨m=4:=by omega
   rcases this with rfl | rfl | rfl
   ·have:=q2.2.1;rw[h1.2.1]at this;cases this
   ·have:=q3.2.1;rw[h1.2.1]at this;cases this
   ·have:=q4.2.1;rw[h1.2.1]at this;cases this
  ·rcases Lib.index_spec (s.drop 5) [63,62]with ⟨_,e2⟩ | ⟨k,e1,_⟩
   ·have:=e2 (m-5) (by simp only[List.length_drop];omega)
    unfold Lib.occAt at this
    rw[List.drop_drop,show 5+(m-5)=m by omega,ho]at this
    cases this
   ·omega
 have hcom:Lib.hasPrefix (s.drop 0) sCom=false:=by
  rw[Bool.eq_false_iff]
  intro hh
  have:=(pre_at (pre_at hh).2.2).2.1
  rw[q1.2.1]at this
  cases this
 have hcd:¬(cdataS s 0).2.2=true:=by
  intro hh
  have:=(pre_at (pre_at (cdata_pre hh)).2.2).2.1
  rw[q1.2.1]at this
  cases this
 have hoth:otherP s 0=none:=by
  rw[otherP_rest hcom,if_neg hcd,if_neg (by rintro⟨_,h2⟩;omega),instrR_eq (Nat.zero_le _),if_neg]
  unfold instrS
  split
  ·simp only
   split
   ·rw[if_pos]
    ·simp
    ·left
     have h1:=untilN_ge s (0+2) [63]
     have h2:=skipN_ge s (untilN s (0+2) [63])
     generalize skipN s (untilN s (0+2) [63])=f at h2
     rcases Lib.index_spec (s.drop f) [63,62]with ⟨e1,_⟩ | ⟨m,e1,_,e3,_⟩
     ·omega
     ·exfalso
      unfold Lib.occAt at e3
      rw[List.drop_drop]at e3
      rcases hno (f+m)with h3 | h3
      ·exact h3 e3
      ·omega
   ·simp
  ·simp
 have hend:endP s 0=none:=by
  unfold endP
  rw[if_neg]
  unfold endS
  rw[if_neg]
  ·simp
  ·intro hh
   have:=(pre_at (pre_at hh).2.2).2.1
   rw[q1.2.1]at this
   cases this
 have hst:startP s 0=none:=by
  unfold startP startS
  simp only
  rw[if_neg]
  ·rfl
  ·have hd:s.drop 1=63::s.drop 2:=by rw[drop_cons (by have:=q1.1;omega),show s.getD 1 0=63 from q1.2.1]
   have hu:∃r,(s.take (untilN s (0+1) [47,62])).drop (0+1)=63::r:=by
    unfold untilN
    rw[show 0+1=1 from rfl,hd,List.takeWhile_cons_of_pos (by decide),List.length_cons]
    refine⟨(s.drop 2).take ((s.drop 2).takeWhile fun c => !isW c&&decide (Lib.indexByte [47,62] c<0)).length,?_⟩
    rw[←List.take_drop,hd,List.take_succ_cons]
   obtain⟨r,hr⟩:=hu
   rw[hr,nameQ]
   simp
 unfold atP
 rw[hoth,hend,hst]
 rfl
theorem decl_some {s:List UInt8} (h:0<declS s):0<s.length∧s.getD 0 0=60∧atP s 0=some ⟨⟨0,[],[],[],0,0⟩,(declS s).toNat,false,false,false,true⟩:=by
 have hx:Lib.hasPrefix s sXml=true:=by
  unfold declS at h
  split at h
  ·rename_i hh;exact hh.1
  ·omega
 have q0:=pre_at (s:=s) (k:=0) hx
 have q1:=pre_at q0.2.2
 have hcom:Lib.hasPrefix (s.drop 0) sCom=false:=by
  rw[Bool.eq_false_iff]
  intro hh
  have:=(pre_at (pre_at hh).2.2).2.1
  rw[q1.2.1]at this
  cases this
 have hcd:¬(cdataS s 0).2.2=true:=by
  intro hh
  have:=(pre_at (pre_at (cdata_pre hh)).2.2).2.1
  rw[q1.2.1]at this
  cases this
 refine⟨q0.1,q0.2.1,?_⟩
 unfold atP
 rw[otherP_rest hcom,if_neg hcd,if_pos ⟨rfl,h⟩]
 rfl
theorem event_sim {s:List UInt8} (hs:isTextS s=true) {p:Pst} {t:RSt} (hb:Bd s p.i) (hem:p.empty=none) (ho:t.opens=p.opens) (ha:t.any=p.any) (h200:p.opens.length≤200) (hz:p.i=0→p.opens=[]) :
  rreadL s p.i t=simR s t (eventS s p)∧EvPl s p (eventS s p):=by
 unfold eventS
 by_cases hd:p.i=0∧declS s≠0
 ·rw[if_pos hd]
  obtain⟨hi,hd⟩:=hd
  have hop:=hz hi
  have hrp:rowP s 0 t = .ok ([],false,0):=by unfold rowP;rw[if_pos (by rw[ho,hop])]
  have hst:=rreadL_step s 0 t
  by_cases hneg:declS s<0
  ·rw[if_pos hneg]
   obtain⟨h1,h2,h3⟩:=decl_none hneg
   rw[if_pos h1,hrp]at hst
   simp only[Bool.false_eq_true,if_false]at hst
   rw[if_neg (by rw[h2];simp),h3]at hst
   rw[hi,hst]
   exact⟨rfl,by rw[←hi];exact hb,by rw[hi];exact Nat.le_refl _⟩
  ·rw[if_neg hneg]
   have hpos:0<declS s:=by omega
   obtain⟨h1,h2,h3⟩:=decl_some hpos
   obtain⟨k1,k2,k3⟩:=declS_last hpos
   rw[if_pos h1,hrp]at hst
   simp only[Bool.false_eq_true,if_false]at hst
   rw[if_neg (by rw[h2];simp),h3]at hst
   have hpp:pieceP s t ⟨⟨0,[],[],[],0,0⟩,(declS s).toNat,false,false,false,true⟩ 0=(0,t):=rfl
   simp only[Bool.false_eq_true,if_false,hpp,if_true]at hst
   have hbd:Bd s (declS s).toNat:=by
    have:=Bd.behind hs (k:=(declS s).toNat-1) (by omega) (by rw[k3];decide)
    rw[show(declS s).toNat-1+1=(declS s).toNat by omega]at this
    exact this
   rw[hi,hst]
   have hsim:=sim (s:=s) s.length { p with i:=(declS s).toNat } t (by simp only;omega) k2 hem ho ha h200 (.inl (by simp only;omega))
   have hpl:=ev_places hs s.length { p with i:=(declS s).toNat } (by simp only;omega) hbd
   change rreadL s (declS s).toNat t=simR s t (eventL s { p with i:=(declS s).toNat })∧EvPl s p (eventL s { p with i:=(declS s).toNat })
   refine⟨hsim,?_⟩
   generalize eventL s { p with i:=(declS s).toNat }=r at hpl
   match r,hpl with
   | .error w,h=>exact⟨h.1,by rw[hi];exact Nat.zero_le _⟩
   | .ok (none,q),h=>exact h
   | .ok (some (x,f),q),h=>exact⟨h.1,by rw[hi];exact Nat.zero_le _,h.2.2⟩
 ·rw[if_neg hd]
  refine⟨sim (s:=s) (s.length-p.i) p t (Nat.le_refl _) hb.1 hem ho ha h200 ?_,ev_places hs _ p (Nat.le_refl _) hb⟩
  by_cases h0:p.i=0
  ·right
   by_cases hz:declS s=0
   ·exact hz
   ·exact absurd ⟨h0,hz⟩ hd
  ·exact .inl h0
structure NR (s:List UInt8) (q:Par) (t:RSt):Prop where
 e:q.e=0
 em:q.p.empty=none
 op:t.opens=q.p.opens
 any:t.any=q.p.any
 d:q.p.opens.length≤200
 z:q.p.i=0→q.p.opens=[]
 b:Bd s q.p.i
 last:q.last=(q.p.i,placeS s q.p.i)
 seen:q.seen=(q.p.i,placeS s q.p.i)
inductive Steps (s:List UInt8):Par→List Ev→List Nat→Par→Prop where
 | nil (q:Par):Steps s q [] [] q
 | cons {q q' q2:Par} {x:Ev} {e:Nat} {xs:List Ev} {es:List Nat} (h:nextS s q=((x,true,0),q')) (hl:q'.last.2=placeS s e) (he:e≤s.length) (r:Steps s q' xs es q2):Steps s q (x::xs) (e::es) q2
def AtEnd (s:List UInt8) (q:Par) (R:RSt × Nat × Nat):Prop:=
 ∃q2,nextS s q=((noEv,false,R.2.2),q2)∧q2.last.2=placeS s (if R.2.2=0 then s.length else R.2.1)∧nextS s q2=((noEv,false,R.2.2),q2)
theorem steps {s:List UInt8} (hs:isTextS s=true):∀(n:Nat) (q:Par) (t:RSt),s.length-q.p.i≤n→NR s q t →
  ∃xs es q',(rreadL s q.p.i t).1.l=t.l++xs∧(rreadL s q.p.i t).1.ends=t.ends++es∧Steps s q xs es q'∧AtEnd s q' (rreadL s q.p.i t)
 | n,q,t,hn,N=>by
  obtain⟨h1,h2⟩:=event_sim hs N.b N.em N.op N.any N.d N.z
  have hnx:nextS s q=match eventS s q.p with
   | .error w=>((noEv,false,w.e),{ q with last:=findS s w.at_ q.seen,seen:=findS s w.at_ q.seen,e:=w.e })
   | .ok (none,p)=>((noEv,false,0),{ q with p:=p,last:=findS s p.i q.seen,seen:=findS s p.i q.seen })
   | .ok (some (x,from_),p)=>(({ x with line:=(findS s from_ q.seen).2.1,col:=(findS s from_ q.seen).2.2 },true,0),{ q with p:={ p with empty:=p.empty.map fun z=>{ z with line:=(findS s from_ q.seen).2.1,col:=(findS s from_ q.seen).2.2 } },last:=findS s p.i (findS s from_ q.seen),seen:=findS s p.i (findS s from_ q.seen) }):=by
   unfold nextS
   rw[if_neg (by simp[N.e]),N.em]
   rfl
  have h200:=fun r hr=>eventS_opens (s:=s) (p:=q.p) (r:=r) N.d hr
  have hne:=fun w hw=>eventS_ne (s:=s) (p:=q.p) (w:=w) hw
  generalize hE:eventS s q.p=E at h1 h2 hnx h200 hne
  rw[h1]
  match E,h2,hnx,h200,hne,hE with
  | .error w,h2,hnx,_,hne,_=>
   refine⟨[],[],q,by simp[simR],by simp[simR],.nil q,?_⟩
   simp only at hnx
   rw[N.seen,findS_place h2.1 N.b h2.2]at hnx
   refine⟨_,hnx,?_,?_⟩
   ·show placeS s w.at_=placeS s (if w.e=0 then s.length else w.at_)
    rw[if_neg (hne w rfl)]
   ·unfold nextS
    rw[if_pos (hne w rfl)]
    rfl
  | .ok (none,p),h2,hnx,_,_,hE=>
   refine⟨[],[],q,by simp[simR],by simp[simR],.nil q,?_⟩
   simp only at hnx
   obtain⟨e1,e2,e3,e4,e5,e6⟩:=h2
   have hpl:=findS_place (k:=p.i) (by rw[e1];exact Bd.end hs) N.b (by rw[e1];exact N.b.1)
   rw[N.seen,hpl]at hnx
   refine⟨_,hnx,?_,?_⟩
   ·simp only[simR,if_true]
    rw[e1]
   ·have hev:eventS s p = .ok (none,p):=by
     unfold eventS
     rw[if_neg]
     ·show eventL s p=_
      rw[eventL_step,if_neg (by omega),if_neg (by simp[e3,e4])]
     ·rintro⟨a,b⟩
      apply b
      have hl:s.length=0:=by omega
      rw[List.length_eq_zero_iff.1 hl]
      rfl
    have hem:p.empty=none:=by rw[e2];exact N.em
    have hf:findS s p.i (p.i,placeS s p.i)=(p.i,placeS s p.i):=by
     unfold findS
     simp only[Nat.sub_self]
     rfl
    unfold nextS
    simp only[N.e,ne_eq,not_true_eq_false,if_false,hem,hev,hf,simR]
  | .ok (some (x,f),p),h2,hnx,h200,_,_=>
   obtain⟨e1,e2,e3,e4⟩:=h2
   simp only at hnx
   rw[N.seen,findS_place e1 N.b e2,findS_place e4 e1 (Nat.le_of_lt e3)]at hnx
   have hd:=h200 _ rfl
   simp only at hd
   simp only[simR]
   cases n with
   | zero=>have:=e4.1;omega
   | succ n=>
   cases hem:p.empty with
   | none=>
    rw[hem]at hnx
    have N':NR s { q with p:={ p with empty:=none },last:=(p.i,placeS s p.i),seen:=(p.i,placeS s p.i) } (t.put s x f p):=⟨N.e,rfl,rfl,rfl,hd,fun h=>by simp only at h;omega,e4,rfl,rfl⟩
    obtain⟨xs,es,q',r1,r2,r3,r4⟩:=steps hs n _ (t.put s x f p) (by simp only;omega) N'
    simp only at r1 r2 r4
    refine⟨plc s f x::xs,p.i::es,q',?_,?_,.cons hnx rfl e4.1 r3,r4⟩
    ·rw[r1]
     simp[RSt.put,hem]
    ·rw[r2]
     simp[RSt.put,hem]
   | some z=>
    rw[hem]at hnx
    have hn2:nextS s { q with p:={ p with empty:=some (plc s f z) },last:=(p.i,placeS s p.i),seen:=(p.i,placeS s p.i) }=((plc s f z,true,0),{ q with p:={ p with empty:=none },last:=(p.i,placeS s p.i),seen:=(p.i,placeS s p.i) }):=by
     unfold nextS
     rw[if_neg (by simp[N.e])]
    have N':NR s { q with p:={ p with empty:=none },last:=(p.i,placeS s p.i),seen:=(p.i,placeS s p.i) } (t.put s x f p):=⟨N.e,rfl,rfl,rfl,hd,fun h=>by simp only at h;omega,e4,rfl,rfl⟩
    obtain⟨xs,es,q',r1,r2,r3,r4⟩:=steps hs n _ (t.put s x f p) (by simp only;omega) N'
    simp only at r1 r2 r4
    refine⟨plc s f x::plc s f z::xs,p.i::p.i::es,q',?_,?_,.cons hnx rfl e4.1 (.cons hn2 rfl e4.1 r3),r4⟩
    ·rw[r1]
     simp[RSt.put,hem]
    ·rw[r2]
     simp[RSt.put,hem]
theorem par0_nr {s:List UInt8} (hs:isTextS s=true):NR s par0 rst0:=⟨rfl,rfl,rfl,rfl,by simp[par0],fun _=>rfl,⟨Nat.zero_le _,hs⟩,rfl,rfl⟩
theorem all_steps {s:List UInt8} {q q':Par} {xs:List Ev} {es:List Nat} (h:Steps s q xs es q'):∀(l:List Ev),q.p.i≤s.length→allL s q l=allL s q' (l++xs)∧q'.p.i≤s.length:=by
 induction h with
 | nil q=>intro l hi;exact⟨by simp,hi⟩
 | @cons q q' q2 x e xs es h hl he r ih=>
  intro l hi
  have hb:=(nextS_bound hi).1
  rw[h]at hb
  have:=ih (l++[x]) hb
  exact⟨by rw[all_next hi h,this.1];simp,this.2⟩
theorem all_ref {s:List UInt8} (hs:isTextS s=true):allL s par0 []=if(rreadS s).2.2=0 then((rreadS s).1.l,0,0,0)else([],(placeS s (rreadS s).2.1).1,(placeS s (rreadS s).2.1).2,(rreadS s).2.2):=by
 obtain⟨xs,es,q',r1,r2,r3,q2,r4,r5,r6⟩:=steps hs s.length par0 rst0 (by simp[par0]) (par0_nr hs)
 change(rreadS s).1.l=[]++xs at r1
 change nextS s q'=((noEv,false,(rreadS s).2.2),q2)at r4
 change q2.last.2=placeS s (if(rreadS s).2.2=0 then s.length else(rreadS s).2.1)at r5
 obtain⟨a1,a2⟩:=all_steps r3 [] (Nat.zero_le _)
 rw[a1,allL_step _ a2,r4]
 by_cases he:(rreadS s).2.2=0
 ·simp[he,r1]
 ·rw[if_neg he]at r5
  simp[he,r5]
theorem endsS_app:∀(c l:List UInt8),(∀x∈c,x≠13)→endsS (c++l)=c++endsS l
 | [],l,_=>rfl
 | b::c,l,h=>by
  have hb:=h b (by simp)
  have ih:=endsS_app c l fun x hx=>h x (by simp[hx])
  have:=endsS_ne (c++l) hb
  rw[List.cons_append,this,ih]
  rfl
theorem isTextS_ends:∀(n:Nat) (l:List UInt8),l.length≤n→isTextS l=true→isTextS (endsS l)=true
 | _,[],_,_=>rfl
 | 0,b::l,h,_=>absurd h (by simp)
 | n+1,b::l,hn,ht=>by
  simp only[List.length_cons]at hn
  by_cases h13:b=13
  ·subst h13
   rw[isTextS_ascii _ (by decide),Bool.and_eq_true]at ht
   have h10:∀m,isTextS (10::m)=isTextS m:=fun m=>by
    rw[isTextS_ascii _ (by decide)]
    have:isCharS ((10:UInt8).toNat:Int)=true:=by decide
    rw[this,Bool.true_and]
   cases l with
   | nil=>rfl
   | cons c l=>
    by_cases hc:c=10
    ·subst hc
     show isTextS (10::endsS l)=true
     rw[h10]
     rw[h10]at ht
     exact isTextS_ends n l (by simp only[List.length_cons]at hn;omega) ht.2
    ·have:=endsS_one (t:=c::l) (by simpa using hc)
     rw[this,h10]
     exact isTextS_ends n _ (by omega) ht.2
  ·by_cases hb:b.toNat<128
   ·have he:=endsS_app [b] l (by simpa using h13)
    rw[List.singleton_append]at he
    rw[he,List.singleton_append,isTextS_ascii _ hb]
    rw[isTextS_ascii _ hb,Bool.and_eq_true]at ht
    rw[ht.1,Bool.true_and]
    exact isTextS_ends n l (by omega) ht.2
   ·rw[isTextS_cons,Bool.and_eq_true]at ht
    rcases dec_split l (b:=b) (by omega)with h1 | ⟨c,m,rfl,hc1,hc,hw,h3⟩
    ·exfalso
     have hh:=ht.1
     unfold headTextS at hh
     rw[h1]at hh
     have hp:Lib.hasPrefix (b::l) [239,191,189]=true:=by
      have:isCharS ((65533:Nat):Int)=true∧Lib.hasPrefix (b::l) [239,191,189]=true:=by simpa using hh
      exact this.2
     simp only[Lib.hasPrefix,List.isPrefixOf_iff_prefix]at hp
     obtain⟨m,hm⟩:=hp
     rw[←hm]at h1
     have:=Lib.decodeL_N ([239,191,189]++m)
     rw[show Lib.decodeL ([239,191,189]++m)=dec ([239,191,189]++m)from rfl,h1]at this
     simp[Lib.decodeN]at this
    ·have he:=endsS_app (b::c) m (by
      intro x hx
      rcases List.mem_cons.1 hx with rfl | hx
      ·exact h13
      ·have:=hc x hx;rintro rfl;simp at this)
     rw[List.cons_append]at he
     rw[he,List.cons_append,isTextS_cons,Bool.and_eq_true]
     have ed:∀m':List UInt8,(b::(c++m')).drop (1+c.length)=m':=fun m'=>by rw[Nat.add_comm];simp
     rw[h3,hw,ed]
     rw[hw,ed]at ht
     refine⟨?_,isTextS_ends n m (by simp only[List.length_append]at hn;omega) ht.2⟩
     have hh:=ht.1
     unfold headTextS at hh ⊢
     rw[h3]
     by_cases h5:(dec (b::(c++m))).1=65533
     ·rw[h5]at hh ⊢
      simp only[beq_self_eq_true,Bool.not_true,Bool.false_or,Bool.and_eq_true]at hh ⊢
      refine⟨hh.1,?_⟩
      have hp:=hh.2
      simp only[Lib.hasPrefix,List.isPrefixOf_iff_prefix]at hp ⊢
      obtain⟨r,hr⟩:=hp
      simp only[List.cons_append,List.nil_append,List.cons.injEq]at hr
      have hd:(dec (b::(c++m))).2=3:=by
       rw[←hr.1,←hr.2]
       have:=Lib.decodeL_N (239::191::189::r)
       rw[show Lib.decodeL (239::191::189::r)=dec (239::191::189::r)from rfl]at this
       rw[this]
       simp[Lib.decodeN]
      rw[hd]at hw
      obtain⟨a1,a2,rfl⟩:∃a1 a2,c=[a1,a2]:=by
       have h2:c.length=2:=by omega
       match c,h2 with
       | [a1,a2],_=>exact⟨a1,a2,rfl⟩
      simp only[List.cons_append,List.nil_append,List.cons.injEq]at hr
      obtain⟨rfl,rfl,rfl,_⟩:=hr
      exact⟨endsS m,rfl⟩
     ·simp only[Bool.and_eq_true]at hh ⊢
      refine⟨hh.1,?_⟩
      simp[h5]
end Go.Ab
