/- The reference chiselref43 on lists of bytes; its values, attributes and start tags are the program's. The reference's pieces are those of the program, and so are its events. The events of the reference chiselref43 are those of the program. -/
import Derived.Test.YtojncnpmlhhccaaGreatDoorHA
import Derived.Test.YtojncnpmlhhccaaGreatDoorRB
set_option linter.all false
namespace Go.Ab
open Go Go.Lib
/-! Cutting at a byte. -/
theorem cut1_cons (p c:UInt8) (l:List UInt8):Lib.cut (c::l) [p]=if c=p then([],l,true)else(c::(Lib.cut l [p]).1,(Lib.cut l [p]).2.1,(Lib.cut l [p]).2.2):=by
 by_cases h:c=p
 ·subst h
  simp[Lib.cut,Lib.index,List.isPrefixOf]
 ·have hp:([p]:List UInt8).isPrefixOf (c::l)=false:=by simp[List.isPrefixOf,Ne.symm h]
  have hge:=Lib.index_ge l [p]
  rw[if_neg h]
  unfold Lib.cut
  simp only[Lib.index,hp,Bool.false_eq_true,if_false,beq_iff_eq]
  by_cases hm:Lib.index l [p] = -1
  ·rw[if_pos hm,hm]
   simp
  ·obtain⟨n,hn⟩:∃n:Nat,Lib.index l [p]=n:=⟨(Lib.index l [p]).toNat,by omega⟩
   rw[if_neg hm,hn,if_pos (by omega),if_pos (by omega)]
   have e:((n:Int)+1).toNat=n+1:=by omega
   rw[e,Int.toNat_natCast,List.take_succ_cons,show n+1+([p]:List UInt8).length=(n+([p]:List UInt8).length)+1 by simp only[List.length_singleton],List.drop_succ_cons]
theorem cut1_nil (p:UInt8):Lib.cut [] [p]=([],[],false):=by simp[Lib.cut,Lib.index]
theorem cut1_take (p:UInt8):∀(t:List UInt8) (m:Nat),Lib.cut (t.take m) [p]=if(Lib.cut t [p]).2.2=true∧(Lib.cut t [p]).1.length<m then((Lib.cut t [p]).1,(Lib.cut t [p]).2.1.take (m-(Lib.cut t [p]).1.length-1),true)else(t.take m,[],false)
 | [],m=>by simp[cut1_nil]
 | c::t,0=>by simp[cut1_nil]
 | c::t,m+1=>by
  rw[List.take_succ_cons,cut1_cons,cut1_cons p c t,cut1_take p t m]
  by_cases h:c=p
  ·simp[h]
  ·rw[if_neg h,if_neg h]
   by_cases h2:(Lib.cut t [p]).2.2=true∧(Lib.cut t [p]).1.length<m
   ·rw[if_pos h2,if_pos ⟨h2.1,by simp only[List.length_cons];omega⟩]
    simp only[List.length_cons,Nat.add_sub_add_right]
   ·rw[if_neg h2,if_neg (fun h=>h2 ⟨h.1,by have:=h.2;simp only[List.length_cons]at this;omega⟩)]
theorem cut1_rest (p:UInt8):∀(t:List UInt8),(Lib.cut t [p]).2.2=true→(Lib.cut t [p]).2.1=t.drop ((Lib.cut t [p]).1.length+1)∧(Lib.cut t [p]).1=t.take (Lib.cut t [p]).1.length∧(Lib.cut t [p]).1.length<t.length∧t.getD (Lib.cut t [p]).1.length 0=p
 | [],h=>by simp[cut1_nil]at h
 | c::t,h=>by
  rw[cut1_cons]at h ⊢
  by_cases hc:c=p
  ·simp[hc]
  ·rw[if_neg hc]at h ⊢
   have ih:=cut1_rest p t h
   simp only[List.length_cons,List.drop_succ_cons,List.take_succ_cons,List.cons.injEq,true_and]
   refine⟨ih.1,ih.2.1,by omega,?_⟩
   simpa[List.getD_cons_succ]using ih.2.2.2
theorem cut1_no (p:UInt8):∀(t:List UInt8),∀c∈(Lib.cut t [p]).1,c≠p
 | []=>by simp[cut1_nil]
 | c::t=>by
  rw[cut1_cons]
  split
  ·simp
  ·rename_i h
   intro d hd
   rcases List.mem_cons.1 hd with rfl | hd
   ·exact h
   ·exact cut1_no p t d hd
theorem cut1_none (p:UInt8):∀(t:List UInt8),(Lib.cut t [p]).2.2=false→(Lib.cut t [p]).1=t∧(Lib.cut t [p]).2.1=[]
 | [],_=>by simp[cut1_nil]
 | c::t,h=>by
  rw[cut1_cons]at h ⊢
  by_cases hc:c=p
  ·rw[if_pos hc]at h;cases h
  ·rw[if_neg hc]at h ⊢
   have ih:=cut1_none p t h
   exact⟨by simp only[ih.1],ih.2⟩
theorem contains_cut (x:List UInt8) (p:UInt8):Lib.contains x [p]=(Lib.cut x [p]).2.2:=by
 unfold Lib.contains Lib.cut
 by_cases h:0≤Lib.index x [p]
 ·rw[if_pos h];simp[h]
 ·rw[if_neg h];simp[h]
theorem findR_cut (s:List UInt8) (k:Nat) (p:List UInt8):findR s k p=if(Lib.cut (s.drop k) p).2.2=true then((k+(Lib.cut (s.drop k) p).1.length:Nat):Int)else -1:=by
 unfold findR Lib.cut
 by_cases h:0≤Lib.index (s.drop k) p
 ·have hr:=Lib.index_room _ _ h
  rw[if_pos h,if_neg (by omega),if_pos rfl]
  simp only[List.length_take]
  omega
 ·rw[if_neg h,if_pos (by omega)]
  simp
/-! Values. -/
theorem unescL_nil (acc:List UInt8):unescL [] acc=(acc,true):=by
 rw[unescL_step,cut1_nil]
 simp
theorem unescL_cons {c:UInt8} (l acc:List UInt8) (h:c≠38):unescL (c::l) acc=unescL l (acc++[c]):=by
 rw[unescL_step,unescL_step l,cut1_cons,if_neg h]
 simp only[List.append_assoc,List.singleton_append,List.cons_append,List.nil_append]
theorem unescL_amp (t acc:List UInt8):unescL (38::t) acc=if(Lib.cut t [59]).2.2=true∧(refHS (Lib.cut t [59]).1).2=true then unescL (Lib.cut t [59]).2.1 (acc++(refHS (Lib.cut t [59]).1).1)else([],false):=by
 rw[unescL_step,cut1_cons,if_pos rfl]
 simp
theorem refD_HS (t:List UInt8):((refD t).2.2=true↔(Lib.cut t [59]).2.2=true∧(refHS (Lib.cut t [59]).1).2=true)∧((refD t).2.2=true→(refD t).1=(refHS (Lib.cut t [59]).1).1∧(refD t).2.1=(Lib.cut t [59]).1.length):=by
 unfold refD refHS
 by_cases h1:(Lib.cut t [59]).2.2=true
 ·rw[if_pos h1]
  by_cases h2:(entityS (Lib.cut t [59]).1).2=true
  ·rw[if_pos h2,if_pos h2]
   simp[h1]
  ·rw[if_neg h2,if_neg h2]
   cases numS (Lib.cut t [59]).1 with
   | none=>simp
   | some n=>simp[h1]
 ·rw[if_neg h1]
  simp[h1]
def valueRF:Nat→List UInt8→Nat→Nat→List UInt8→List UInt8 × Bool
 | 0,_,_,_,acc=>(acc,true)
 | f+1,s,i,e,acc=>
  if i<e then
   (if s.getD i 0=38 then
    (if(refW s i).2<0∨(e:Int)<(refW s i).2 then([],false)else valueRF f s (refW s i).2.toNat e (acc++(refW s i).1))
   else valueRF f s (i+1) e (acc++[s.getD i 0]))
  else(acc,true)
theorem valueRF_eq {s:List UInt8} {e:Nat} (he:e≤s.length):∀(n i:Nat) (acc:List UInt8),e-i≤n→i≤e→valueRF n s i e acc=unescL ((s.take e).drop i) acc
 | 0,i,acc,hn,hi=>by
  have:i=e:=by omega
  subst this
  rw[List.drop_eq_nil_of_le (by simp only[List.length_take];omega),unescL_nil]
  rfl
 | n+1,i,acc,hn,hi=>by
  rw[valueRF]
  by_cases hlt:i<e
  ·rw[if_pos hlt]
   have hil:i<s.length:=by omega
   have hg:s.getD i 0=s[i]:=by rw[List.getD_eq_getElem?_getD,List.getElem?_eq_getElem hil];rfl
   have hd:(s.take e).drop i=s[i]::(s.take e).drop (i+1):=by
    rw[List.drop_eq_getElem_cons (by simp only[List.length_take];omega)]
    simp
   have hds:=List.drop_eq_getElem_cons hil
   rw[hg,hd]
   generalize s[i]=c at hd hds
   by_cases h38:c=38
   ·subst h38
    rw[if_pos rfl,unescL_amp]
    have hW:=refW_eq hds
    have hD:=refD_HS (s.drop (i+1))
    have htk:(s.take e).drop (i+1)=(s.drop (i+1)).take (e-(i+1)):=by rw[List.drop_take]
    rw[htk,cut1_take]
    have hrest:=cut1_rest 59 (s.drop (i+1))
    generalize hC:Lib.cut (s.drop (i+1)) [59]=C at hD hrest
    obtain⟨nm,rest,ok⟩:=C
    simp only at hD hrest
    by_cases hok:(refD (s.drop (i+1))).2.2=true
    ·obtain⟨d1,d2⟩:=hD.2 hok
     obtain⟨d3,d4⟩:=hD.1.1 hok
     rw[if_pos hok]at hW
     rw[hW,d1,d2]
     have hrest1:=(hrest d3).1
     subst d3
     by_cases hm:nm.length<e-(i+1)
     ·rw[if_neg (show ¬(((i+1+nm.length+1:Nat):Int)<0∨(e:Int)<((i+1+nm.length+1:Nat):Int)) by omega),if_pos (show(nm,rest,true).2.2=true∧(nm,rest,true).1.length<e-(i+1)from ⟨rfl,hm⟩)]
      simp only
      rw[if_pos ⟨trivial,d4⟩,Int.toNat_natCast,valueRF_eq he n _ _ (by omega) (by omega)]
      congr 1
      rw[hrest1,List.drop_drop,List.drop_take]
      congr 1
      omega
     ·rw[if_pos (show((i+1+nm.length+1:Nat):Int)<0∨(e:Int)<((i+1+nm.length+1:Nat):Int) by omega),if_neg (show ¬((nm,rest,true).2.2=true∧(nm,rest,true).1.length<e-(i+1))from fun h=>hm h.2)]
      simp
    ·rw[if_neg hok]at hW
     rw[hW,if_pos (.inl (by decide))]
     have hno:¬(ok=true∧(refHS nm).2=true):=fun h=>hok (hD.1.2 h)
     by_cases hf:ok=true∧nm.length<e-(i+1)
     ·rw[if_pos (show(nm,rest,ok).2.2=true∧(nm,rest,ok).1.length<e-(i+1)from hf)]
      simp only
      rw[if_neg (fun h=>hno ⟨hf.1,h.2⟩)]
     ·rw[if_neg (show ¬((nm,rest,ok).2.2=true∧(nm,rest,ok).1.length<e-(i+1))from hf)]
      simp
   ·rw[if_neg h38,unescL_cons _ _ h38]
    exact valueRF_eq he n (i+1) _ (by omega) (by omega)
  ·have:i=e:=by omega
   subst this
   rw[if_neg hlt,List.drop_eq_nil_of_le (by simp only[List.length_take];omega),unescL_nil]
def valueRS (s:List UInt8) (i e:Nat):List UInt8 × Bool:=valueRF (e-i) s i e []
theorem valueRS_eq {s:List UInt8} {i e:Nat} (hi:i≤e) (he:e≤s.length):valueRS s i e=unescS ((s.take e).drop i):=valueRF_eq he _ _ _ (Nat.le_refl _) hi
/-! Attributes. -/
theorem sgn32:stopC 32=true:=by decide
theorem sgn62:stopC 62=true:=by decide
theorem sgn61:stopC 61=true:=by decide
theorem upto_at (s st:List UInt8) (a:Nat) (ha:a≤s.length):(a+uptoS (s.drop a) st=s.length∨(a+uptoS (s.drop a) st<s.length∧st.contains (s.getD (a+uptoS (s.drop a) st) 0)=true))∧∀k,a≤k→k<a+uptoS (s.drop a) st→st.contains (s.getD k 0)=false:=by
 obtain⟨n,hn⟩:∃n,n=s.length-a:=⟨_,rfl⟩
 induction n generalizing a with
 | zero=>
  rw[uptoS_end st (by omega)]
  exact⟨.inl (by omega),fun k h1 h2=>by omega⟩
 | succ n ih=>
  have hlt:a<s.length:=by omega
  have hg:s.getD a 0=s[a]:=by rw[List.getD_eq_getElem?_getD,List.getElem?_eq_getElem hlt];rfl
  rw[uptoS_step st hlt]
  cases hc:st.contains s[a]with
  | true=>
   rw[if_pos rfl]
   exact⟨.inr ⟨hlt,by rw[Nat.add_zero,hg];exact hc⟩,fun k h1 h2=>by omega⟩
  | false=>
   rw[if_neg (by simp)]
   obtain⟨h1,h2⟩:=ih (a+1) (by omega) (by omega)
   have e:a+(uptoS (s.drop (a+1)) st+1)=a+1+uptoS (s.drop (a+1)) st:=by omega
   rw[e]
   refine⟨h1,fun k k1 k2=>?_⟩
   by_cases hk:k=a
   ·rw[hk,hg];exact hc
   ·exact h2 k (by omega) k2
def attrRS (s:List UInt8) (i:Nat):Option ((List UInt8 × List UInt8) × Nat):=
 let k:=nameR s (i+1)
 if Lib.hasPrefix (s.drop i) [32]=false∨k=i+1 then none
 else if Lib.hasPrefix (s.drop k) [61,34]=false then some (((s.take k).drop (i+1),(s.take k).drop (i+1)),k)
 else if findR s (k+2) [34]<0∨(0≤findR s (k+2) [60]∧findR s (k+2) [60]<findR s (k+2) [34])then none
 else if(valueRS s (k+2) (findR s (k+2) [34]).toNat).2=true then some (((s.take k).drop (i+1),(valueRS s (k+2) (findR s (k+2) [34]).toNat).1),(findR s (k+2) [34]).toNat+1)
 else none
theorem pre_one {s:List UInt8} {k:Nat} {c:UInt8}:Lib.hasPrefix (s.drop k) [c]=true↔k<s.length∧s.getD k 0=c:=by
 by_cases h:k<s.length
 ·have hg:s.getD k 0=s[k]:=by rw[List.getD_eq_getElem?_getD,List.getElem?_eq_getElem h];rfl
  rw[List.drop_eq_getElem_cons h,hg]
  unfold Lib.hasPrefix
  simp only[List.isPrefixOf,Bool.and_true,beq_iff_eq]
  exact⟨fun e=>⟨h,e.symm⟩,fun e=>e.2.symm⟩
 ·rw[List.drop_eq_nil_of_le (by omega)]
  constructor
  ·intro hh;cases hh
  ·intro hh;omega
theorem attr_eq {s:List UInt8} {i:Nat} (h32:Lib.hasPrefix (s.drop i) [32]=true) :
  ((attrHS (s.drop (i+1))).2.2=true→attrRS s i=some ((attrHS (s.drop (i+1))).1,i+1+(attrHS (s.drop (i+1))).2.1)) ∧
  ((attrHS (s.drop (i+1))).2.2=false→attrRS s i=none∨∃a k,attrRS s i=some (a,k)∧k<s.length∧Lib.hasPrefix (s.drop k) [32]=false∧Lib.hasPrefix (s.drop k) [62]=false):=by
 have hil:=(pre_one.1 h32).1
 obtain⟨hst,hmid⟩:=upto_at s [32,62,61] (i+1) (by omega)
 have hle:=uptoS_le (s.drop (i+1)) [32,62,61]
 simp only[List.length_drop]at hle
 unfold attrHS attrRS
 simp only[h32,Bool.true_eq_false,false_or]
 generalize hn:uptoS (s.drop (i+1)) [32,62,61]=n at *
 have hstop:i+1+n=s.length∨stopC (s.getD (i+1+n) 0)=true:=by
  rcases hst with h | ⟨_,h⟩
  ·exact .inl h
  ·right
   simp only[List.contains_iff_mem,List.mem_cons,List.not_mem_nil,or_false]at h
   rcases h with h | h | h
   ·rw[h];exact sgn32
   ·rw[h];exact sgn62
   ·rw[h];exact sgn61
 have hnm:(s.drop (i+1)).take n=(s.take (i+1+n)).drop (i+1):=by rw[List.drop_take];congr 1;omega
 rw[hnm]
 rcases nameR_at (s:=s) (i:=i+1) (j:=i+1+n) (by omega) (by omega) hstop with ⟨h1,h2,h3⟩ | ⟨h1,h2,h3⟩
 ·rw[if_pos h1,h2,if_neg (show ¬(i+1+n=i+1) by omega),List.drop_drop]
  cases hp:Lib.hasPrefix (s.drop (i+1+n)) [61,34]with
  | false=>
   simp
  | true=>
   simp only[if_true,Bool.true_eq_false,if_false]
   have hpl:=hasPrefix_len hp
   simp only[List.length_cons,List.length_nil,List.length_drop]at hpl
   rw[findR_cut,findR_cut,List.drop_drop,show i+1+(n+2)=i+1+n+2 by omega]
   have hrest:=cut1_rest 34 (s.drop (i+1+n+2))
   have hct:=cut1_take 60 (s.drop (i+1+n+2)) (Lib.cut (s.drop (i+1+n+2)) [34]).1.length
   rw[contains_cut]
   generalize hC:Lib.cut (s.drop (i+1+n+2)) [34]=C at hrest hct
   obtain⟨v,rest,ok⟩:=C
   generalize Lib.cut (s.drop (i+1+n+2)) [60]=D at hct
   obtain⟨w,rest2,ok2⟩:=D
   simp only at hrest hct
   cases hok:ok with
   | false=>
    simp
   | true=>
    obtain⟨r1,r2,r3,r4⟩:=hrest hok
    rw[←r2]at hct
    simp only[List.length_drop]at r3
    rw[hct]
    by_cases h60:ok2=true∧w.length<v.length
    ·rw[if_pos h60]
     simp only[Bool.true_eq_false,and_false,if_false,if_true,h60.1]
     rw[if_pos (.inr ⟨by omega,by omega⟩)]
     simp
    ·rw[if_neg h60]
     simp only[if_true,and_self]
     have hlt:¬(((i+1+n+2+v.length:Nat):Int)<0∨(0≤(if ok2=true then((i+1+n+2+w.length:Nat):Int)else -1)∧(if ok2=true then((i+1+n+2+w.length:Nat):Int)else -1)<((i+1+n+2+v.length:Nat):Int))):=by
      have h61:ok2=true→¬w.length<v.length:=fun a b=>h60 ⟨a,b⟩
      split
      ·rename_i ho
       have:=h61 ho
       omega
      ·omega
     rw[if_neg hlt,Int.toNat_natCast,valueRS_eq (by omega) (by omega)]
     have hv:(s.take (i+1+n+2+v.length)).drop (i+1+n+2)=v:=by
      rw[List.drop_take,show i+1+n+2+v.length-(i+1+n+2)=v.length by omega]
      exact r2.symm
     rw[hv]
     constructor
     ·intro hh
      rw[if_pos hh]
      congr 2
      omega
     ·intro hh
      left
      rw[if_neg (by rw[hh];simp)]
 ·rw[if_neg (by rw[h1];simp)]
  refine⟨fun hh=>by simp at hh,fun _=>?_⟩
  by_cases hk:nameR s (i+1)=i+1
  ·left;rw[if_pos hk]
  ·right
   rw[if_neg hk]
   have hc:=hmid (nameR s (i+1)) (by omega) (by omega)
   have hne:∀c,c∈[32,62,(61:UInt8)]→s.getD (nameR s (i+1)) 0≠c:=fun c hc2 e=>by
    rw[←e]at hc2
    rw[Bool.eq_false_iff]at hc
    exact hc (by simpa using hc2)
   have hp:Lib.hasPrefix (s.drop (nameR s (i+1))) [61,34]=false:=by
    rw[Bool.eq_false_iff]
    intro hh
    have hl:=hasPrefix_len hh
    simp only[List.length_cons,List.length_nil,List.length_drop]at hl
    have h61:Lib.hasPrefix (s.drop (nameR s (i+1))) [61]=true:=by
     rw[List.drop_eq_getElem_cons (by omega)]at hh ⊢
     unfold Lib.hasPrefix at hh ⊢
     simp only[List.isPrefixOf,Bool.and_eq_true]at hh ⊢
     exact⟨hh.1,trivial⟩
    exact hne 61 (by simp) (pre_one.1 h61).2
   rw[if_pos hp]
   refine⟨_,_,rfl,by omega,?_,?_⟩
   ·rw[Bool.eq_false_iff];intro hh;exact hne 32 (by simp) (pre_one.1 hh).2
   ·rw[Bool.eq_false_iff];intro hh;exact hne 62 (by simp) (pre_one.1 hh).2
/-! Start tags. -/
def tagRF:Nat→List UInt8→Nat→List (List UInt8 × List UInt8)→Option (List (List UInt8 × List UInt8) × Nat)
 | 0,_,_,_=>none
 | f+1,s,k,l=>if Lib.hasPrefix (s.drop k) [32]=true then
   (match attrRS s k with
   | none=>none
   | some (a,k2)=>tagRF f s k2 (l++[a]))
  else some (l,k)
theorem attrRS_gt {s:List UInt8} {i:Nat} {x} (h:attrRS s i=some x):i<x.2∧(i≤s.length→x.2≤s.length):=by
 unfold attrRS at h
 simp only at h
 have hge:=nameR_ge s (i+1)
 split at h
 ·cases h
 rename_i h1
 have hil:i<s.length:=(pre_one.1 (by simpa using fun e=>h1 (.inl e))).1
 have hle:=nameR_le (s:=s) (i:=i+1) (by omega)
 split at h
 ·cases h;exact⟨by simp only;omega,fun _=>hle⟩
 split at h
 ·cases h
 split at h
 ·rename_i h2 _
  cases h
  have hf:=findR_cut s (nameR s (i+1)+2) [34]
  by_cases hok:(Lib.cut (s.drop (nameR s (i+1)+2)) [34]).2.2=true
  ·rw[if_pos hok]at hf
   have:=(cut1_rest 34 _ hok).2.2.1
   simp only[List.length_drop]at this
   simp only
   rw[hf,Int.toNat_natCast]
   omega
  ·rw[if_neg hok]at hf
   omega
 ·cases h
def tagEndP (u:List UInt8) (i:Nat) (r:Option (Nat × List (List UInt8 × List UInt8) × Bool)):Option (List (List UInt8 × List UInt8) × Nat):=
 match r with
 | none=>none
 | some (k,l,_)=>if Lib.hasPrefix (u.drop k) [62]=true then some (l,i+k)else none
def tagEndR (s:List UInt8) (r:Option (List (List UInt8 × List UInt8) × Nat)):Option (List (List UInt8 × List UInt8) × Nat):=
 match r with
 | none=>none
 | some (l,k)=>if Lib.hasPrefix (s.drop k) [62]=true then some (l,k)else none
theorem tag_eq {s:List UInt8} {i:Nat}:∀(f g k:Nat) (l:List (List UInt8 × List UInt8)) (tw:Bool),i+k≤s.length→s.length-(i+k)<f→s.length-(i+k)<g →
  tagEndP (s.drop i) i (tagHF f (s.drop i) k l tw)=tagEndR s (tagRF g s (i+k) l)
 | 0,_,_,_,_,_,h,_=>absurd h (Nat.not_lt_zero _)
 | _,0,_,_,_,_,_,h=>absurd h (Nat.not_lt_zero _)
 | f+1,g+1,k,l,tw,hk,hf,hg=>by
  rw[tagHF,tagRF]
  simp only[List.drop_drop]
  rw[show i+(k+1)=i+k+1 by omega]
  by_cases h32:Lib.hasPrefix (s.drop (i+k)) [32]=true
  ·rw[if_pos h32,if_pos h32]
   obtain⟨a1,a2⟩:=attr_eq h32
   have hil:=(pre_one.1 h32).1
   cases hok:(attrHS (s.drop (i+k+1))).2.2 with
   | true=>
    have hb:=attrHS_bound hok
    simp only[List.length_drop]at hb
    rw[if_pos rfl,a1 hok]
    simp only
    have:=tag_eq (s:=s) (i:=i) f g (k+1+(attrHS (s.drop (i+k+1))).2.1) (l++[(attrHS (s.drop (i+k+1))).1]) (tw||l.any fun a=>a.1==(attrHS (s.drop (i+k+1))).1.1) (by omega) (by omega) (by omega)
    rw[show i+(k+1+(attrHS (s.drop (i+k+1))).2.1)=i+k+1+(attrHS (s.drop (i+k+1))).2.1 by omega]at this
    exact this
   | false=>
    rw[if_neg (by simp)]
    rcases a2 hok with h | ⟨a,k2,h,h0,h1,h2⟩
    ·rw[h];rfl
    ·rw[h]
     simp only
     cases g with
     | zero=>have:=attrRS_gt h;simp only at this;omega
     | succ g=>
      rw[tagRF,if_neg (by rw[h1];simp)]
      simp only[tagEndP,tagEndR,h2]
      rfl
  ·rw[if_neg h32,if_neg h32]
   simp only[tagEndP,tagEndR,List.drop_drop]
end Go.Ab
namespace Go.Ab
open Go Go.Lib
theorem tagHF_tw {s:List UInt8}:∀(f k:Nat) (l:List (List UInt8 × List UInt8)) (tw:Bool) {x},tagHF f s k l tw=some x→(tw=true↔¬(l.map (·.1)).Nodup)→(x.2.2=true↔¬(x.2.1.map (·.1)).Nodup)
 | 0,_,_,_,_,h,_=>by simp[tagHF]at h
 | f+1,k,l,tw,x,h,ht=>by
  simp only[tagHF]at h
  split at h
  ·split at h
   ·refine tagHF_tw f _ _ _ h ?_
    have hs1:∀y:List UInt8,([y]:List (List UInt8)).Nodup:=fun y=>by simp
    rw[Bool.or_eq_true,ht,List.map_append,List.nodup_append]
    simp only[List.any_eq_true,beq_iff_eq,List.map_cons,List.map_nil,hs1,true_and,List.mem_singleton,List.mem_map]
    constructor
    ·rintro(h1 | ⟨a,h2,h3⟩)
     ·exact fun h4=>h1 h4.1
     ·exact fun h4=>h4.2 a.1 ⟨a,h2,rfl⟩ _ rfl h3
    ·intro h1
     by_cases h2:(l.map (·.1)).Nodup
     ·right
      by_cases h3:∃a,a∈l∧a.1=(attrHS (s.drop (k+1))).1.1
      ·obtain⟨a,h4,h5⟩:=h3
       exact⟨a,h4,h5⟩
      ·exfalso
       refine h1 ⟨h2,?_⟩
       rintro a ⟨b,h4,rfl⟩ c rfl h5
       exact h3 ⟨b,h4,h5⟩
     ·exact .inl h2
   ·cases h
  ·cases h
   exact ht
theorem startHS_tw {s:List UInt8} {x:Ev × Nat × Bool} (h:startHS s=some x):x.2.2=true↔¬(x.1.attrs.map (·.1)).Nodup:=by
 unfold startHS at h
 simp only at h
 split at h
 case isFalse=>cases h
 split at h
 ·cases h
 rename_i k2 l tw ht
 have:=tagHF_tw _ _ _ _ ht (by simp)
 split at h
 ·cases h;exact this
 ·cases h
def startRS (s:List UInt8) (i:Nat):Option (Ev × Nat):=
 if nameR s (i+1)=i+1 then none
 else(tagEndR s (tagRF (s.length-nameR s (i+1)+1) s (nameR s (i+1)) [])).map fun x=>(⟨0,(s.take (nameR s (i+1))).drop (i+1),[],x.1,0,0⟩,x.2+1)
theorem start_eq {s:List UInt8} {i:Nat} (hi:i<s.length):(startHS (s.drop i)).map (fun x=>(x.1,i+x.2.1))=startRS s i:=by
 obtain⟨hst,hmid⟩:=upto_at s [32,62] (i+1) (by omega)
 have hle:=uptoS_le (s.drop (i+1)) [32,62]
 simp only[List.length_drop]at hle
 unfold startHS startRS
 simp only[List.drop_drop]
 generalize hn:uptoS (s.drop (i+1)) [32,62]=n at *
 have hstop:i+1+n=s.length∨stopC (s.getD (i+1+n) 0)=true:=by
  rcases hst with h | ⟨_,h⟩
  ·exact .inl h
  ·right
   simp only[List.contains_iff_mem,List.mem_cons,List.not_mem_nil,or_false]at h
   rcases h with h | h
   ·rw[h];exact sgn32
   ·rw[h];exact sgn62
 have hnm:((s.drop i).take (1+n)).drop 1=(s.take (i+1+n)).drop (i+1):=by
  rw[List.drop_take,List.drop_take,List.drop_drop]
  congr 1
  omega
 rw[hnm]
 rcases nameR_at (s:=s) (i:=i+1) (j:=i+1+n) (by omega) (by omega) hstop with ⟨h1,h2,h3⟩ | ⟨h1,h2,h3⟩
 ·rw[if_pos h1,h2,if_neg (by omega)]
  have ht:=tag_eq (s:=s) (i:=i) ((s.drop i).length-(1+n)+1) (s.length-(i+1+n)+1) (1+n) [] false (by omega) (by simp only[List.length_drop];omega) (by omega)
  rw[show i+(1+n)=i+1+n by omega]at ht
  rw[←ht]
  unfold tagHL tagEndP
  cases tagHF ((s.drop i).length-(1+n)+1) (s.drop i) (1+n) [] false with
  | none=>rfl
  | some x=>
   obtain⟨k2,l,tw⟩:=x
   simp only
   by_cases hp:Lib.hasPrefix ((s.drop i).drop k2) [62]=true
   ·rw[if_pos hp,List.drop_drop]at *
    rw[if_pos hp]
    rfl
   ·rw[List.drop_drop]at hp
    simp only[List.drop_drop]
    rw[if_neg hp,if_neg hp]
    rfl
 ·rw[if_neg (by rw[h1];simp)]
  by_cases hk:nameR s (i+1)=i+1
  ·rw[if_pos hk];rfl
  ·rw[if_neg hk]
   have hc:=hmid (nameR s (i+1)) (by omega) (by omega)
   have hne:∀c,c∈[32,(62:UInt8)]→s.getD (nameR s (i+1)) 0≠c:=fun c hc2 e=>by
    rw[←e]at hc2
    rw[Bool.eq_false_iff]at hc
    exact hc (by simpa using hc2)
   have q1:Lib.hasPrefix (s.drop (nameR s (i+1))) [32]=false:=by
    rw[Bool.eq_false_iff];intro hh;exact hne 32 (by simp) (pre_one.1 hh).2
   have q2:Lib.hasPrefix (s.drop (nameR s (i+1))) [62]=false:=by
    rw[Bool.eq_false_iff];intro hh;exact hne 62 (by simp) (pre_one.1 hh).2
   rw[tagRF,if_neg (by rw[q1];simp)]
   simp only[tagEndR,q2]
   rfl
def endRS (s:List UInt8) (i:Nat):Option (List UInt8 × Nat):=
 if nameR s (i+2)=i+2∨Lib.hasPrefix (s.drop (nameR s (i+2))) [62]=false then none else some ((s.take (nameR s (i+2))).drop (i+2),nameR s (i+2)+1)
theorem trim_drop {s p:List UInt8} {i:Nat} (hp:Lib.hasPrefix (s.drop i) p=true):Lib.trimPrefix (s.drop i) p=s.drop (i+p.length):=by
 unfold Lib.trimPrefix
 rw[if_pos hp,List.drop_drop]
theorem cut1_before {s:List UInt8} {a k:Nat} {p:UInt8} (h1:a≤k) (h2:k<a+(Lib.cut (s.drop a) [p]).1.length):s.getD k 0≠p:=by
 have hl:=cut_len (s.drop a) [p]
 simp only[List.length_drop]at hl
 have hk:k-a<(Lib.cut (s.drop a) [p]).1.length:=by omega
 have hm:=cut1_no p (s.drop a) _ (List.getElem_mem hk)
 have e:(Lib.cut (s.drop a) [p]).1[k-a]=s.getD k 0:=by
  have h3:(Lib.cut (s.drop a) [p]).1=(s.drop a).take (Lib.cut (s.drop a) [p]).1.length:=by
   cases hc:(Lib.cut (s.drop a) [p]).2.2 with
   | true=>exact(cut1_rest p _ hc).2.1
   | false=>
    rw[(cut1_none p _ hc).1,List.take_length]
  have h4:(Lib.cut (s.drop a) [p]).1[k-a]?=s[k]?:=by
   conv=>lhs;rw[h3]
   rw[List.getElem?_take,if_pos hk,List.getElem?_drop,show a+(k-a)=k by omega]
  rw[List.getElem?_eq_getElem hk]at h4
  rw[List.getD_eq_getElem?_getD,←h4]
  rfl
 rw[←e]
 exact hm
theorem end_eq {s:List UInt8} {i:Nat} (hp:Lib.hasPrefix (s.drop i) [60,47]=true):endHS (s.drop i)=(endRS s i).map fun x=>(x.1,s.drop x.2):=by
 have hpl:=hasPrefix_len hp
 simp only[List.length_cons,List.length_nil,List.length_drop]at hpl
 unfold endHS endRS
 rw[trim_drop hp]
 simp only[hp,true_and,List.length_cons,List.length_nil,Nat.zero_add,Nat.reduceAdd]
 have hbef:=fun k (h1:i+2≤k)=>cut1_before (s:=s) (a:=i+2) (k:=k) (p:=62) h1
 have hrest:=cut1_rest 62 (s.drop (i+2))
 have hnone:=cut1_none 62 (s.drop (i+2))
 generalize hC:Lib.cut (s.drop (i+2)) [62]=C at hrest hbef hnone
 obtain⟨nm,rest,ok⟩:=C
 simp only at hrest hbef hnone
 cases ok with
 | true=>
  obtain⟨r1,r2,r3,r4⟩:=hrest rfl
  simp only[List.length_drop]at r3
  have hj:s.getD (i+2+nm.length) 0=62:=by
   rw[←r4,List.getD_eq_getElem?_getD,List.getD_eq_getElem?_getD,List.getElem?_drop]
  have hnm:(s.take (i+2+nm.length)).drop (i+2)=nm:=by
   rw[List.drop_take,show i+2+nm.length-(i+2)=nm.length by omega]
   exact r2.symm
  rcases nameR_at (s:=s) (i:=i+2) (j:=i+2+nm.length) (by omega) (by omega) (.inr (by rw[hj];exact sgn62))with ⟨h1,h2,h3⟩ | ⟨h1,h2,h3⟩
  ·rw[hnm]at h1
   have hpp:Lib.hasPrefix (s.drop (i+2+nm.length)) [62]=true:=pre_one.2 ⟨by omega,hj⟩
   rw[if_pos ⟨rfl,h1⟩,h2,if_neg (show ¬(i+2+nm.length=i+2∨Lib.hasPrefix (s.drop (i+2+nm.length)) [62]=false) by
    rintro(h | h)
    ·omega
    ·rw[hpp]at h;cases h),hnm,r1,List.drop_drop]
   simp only[Option.map_some]
   congr 3
  ·rw[hnm]at h1
   rw[if_neg (by rw[h1];simp)]
   by_cases hk:nameR s (i+2)=i+2
   ·rw[if_pos (.inl hk)];rfl
   ·rw[if_pos]
    ·rfl
    ·right
     rw[Bool.eq_false_iff]
     intro hh
     exact hbef _ (by omega) (by omega) (pre_one.1 hh).2
 | false=>
  rw[if_neg (by simp)]
  have hn:=(hnone rfl).1
  rw[if_pos]
  ·rfl
  ·right
   rw[Bool.eq_false_iff]
   intro hh
   have hg:=nameR_ge s (i+2)
   obtain⟨h1,h2⟩:=pre_one.1 hh
   exact hbef _ hg (by rw[hn];simp only[List.length_drop];omega) h2
def commentRS (s:List UInt8) (i:Nat):Option (List UInt8 × Nat):=
 if findR s (i+4) sDash<0∨Lib.hasPrefix (s.drop (findR s (i+4) sDash).toNat) [45,45,62]=false then none
 else some ((s.take (findR s (i+4) sDash).toNat).drop (i+4),(findR s (i+4) sDash).toNat+3)
theorem pre_three (u:List UInt8) (h:Lib.hasPrefix u [45,45]=true):Lib.hasPrefix u [45,45,62]=Lib.hasPrefix (u.drop 2) [62]:=by
 match u,h with
 | a::b::r,h=>
  unfold Lib.hasPrefix at h ⊢
  simp only[List.isPrefixOf,Bool.and_true,Bool.and_eq_true,beq_iff_eq]at h
  simp only[List.isPrefixOf,←h.1,←h.2,beq_self_eq_true,Bool.true_and,List.drop_succ_cons,List.drop_zero]
 | [],h=>cases h
 | [a],h=>simp[Lib.hasPrefix,List.isPrefixOf]at h
theorem comment_eq {s:List UInt8} {i:Nat} (hp:Lib.hasPrefix (s.drop i) sCom=true):commentHS (s.drop i)=(commentRS s i).map fun x=>(x.1,s.drop x.2):=by
 unfold commentHS commentRS
 rw[trim_drop hp]
 simp only[hp,true_and,show sCom.length=4 from rfl]
 unfold findR Lib.cut
 rcases Lib.index_spec (s.drop (i+4)) sDash with ⟨e1,e2⟩ | ⟨m,e1,e2,e3,e4⟩
 ·simp[e1]
 ·have hr:=Lib.index_room (s.drop (i+4)) sDash (by omega)
  rw[e1]at hr ⊢
  simp only[List.length_drop,show sDash.length=2 from rfl]at hr
  have ht:((i+4:Nat):Int)+(m:Int)=((i+4+m:Nat):Int):=by omega
  rw[if_pos (show(0:Int)≤(m:Int) by omega),if_neg (show ¬((m:Int)<0) by omega),ht,Int.toNat_natCast,Int.toNat_natCast]
  have hd:Lib.hasPrefix (s.drop (i+4+m)) [45,45]=true:=by
   unfold Lib.occAt at e3
   rw[List.drop_drop]at e3
   exact e3
  have h3:=pre_three _ hd
  simp only[List.drop_drop]at h3
  simp only[List.drop_drop,show sDash.length=2 from rfl,true_and]
  rw[show i+4+(m+2)=i+4+m+2 by omega]
  by_cases hq:Lib.hasPrefix (s.drop (i+4+m+2)) [62]=true
  ·rw[if_pos hq,if_neg (by rw[h3,hq];simp;omega)]
   simp only[Option.map_some]
   congr 2
   rw[List.drop_take]
   congr 1
   omega
  ·rw[if_neg hq,if_pos (.inr (by rw[h3];simpa using hq))]
   rfl
def spaceR (c:UInt8):Bool:=c==32||c==9||c==10||c==13
def instrRS (s:List UInt8) (i:Nat):Option (List UInt8 × List UInt8 × Nat):=
 if nameR s (i+2)=i+2∨lowS ((s.take (nameR s (i+2))).drop (i+2))=[120,109,108]∨findR s (nameR s (i+2)) [62]<0 then none
 else if(nameR s (i+2):Int)<findR s (nameR s (i+2)) [62]∧(s.getD (nameR s (i+2)) 0≠32∨findR s (nameR s (i+2)) [62]=(nameR s (i+2):Int)+1∨spaceR (s.getD (nameR s (i+2)+1) 0)=true)then none
 else some ((s.take (nameR s (i+2))).drop (i+2),(s.take (findR s (nameR s (i+2)) [62]).toNat).drop (min (nameR s (i+2)+1) (findR s (nameR s (i+2)) [62]).toNat),(findR s (nameR s (i+2)) [62]).toNat+1)
theorem space_ib (c:UInt8):(0≤Lib.indexByte [32,9,10,13] c)↔spaceR c=true:=by
 have key:∀c:UInt8,decide (0≤Lib.indexByte [32,9,10,13] c)=spaceR c:=by
  intro c
  unfold spaceR
  by_cases h1:c=32
  ·subst h1;decide
  by_cases h2:c=9
  ·subst h2;decide
  by_cases h3:c=10
  ·subst h3;decide
  by_cases h4:c=13
  ·subst h4;decide
  simp[Lib.indexByte,h1,h2,h3,h4,Ne.symm h1,Ne.symm h2,Ne.symm h3,Ne.symm h4]
 rw[←key c]
 simp
theorem findR_later {s:List UInt8} {a j:Nat} {p:UInt8} (haj:a≤j) (hj:j≤a+(Lib.cut (s.drop a) [p]).1.length):findR s j [p]=if(Lib.cut (s.drop a) [p]).2.2=true then((a+(Lib.cut (s.drop a) [p]).1.length:Nat):Int)else -1:=by
 obtain⟨n,hn⟩:∃n,n=j-a:=⟨_,rfl⟩
 induction n generalizing a with
 | zero=>
  have:j=a:=by omega
  subst this
  exact findR_cut s j [p]
 | succ n ih=>
  have hlt:a<s.length:=by
   have:=cut_len (s.drop a) [p]
   simp only[List.length_drop]at this
   omega
  have hd:=List.drop_eq_getElem_cons hlt
  have hc:=cut1_cons p s[a] (s.drop (a+1))
  rw[←hd]at hc
  by_cases h:s[a]=p
  ·rw[if_pos h]at hc
   rw[hc]at hj
   simp only[List.length_nil]at hj
   omega
  ·rw[if_neg h]at hc
   rw[hc]at hj ⊢
   simp only[List.length_cons]at hj ⊢
   rw[ih (a:=a+1) (by omega) (by omega) (by omega)]
   split
   ·congr 1
    omega
   ·rfl
theorem instr_eq {s:List UInt8} {i:Nat} (hp:Lib.hasPrefix (s.drop i) [60,63]=true):instrHS (s.drop i)=(instrRS s i).map fun x=>(x.1,x.2.1,s.drop x.2.2):=by
 have hpl:=hasPrefix_len hp
 simp only[List.length_cons,List.length_nil,List.length_drop]at hpl
 unfold instrHS instrRS
 rw[trim_drop hp]
 simp only[hp,true_and,List.length_cons,List.length_nil,Nat.zero_add,Nat.reduceAdd]
 have hlat:=fun j (h1:i+2≤j)=>findR_later (s:=s) (a:=i+2) (j:=j) (p:=62) h1
 have hbef:=fun k (h1:i+2≤k)=>cut1_before (s:=s) (a:=i+2) (k:=k) (p:=62) h1
 have hbef32:=fun k (h1:i+2≤k)=>cut1_before (s:=s) (a:=i+2) (k:=k) (p:=32) h1
 have hrest:=cut1_rest 62 (s.drop (i+2))
 have hnone:=cut1_none 62 (s.drop (i+2))
 have hct:=cut1_take 32 (s.drop (i+2)) (Lib.cut (s.drop (i+2)) [62]).1.length
 have hrest32:=cut1_rest 32 (s.drop (i+2))
 generalize Lib.cut (s.drop (i+2)) [62]=C at hrest hbef hnone hct hlat
 obtain⟨ins,rest,ok⟩:=C
 generalize Lib.cut (s.drop (i+2)) [32]=D at hct hbef32 hrest32
 obtain⟨w,rest2,ok2⟩:=D
 simp only at hrest hbef hnone hct hlat hbef32 hrest32
 have hge:=nameR_ge s (i+2)
 have hle:=nameR_le (s:=s) (i:=i+2) (by omega)
 cases ok with
 | false=>
  rw[if_neg (by simp)]
  have hn:=(hnone rfl).1
  have hil:ins.length=s.length-(i+2):=by rw[hn,List.length_drop]
  rw[hlat _ hge (by omega)]
  rw[if_pos (.inr (.inr (by simp)))]
  rfl
 | true=>
  obtain⟨r1,r2,r3,r4⟩:=hrest rfl
  simp only[List.length_drop]at r3
  rw[←r2]at hct
  have hj0:s.getD (i+2+ins.length) 0=62:=by
   rw[←r4,List.getD_eq_getElem?_getD,List.getD_eq_getElem?_getD,List.getElem?_drop]
  simp only[if_true]at hlat
  rw[hct]
  by_cases hw:ok2=true∧w.length<ins.length
  · -- a blank ahead of the end
   rw[if_pos hw]
   simp only[true_and]
   obtain⟨t1,t2,t3,t4⟩:=hrest32 hw.1
   have hj:s.getD (i+2+w.length) 0=32:=by
    rw[←t4,List.getD_eq_getElem?_getD,List.getD_eq_getElem?_getD,List.getElem?_drop]
   have hnm:(s.take (i+2+w.length)).drop (i+2)=w:=by
    rw[List.drop_take,show i+2+w.length-(i+2)=w.length by omega]
    exact t2.symm
   have htx:rest2.take (ins.length-w.length-1)=(s.take (i+2+ins.length)).drop (i+2+w.length+1):=by
    rw[t1,List.drop_drop,List.drop_take]
    congr 1
    omega
   rcases nameR_at (s:=s) (i:=i+2) (j:=i+2+w.length) (by omega) (by omega) (.inr (by rw[hj];exact sgn32))with ⟨h1,h2,h3⟩ | ⟨h1,h2,h3⟩
   ·rw[hnm]at h1
    rw[h2,hlat _ (by omega) (by omega),hnm,hj]
    simp only[h1,true_and,Int.toNat_natCast,ne_eq,not_true_eq_false,false_or]
    by_cases hx:lowS w=[120,109,108]
    ·rw[if_neg (by simp[hx]),if_pos (.inr (.inl hx))]
     rfl
    ·rw[if_neg (show ¬(i+2+w.length=i+2∨lowS w=[120,109,108]∨((i+2+ins.length:Nat):Int)<0) by
      rintro(h | h | h)
      ·omega
      ·exact hx h
      ·omega)]
     have hmin:min (i+2+w.length+1) (i+2+ins.length)=i+2+w.length+1:=by omega
     rw[hmin,htx]
     have hemp:(s.take (i+2+ins.length)).drop (i+2+w.length+1)=[]↔ins.length=w.length+1:=by
      rw[List.drop_eq_nil_iff]
      simp only[List.length_take]
      omega
     have hhd:ins.length≠w.length+1→((s.take (i+2+ins.length)).drop (i+2+w.length+1)).getD 0 0=s.getD (i+2+w.length+1) 0:=fun hne=>by
      rw[List.getD_eq_getElem?_getD,List.getD_eq_getElem?_getD,List.getElem?_drop,Nat.add_zero,List.getElem?_take,if_pos (by omega)]
     by_cases he:ins.length=w.length+1
     ·rw[if_neg (by simp[hemp.2 he]),if_pos ⟨by omega,.inl (by omega)⟩]
      rfl
     ·have hne:=mt hemp.1 he
      by_cases hs:spaceR (s.getD (i+2+w.length+1) 0)=true
      ·rw[if_neg (by
        rintro⟨_,hh⟩
        exact hh (.inr (by rw[hhd he];exact(space_ib _).2 hs))),if_pos ⟨by omega,.inr hs⟩]
       rfl
      ·rw[if_pos ⟨hx,by
        rintro(hh | hh)
        ·exact hne hh
        ·rw[hhd he]at hh
         exact hs ((space_ib _).1 hh)⟩,if_neg (by
        rintro⟨_,hh | hh⟩
        ·omega
        ·exact hs hh)]
       simp only[Option.map_some,r1,List.drop_drop]
       congr 4
   ·rw[hnm]at h1
    rw[if_neg (by rw[h1];simp)]
    by_cases hk:nameR s (i+2)=i+2
    ·rw[if_pos (.inl hk)];rfl
    ·rw[hlat _ hge (by omega)]
     by_cases hx:lowS ((s.take (nameR s (i+2))).drop (i+2))=[120,109,108]
     ·rw[if_pos (.inr (.inl hx))];rfl
     ·rw[if_neg (by simp[hk,hx];omega),if_pos ⟨by omega,.inl (hbef32 _ (by omega) (by omega))⟩]
      rfl
  ·rw[if_neg hw]
   simp only[Bool.false_eq_true,false_and,not_false_eq_true,and_true,true_and]
   have hnm:(s.take (i+2+ins.length)).drop (i+2)=ins:=by
    rw[List.drop_take,show i+2+ins.length-(i+2)=ins.length by omega]
    exact r2.symm
   have h32:∀k,i+2≤k→k<i+2+ins.length→s.getD k 0≠32:=fun k k1 k2=>by
    by_cases ho:ok2=true
    ·exact hbef32 k k1 (by have:¬w.length<ins.length:=fun h=>hw ⟨ho,h⟩;omega)
    ·have hh:=cut1_none 32 (s.drop (i+2))
     intro e
     have hi2:(s.drop (i+2))[k-(i+2)]?=some 32:=by
      rw[List.getElem?_drop,show i+2+(k-(i+2))=k by omega,List.getElem?_eq_getElem (by omega),←e,List.getD_eq_getElem?_getD,List.getElem?_eq_getElem (by omega)]
      rfl
     have hm:(32:UInt8)∈ins:=by
      rw[r2]
      exact List.mem_of_getElem? (i:=k-(i+2)) (by rw[List.getElem?_take,if_pos (by omega)];exact hi2)
     have hcut:Lib.cut ins [32]=(ins,[],false):=by rw[hct,if_neg hw]
     have:=cut1_no 32 ins 32
     rw[hcut]at this
     exact this hm rfl
   rcases nameR_at (s:=s) (i:=i+2) (j:=i+2+ins.length) (by omega) (by omega) (.inr (by rw[hj0];exact sgn62))with ⟨h1,h2,h3⟩ | ⟨h1,h2,h3⟩
   ·rw[hnm]at h1
    rw[h2,hlat _ (by omega) (by omega),hnm]
    simp only[h1,true_and,Int.toNat_natCast]
    by_cases hx:lowS ins=[120,109,108]
    ·rw[if_neg (by simp[hx]),if_pos (.inr (.inl hx))]
     rfl
    ·rw[if_pos hx,if_neg (show ¬(i+2+ins.length=i+2∨lowS ins=[120,109,108]∨((i+2+ins.length:Nat):Int)<0) by
      rintro(h | h | h)
      ·omega
      ·exact hx h
      ·omega),if_neg (fun h=>absurd h.1 (by omega))]
     simp only[Option.map_some,r1,List.drop_drop]
     congr 2
     refine Prod.ext ?_ ?_
     ·simp only
      rw[List.drop_eq_nil_of_le (by simp only[List.length_take];omega)]
     ·simp only
      congr 1
   ·rw[hnm]at h1
    rw[if_neg (by rw[h1];simp)]
    by_cases hk:nameR s (i+2)=i+2
    ·rw[if_pos (.inl hk)];rfl
    ·rw[hlat _ hge (by omega)]
     by_cases hx:lowS ((s.take (nameR s (i+2))).drop (i+2))=[120,109,108]
     ·rw[if_pos (.inr (.inl hx))];rfl
     ·rw[if_neg (by simp[hk,hx];omega),if_pos ⟨by omega,.inl (h32 _ (by omega) (by omega))⟩]
      rfl
end Go.Ab
namespace Go.Ab
open Go Go.Lib
def pieceRS (s:List UInt8) (i:Nat):Option (Ev × Nat):=
 if Lib.hasPrefix (s.drop i) sCom=true then(commentRS s i).map fun x=>(⟨3,[],x.1,[],0,0⟩,x.2)
 else if Lib.hasPrefix (s.drop i) [60,63]=true then(instrRS s i).map fun x=>(⟨4,x.1,x.2.1,[],0,0⟩,x.2.2)
 else if Lib.hasPrefix (s.drop i) [60,47]=true then(endRS s i).map fun x=>(⟨1,x.1,[],[],0,0⟩,x.2)
 else startRS s i
def textRS (s:List UInt8) (i:Nat) (raw:Bool):Option (List UInt8 × Nat):=
 if raw=true then
  (if findR s i [60,47]<0 then none else some ((s.take (findR s i [60,47]).toNat).drop i,(findR s i [60,47]).toNat))
 else
  let e:=if findR s i [60]<0 then s.length else(findR s i [60]).toNat
  if(valueRS s i e).2=true then some ((valueRS s i e).1,e)else none
def eventsRF:Nat→List UInt8→Nat→Bool→List Ev→List (List UInt8)→Except Nat (List Ev)
 | 0,_,_,_,l,_ => .ok l
 | f+1,s,i,raw,l,opens=>
  if i<s.length then
   if(raw=true∧Lib.hasPrefix (s.drop i) [60,47]=false)∨Lib.hasPrefix (s.drop i) [60]=false then
    match textRS s i raw with
    | none => .error 5
    | some (v,k)=>eventsRF f s k false (l++[⟨2,[],v,[],0,0⟩]) opens
   else match pieceRS s i with
    | none => .error 5
    | some (x,k)=>
     if x.kind=0∧¬(x.attrs.map (·.1)).Nodup then .error 4
     else if x.kind=1 then
      (if opens.getLast?=some x.name then eventsRF f s k false (l++[x]) opens.dropLast else .error 110)
     else if x.kind=0∧isVoidS x.name=true then eventsRF f s k (isRawS x.name) (l++[x,⟨1,x.name,[],[],0,0⟩]) opens
     else if x.kind=0 then eventsRF f s k (isRawS x.name) (l++[x]) (opens++[x.name])
     else eventsRF f s k false (l++[x]) opens
  else if opens=[]then .ok l else .error 110
def lastRaw (l:List Ev):Bool:=match l.getLast? with
 | none=>false
 | some x=>x.kind==0&&isRawS x.name
theorem rawNow_last (h:HSt):rawNow h=(lastRaw h.l && !Lib.hasPrefix h.s [60,47]):=by
 unfold rawNow lastRaw
 cases h.l.getLast? with
 | none=>rfl
 | some x=>rfl
theorem void_not_raw {n:List UInt8} (h:isVoidS n=true):isRawS n=false:=by
 unfold isVoidS at h
 unfold isRawS
 generalize lowS n=m at h
 rw[List.contains_iff_mem]at h
 have key:∀m∈voidsS,(m==[115,99,114,105,112,116]||m==[115,116,121,108,101])=false:=by decide
 exact key m h
theorem pre_two {u p:List UInt8} {a b:UInt8} (h:Lib.hasPrefix u (a::b::p)=true):∃r,u=a::b::r:=by
 match u,h with
 | x::y::r,h=>
  unfold Lib.hasPrefix at h
  simp only[List.isPrefixOf,Bool.and_eq_true,beq_iff_eq]at h
  exact⟨r,by rw[h.1,h.2.1]⟩
 | [],h=>cases h
 | [x],h=>simp[Lib.hasPrefix,List.isPrefixOf]at h
theorem noName33 (t:List UInt8):isNameS (33::t)=false:=by
 cases h:isNameS (33::t)with
 | false=>rfl
 | true=>have:=name_noStop h 33 (by simp);revert this;decide
theorem noName63 (t:List UInt8):isNameS (63::t)=false:=by
 cases h:isNameS (63::t)with
 | false=>rfl
 | true=>have:=name_noStop h 63 (by simp);revert this;decide
theorem noName47 (t:List UInt8):isNameS (47::t)=false:=by
 cases h:isNameS (47::t)with
 | false=>rfl
 | true=>have:=name_noStop h 47 (by simp);revert this;decide
theorem startHS_no {a:UInt8} (r:List UInt8) (ha:∀t,isNameS (a::t)=false):startHS (60::a::r)=none:=by
 unfold startHS
 simp only[List.drop_succ_cons,List.drop_zero]
 rw[if_neg]
 rw[Bool.not_eq_true]
 unfold uptoS
 rw[List.takeWhile_cons]
 split
 ·rw[List.length_cons,Nat.add_comm 1,List.take_succ_cons,List.take_succ_cons,List.drop_succ_cons,List.drop_zero]
  exact ha _
 ·rfl
def pieceP2 (h:HSt):Except Nat HSt:=
 match endHS h.s with
 | some (name,rest)=>if h.opens.getLast?=some name then .ok { h.add 1 name [] rest with opens:=h.opens.dropLast } else .error 110
 | none=>match commentHS h.s with
  | some (text,rest) => .ok (h.add 3 [] text rest)
  | none=>match instrHS h.s with
   | some (name,text,rest) => .ok (h.add 4 name text rest)
   | none=>match startHS h.s with
    | none => .error 5
    | some (x,k,tw)=>
     if tw=true then .error 4
     else if isVoidS x.name=true then .ok { h with s:=h.s.drop k,l:=h.l++[x,⟨1,x.name,[],[],0,0⟩] }
     else .ok { s:=h.s.drop k,l:=h.l++[x],opens:=h.opens++[x.name] }
theorem pieceHS_eq (h:HSt):pieceHS h=if rawNow h=true then
  (if Lib.index h.s [60,47]<0 then .error 5 else .ok (h.add 2 [] (h.s.take (Lib.index h.s [60,47]).toNat) (h.s.drop (Lib.index h.s [60,47]).toNat)))
 else if h.s.getD 0 0≠60 then
  (if(unescS (Lib.cut h.s [60]).1).2=true then .ok (h.add 2 [] (unescS (Lib.cut h.s [60]).1).1 (h.s.drop (Lib.cut h.s [60]).1.length))else .error 5)
 else pieceP2 h:=rfl
theorem startRS_kind {s:List UInt8} {i:Nat} {x} (h:startRS s i=some x):x.1.kind=0:=by
 unfold startRS at h
 split at h
 ·cases h
 ·rw[Option.map_eq_some_iff]at h
  obtain⟨y,_,rfl⟩:=h
  rfl
def afterR (s:List UInt8) (l:List Ev) (opens:List (List UInt8)) (o:Option (Ev × Nat)):Except Nat HSt:=
 match o with
 | none => .error 5
 | some (x,k)=>
  if x.kind=0∧¬(x.attrs.map (·.1)).Nodup then .error 4
  else if x.kind=1 then(if opens.getLast?=some x.name then .ok ⟨s.drop k,l++[x],opens.dropLast⟩else .error 110)
  else if x.kind=0∧isVoidS x.name=true then .ok ⟨s.drop k,l++[x,⟨1,x.name,[],[],0,0⟩],opens⟩
  else if x.kind=0 then .ok ⟨s.drop k,l++[x],opens++[x.name]⟩
  else .ok ⟨s.drop k,l++[x],opens⟩
theorem piece_after {s:List UInt8} {i:Nat} (hi:i<s.length) (h60:s.getD i 0=60) (l:List Ev) (opens:List (List UInt8)):pieceP2 ⟨s.drop i,l,opens⟩=afterR s l opens (pieceRS s i):=by
 have hg:s[i]=60:=by rw[←h60,List.getD_eq_getElem?_getD,List.getElem?_eq_getElem hi];rfl
 unfold pieceP2 pieceRS
 by_cases h1:Lib.hasPrefix (s.drop i) sCom=true
 ·rw[if_pos h1]
  obtain⟨r,hr⟩:=pre_two h1
  have he:endHS (s.drop i)=none:=endHS_no (by rw[hr];rfl)
  have hin:instrHS (s.drop i)=none:=instrHS_no (by rw[hr];rfl)
  have hst:startHS (s.drop i)=none:=by rw[hr];exact startHS_no r noName33
  have hc:=comment_eq h1
  simp only[he,hin,hst,hc]
  cases commentRS s i with
  | none=>rfl
  | some x=>rfl
 rw[if_neg h1]
 have hcn:commentHS (s.drop i)=none:=commentHS_no (by simpa using h1)
 by_cases h2:Lib.hasPrefix (s.drop i) [60,63]=true
 ·rw[if_pos h2]
  obtain⟨r,hr⟩:=pre_two h2
  have he:endHS (s.drop i)=none:=endHS_no (by rw[hr];rfl)
  have hst:startHS (s.drop i)=none:=by rw[hr];exact startHS_no r noName63
  have hc:=instr_eq h2
  simp only[he,hcn,hst,hc]
  cases instrRS s i with
  | none=>rfl
  | some x=>rfl
 rw[if_neg h2]
 have hin:instrHS (s.drop i)=none:=instrHS_no (by simpa using h2)
 by_cases h3:Lib.hasPrefix (s.drop i) [60,47]=true
 ·rw[if_pos h3]
  obtain⟨r,hr⟩:=pre_two h3
  have hst:startHS (s.drop i)=none:=by rw[hr];exact startHS_no r noName47
  have hc:=end_eq h3
  simp only[hcn,hin,hst,hc]
  cases endRS s i with
  | none=>rfl
  | some x=>
   simp only[Option.map_some,afterR,HSt.add]
   rfl
 rw[if_neg h3]
 have he:endHS (s.drop i)=none:=endHS_no (by simpa using h3)
 have hc:=start_eq hi
 simp only[he,hcn,hin]
 rw[←hc]
 have htw:=fun x (hx:startHS (s.drop i)=some x)=>startHS_tw hx
 have hbd:=fun x (hx:startHS (s.drop i)=some x)=>startHS_bound hx
 cases hst:startHS (s.drop i)with
 | none=>rfl
 | some x=>
  have h4:=htw x hst
  have h5:=(hbd x hst).2.2.2
  obtain⟨x,k,tw⟩:=x
  simp only at h4 h5
  simp only[Option.map_some,afterR,h5,true_and,List.drop_drop,Nat.zero_ne_one,if_false,if_true]
  by_cases ht:tw=true
  ·rw[if_pos ht,if_pos (h4.1 ht)]
  ·rw[if_neg ht,if_neg (fun h=>ht (h4.2 h))]
theorem lastRaw_snoc (l:List Ev) (x:Ev):lastRaw (l++[x])=(x.kind==0&&isRawS x.name):=by
 unfold lastRaw
 simp
theorem lastRaw_two (l:List Ev) (x y:Ev):lastRaw (l++[x,y])=(y.kind==0&&isRawS y.name):=by
 unfold lastRaw
 simp
theorem events_eq {s:List UInt8}:∀(n:Nat) (f i:Nat) (l:List Ev) (opens:List (List UInt8)),s.length-i≤n→s.length-i<f →
  eventsRF f s i (lastRaw l) l opens=readHL ⟨s.drop i,l,opens⟩
 | _,0,_,_,_,_,h=>absurd h (Nat.not_lt_zero _)
 | n,f+1,i,l,opens,hn,hf=>by
  rw[eventsRF,readHL_step]
  by_cases hlt:i<s.length
  case neg=>
   have:s.drop i=[]:=List.drop_eq_nil_of_le (by omega)
   rw[if_neg hlt]
   simp only[this,if_true]
  rw[if_pos hlt]
  have hne:s.drop i≠[]:=by
   intro e
   have:=List.drop_eq_nil_iff.1 e
   omega
  simp only[hne,if_false]
  have hless:=fun h' (e:pieceHS ⟨s.drop i,l,opens⟩ = .ok h')=>pieceHS_less (h:=⟨s.drop i,l,opens⟩) hne e
  have hp60:=pre_one (s:=s) (k:=i) (c:=60)
  have hg0:(s.drop i).getD 0 0=s.getD i 0:=by rw[List.getD_eq_getElem?_getD,List.getD_eq_getElem?_getD,List.getElem?_drop,Nat.add_zero]
  have hpe:=pieceHS_eq ⟨s.drop i,l,opens⟩
  rw[rawNow_last]at hpe
  simp only[hg0]at hpe
  cases n with
  | zero=>omega
  | succ n=>
  by_cases hraw:lastRaw l=true∧Lib.hasPrefix (s.drop i) [60,47]=false
  ·rw[if_pos (.inl hraw)]
   rw[if_pos (by simp[hraw.1,hraw.2])]at hpe
   unfold textRS
   rw[if_pos hraw.1]
   unfold findR
   by_cases hix:Lib.index (s.drop i) [60,47]<0
   ·rw[if_pos hix]at hpe
    rw[hpe]
    simp only[if_pos hix]
    rfl
   ·rw[if_neg hix]at hpe
    have hl:=hless _ hpe
    rw[hpe]
    have hr:=Lib.index_room (s.drop i) [60,47] (by omega)
    simp only[List.length_drop,List.length_cons,List.length_nil]at hr
    obtain⟨m,hm⟩:∃m:Nat,Lib.index (s.drop i) [60,47]=m:=⟨(Lib.index (s.drop i) [60,47]).toNat,by omega⟩
    rw[hm]at hl hr ⊢
    simp only[HSt.add,List.drop_drop,Int.toNat_natCast,List.length_drop]at hl ⊢
    have e1:¬((m:Int)<0):=by omega
    simp only[e1,if_false]
    have e2:((i:Int)+(m:Int)).toNat=i+m:=by omega
    rw[if_neg (by omega)]
    simp only[e2]
    have ih:=events_eq (s:=s) n f (i+m) (l++[⟨2,[],(s.take (i+m)).drop i,[],0,0⟩]) opens (by omega) (by omega)
    rw[lastRaw_snoc]at ih
    have ht:(s.drop i).take m=(s.take (i+m)).drop i:=by rw[List.drop_take];congr 1;omega
    rw[ht]
    exact ih
  ·have hno:¬((lastRaw l && !Lib.hasPrefix (s.drop i) [60,47])=true):=by
    simp only[Bool.and_eq_true,Bool.not_eq_true',not_and]
    intro a b
    exact hraw ⟨a,b⟩
   rw[if_neg hno]at hpe
   by_cases h60:s.getD i 0=60
   ·rw[if_neg (fun hh=>hh h60)]at hpe
    rw[if_neg (by
     rintro(h | h)
     ·exact hraw h
     ·rw[hp60.2 ⟨hlt,h60⟩]at h;cases h)]
    rw[piece_after hlt h60]at hpe
    rw[hpe]
    cases hR:pieceRS s i with
    | none=>rfl
    | some y=>
     obtain⟨x,k⟩:=y
     rw[hR]at hpe
     simp only[afterR]at hpe ⊢
     by_cases c1:x.kind=0∧¬(x.attrs.map (·.1)).Nodup
     ·rw[if_pos c1,if_pos c1]
     rw[if_neg c1]at hpe
     rw[if_neg c1,if_neg c1]
     by_cases c2:x.kind=1
     ·rw[if_pos c2]at hpe
      rw[if_pos c2,if_pos c2]
      by_cases c3:opens.getLast?=some x.name
      ·rw[if_pos c3]at hpe
       rw[if_pos c3,if_pos c3]
       have hl:=hless _ hpe
       simp only[List.length_drop]at hl
       have ih:=events_eq (s:=s) n f k (l++[x]) opens.dropLast (by omega) (by omega)
       rw[lastRaw_snoc,c2]at ih
       exact ih
      ·rw[if_neg c3,if_neg c3]
     rw[if_neg c2]at hpe
     rw[if_neg c2,if_neg c2]
     by_cases c4:x.kind=0∧isVoidS x.name=true
     ·rw[if_pos c4]at hpe
      rw[if_pos c4,if_pos c4]
      have hl:=hless _ hpe
      simp only[List.length_drop]at hl
      have ih:=events_eq (s:=s) n f k (l++[x,⟨1,x.name,[],[],0,0⟩]) opens (by omega) (by omega)
      rw[lastRaw_two]at ih
      rw[void_not_raw c4.2]
      exact ih
     rw[if_neg c4]at hpe
     rw[if_neg c4,if_neg c4]
     by_cases c5:x.kind=0
     ·rw[if_pos c5]at hpe
      rw[if_pos c5,if_pos c5]
      have hl:=hless _ hpe
      simp only[List.length_drop]at hl
      have ih:=events_eq (s:=s) n f k (l++[x]) (opens++[x.name]) (by omega) (by omega)
      rw[lastRaw_snoc,c5]at ih
      exact ih
     ·rw[if_neg c5]at hpe
      rw[if_neg c5,if_neg c5]
      have hl:=hless _ hpe
      simp only[List.length_drop]at hl
      have ih:=events_eq (s:=s) n f k (l++[x]) opens (by omega) (by omega)
      rw[lastRaw_snoc]at ih
      have:(x.kind==0&&isRawS x.name)=false:=by simp[c5]
      rw[this]at ih
      exact ih
   ·rw[if_pos h60]at hpe
    rw[if_pos (.inr (by rw[Bool.eq_false_iff];intro h;exact h60 (hp60.1 h).2))]
    have hnr:lastRaw l=false:=by
     cases hr:lastRaw l with
     | false=>rfl
     | true=>
      exfalso
      refine hraw ⟨hr,?_⟩
      rw[Bool.eq_false_iff]
      intro h
      obtain⟨r,hr2⟩:=pre_two h
      apply h60
      rw[←hg0,hr2]
      rfl
    unfold textRS
    rw[hnr,if_neg (by simp)]
    have hft:=findR_cut s i [60]
    have hcl:=cut_len (s.drop i) [60]
    simp only[List.length_drop]at hcl
    have he:(if findR s i [60]<0 then s.length else(findR s i [60]).toNat)=i+(Lib.cut (s.drop i) [60]).1.length:=by
     rw[hft]
     cases hc:(Lib.cut (s.drop i) [60]).2.2 with
     | true=>rw[if_pos rfl,if_neg (by omega),Int.toNat_natCast]
     | false=>
      rw[(cut1_none 60 _ hc).1,List.length_drop]
      simp only[Bool.false_eq_true,if_false]
      rw[if_pos (by decide)]
      omega
    simp only[he]
    have hv:(s.take (i+(Lib.cut (s.drop i) [60]).1.length)).drop i=(Lib.cut (s.drop i) [60]).1:=by
     rw[List.drop_take,show i+(Lib.cut (s.drop i) [60]).1.length-i=(Lib.cut (s.drop i) [60]).1.length by omega]
     cases hc:(Lib.cut (s.drop i) [60]).2.2 with
     | true=>exact(cut1_rest 60 _ hc).2.1.symm
     | false=>
      rw[(cut1_none 60 _ hc).1,List.take_length]
    rw[valueRS_eq (by omega) (by omega),hv]
    by_cases hu:(unescS (Lib.cut (s.drop i) [60]).1).2=true
    ·rw[if_pos hu]at hpe
     rw[if_pos hu]
     have hl:=hless _ hpe
     simp only[HSt.add,List.drop_drop,List.length_drop]at hl
     rw[hpe]
     simp only[HSt.add,List.drop_drop]
     have ih:=events_eq (s:=s) n f (i+(Lib.cut (s.drop i) [60]).1.length) (l++[⟨2,[],(unescS (Lib.cut (s.drop i) [60]).1).1,[],0,0⟩]) opens (by omega) (by omega)
     rw[lastRaw_snoc]at ih
     exact ih
    ·rw[if_neg hu]at hpe
     rw[if_neg hu,hpe]
def eventsRS (s:List UInt8):Except Nat (List Ev):=eventsRF (s.length+1) s (if Lib.hasPrefix s sDoct=true then 16 else 0) false [] []
theorem eventsRS_eq (s:List UInt8):eventsRS s=eventsHS s:=by
 unfold eventsRS eventsHS
 have h:=events_eq (s:=s) s.length (s.length+1) (if Lib.hasPrefix s sDoct=true then 16 else 0) [] [] (by omega) (by omega)
 have h0:lastRaw []=false:=rfl
 rw[h0]at h
 rw[h]
 unfold Lib.trimPrefix
 split
 ·rfl
 ·rfl
end Go.Ab
