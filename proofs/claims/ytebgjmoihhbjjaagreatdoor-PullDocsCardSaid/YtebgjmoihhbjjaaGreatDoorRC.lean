/- The reference's attribute is the program's. The reference's start tag: walked; it is the program's. The reference's other: walked. The reference's end tag, and the piece at a place: walked. The reference's at: walked. The reference's text: walked. -/
import Derived.Test.YtebgjmoihhbjjaaGreatDoorRB
import Derived.Test.YtebgjmoihhbjjaaGreatDoorWB
set_option linter.all false
namespace Go.Ab
open Go Go.Lib Go.Proofs
theorem untilN_stop {s:List UInt8} {i:Nat} {st:List UInt8} (hi:i≤s.length) (hst:∀c∈st,stopC c=true):untilN s i st=s.length∨(untilN s i st<s.length∧stopC (s.getD (untilN s i st) 0)=true∧(isW (s.getD (untilN s i st) 0)=true∨¬Lib.indexByte st (s.getD (untilN s i st) 0)<0)):=by
 have hle:=untilN_le st hi
 rcases Nat.lt_or_ge (untilN s i st) s.length with hlt | hge
 ·right
  have hstop:¬(!isW (s.getD (untilN s i st) 0)&&decide (Lib.indexByte st (s.getD (untilN s i st) 0)<0))=true:=by
   have hd:=List.drop_eq_getElem_cons hlt
   have hgd:s.getD (untilN s i st) 0=s[untilN s i st]:=by rw[List.getD_eq_getElem?_getD,List.getElem?_eq_getElem hlt];rfl
   rw[hgd]
   intro hc
   have key:∀(l:List UInt8) (p:UInt8→Bool) (n:Nat) (x:UInt8) (r:List UInt8),(l.takeWhile p).length=n→l.drop n=x::r→p x=false:=by
    intro l p
    induction l with
    | nil=>intro n x r _ h;simp at h
    | cons a l ih=>
     intro n x r h1 h2
     by_cases hp:p a=true
     ·rw[List.takeWhile_cons_of_pos hp,List.length_cons]at h1
      subst h1
      rw[List.drop_succ_cons]at h2
      exact ih _ x r rfl h2
     ·rw[List.takeWhile_cons_of_neg hp,List.length_nil]at h1
      subst h1
      simp at h2
      rw[←h2.1]
      simpa using hp
   have:=key (s.drop i) (fun c => !isW c&&decide (Lib.indexByte st c<0)) _ s[untilN s i st] _ rfl (by rw[List.drop_drop];exact hd)
   rw[this]at hc
   cases hc
  refine⟨hlt,?_,?_⟩
  ·generalize s.getD (untilN s i st) 0=c at hstop
   cases hw:isW c with
   | true=>exact isW_stop hw
   | false=>
    rw[hw]at hstop
    simp only[Bool.not_false,Bool.true_and,decide_eq_true_eq]at hstop
    apply hst
    by_cases hm:c∈st
    ·exact hm
    ·exfalso
     apply hstop
     have:∀l:List UInt8,c ∉ l→Lib.indexByte l c = -1:=by
      intro l
      induction l with
      | nil=>intro _;rfl
      | cons b l ih=>
       intro h
       simp only[List.mem_cons,not_or]at h
       simp[Lib.indexByte,ih h.2,Ne.symm h.1]
     rw[this st hm]
     decide
  ·generalize s.getD (untilN s i st) 0=c at hstop
   cases hw:isW c with
   | true=>exact .inl rfl
   | false=>
    rw[hw]at hstop
    simp only[Bool.not_false,Bool.true_and,decide_eq_true_eq]at hstop
    exact .inr hstop
 ·exact .inl (by omega)
theorem untilN_in {s:List UInt8} {i e:Nat} {st:List UInt8} (h1:i≤e) (h2:e<untilN s i st):e<s.length∧isW (s.getD e 0)=false∧Lib.indexByte st (s.getD e 0)<0:=by
 have key:∀(l:List UInt8) (p:UInt8→Bool) (n:Nat),n<(l.takeWhile p).length→∃x,l[n]?=some x∧p x=true:=by
  intro l p
  induction l with
  | nil=>intro n h;simp at h
  | cons a l ih=>
   intro n h
   by_cases hp:p a=true
   ·rw[List.takeWhile_cons_of_pos hp,List.length_cons]at h
    cases n with
    | zero=>exact⟨a,rfl,hp⟩
    | succ n=>exact ih n (by omega)
   ·rw[List.takeWhile_cons_of_neg hp]at h
    simp at h
 unfold untilN at h2
 obtain⟨x,hx,hp⟩:=key (s.drop i) (fun c => !isW c&&decide (Lib.indexByte st c<0)) (e-i) (by omega)
 rw[List.getElem?_drop,show i+(e-i)=e by omega]at hx
 have hg:s.getD e 0=x:=by rw[List.getD_eq_getElem?_getD,hx];rfl
 have hl:e<s.length:=by
  rcases Nat.lt_or_ge e s.length with h | h
  ·exact h
  ·rw[List.getElem?_eq_none h]at hx;cases hx
 simp only[Bool.and_eq_true,Bool.not_eq_true',decide_eq_true_eq]at hp
 exact⟨hl,by rw[hg];exact hp.1,by rw[hg];exact hp.2⟩
theorem drop_getD {s:List UInt8} {e:Nat} (h:e<s.length):s.drop e=s.getD e 0::s.drop (e+1):=by
 rw[List.drop_eq_getElem_cons h,List.getD_eq_getElem?_getD,List.getElem?_eq_getElem h]
 rfl
theorem token {s:List UInt8} {i:Nat} {st:List UInt8} (hi:i≤s.length) (hst:∀c∈st,stopC c=true) :
  (isNameS ((s.take (untilN s i st)).drop i)=true∧nameR s i=untilN s i st∧i<untilN s i st) ∨
  (isNameS ((s.take (untilN s i st)).drop i)=false∧(nameR s i=i∨(i<nameR s i∧nameR s i<s.length∧isW (s.getD (nameR s i) 0)=false∧Lib.indexByte st (s.getD (nameR s i) 0)<0))):=by
 have hu:=untilN_ge s i st
 have hul:=untilN_le st hi
 have hs:=untilN_stop hi hst
 rcases nameR_at hu hul (by rcases hs with h | h;exact .inl h;exact .inr h.2.1)with h | ⟨h1,h2,h3⟩
 ·exact .inl h
 ·right
  refine⟨h1,?_⟩
  by_cases he:nameR s i=i
  ·exact .inl he
  ·rcases h3 with h3 | h3
   ·have:=untilN_in h2 h3
    exact .inr ⟨by omega,this⟩
   ·exact absurd h3.1 he
theorem stops61:∀c∈([61]:List UInt8),stopC c=true:=by intro c hc;simp at hc;subst hc;exact stop61
theorem indexByte_61 {c:UInt8} (h:Lib.indexByte [61] c<0):c≠61:=by
 rintro rfl
 revert h
 decide
theorem attrW_eq {s:List UInt8} {i:Nat} (hi:i≤s.length) :
  if skipN s i=i then(attrW s i).2 = -1
  else if(attrS s (skipN s i)).2.2=true then attrW s i=((attrS s (skipN s i)).1,((attrS s (skipN s i)).2.1:Int))else(attrW s i).2 = -1:=by
 have hk:=skipN_le hi
 by_cases hki:skipN s i=i
 ·rw[if_pos hki]
  unfold attrW
  simp only
  rw[if_pos (.inl hki)]
 rw[if_neg hki]
 generalize hkk:skipN s i=k at hk hki
 have ok:∀(a:List UInt8 × List UInt8) (n:Nat),attrS s k=(a,n,true)→attrW s i=(a,(n:Int))→(if(attrS s k).2.2=true then attrW s i=((attrS s k).1,((attrS s k).2.1:Int))else(attrW s i).2 = -1):=fun a n h1 h2=>by
  rw[h1,h2,if_pos rfl]
 have no:(attrS s k).2.2=false→(attrW s i).2 = -1→(if(attrS s k).2.2=true then attrW s i=((attrS s k).1,((attrS s k).2.1:Int))else(attrW s i).2 = -1):=fun h1 h2=>by
  rw[h1,if_neg (by simp)]
  exact h2
 rcases token hk stops61 with ⟨h1,h2,h3⟩ | ⟨h1,h2⟩
 ·have hS0:∀b,Lib.hasPrefix (s.drop (skipN s (untilN s k [61]))) [61]=b→attrS s k=if b=true then
    (if skipN s (skipN s (untilN s k [61])+1)<s.length∧(s.getD (skipN s (skipN s (untilN s k [61])+1)) 0=34∨s.getD (skipN s (skipN s (untilN s k [61])+1)) 0=39)then
     (if Lib.indexByte (s.drop (skipN s (skipN s (untilN s k [61])+1)+1)) (s.getD (skipN s (skipN s (untilN s k [61])+1)) 0)<0 then(([],[]),0,false)
     else(((s.take (untilN s k [61])).drop k,(valueS ((s.take (skipN s (skipN s (untilN s k [61])+1)+1+(Lib.indexByte (s.drop (skipN s (skipN s (untilN s k [61])+1)+1)) (s.getD (skipN s (skipN s (untilN s k [61])+1)) 0)).toNat)).drop (skipN s (skipN s (untilN s k [61])+1)+1))).1),skipN s (skipN s (untilN s k [61])+1)+(Lib.indexByte (s.drop (skipN s (skipN s (untilN s k [61])+1)+1)) (s.getD (skipN s (skipN s (untilN s k [61])+1)) 0)).toNat+2,(valueS ((s.take (skipN s (skipN s (untilN s k [61])+1)+1+(Lib.indexByte (s.drop (skipN s (skipN s (untilN s k [61])+1)+1)) (s.getD (skipN s (skipN s (untilN s k [61])+1)) 0)).toNat)).drop (skipN s (skipN s (untilN s k [61])+1)+1))).2))
    else(([],[]),0,false))else(([],[]),0,false):=fun b hb=>by
   unfold attrS
   simp only
   rw[h1,hb]
   cases b<;>simp
  have hW0:∀b,Lib.hasPrefix (s.drop (skipN s (untilN s k [61]))) [61]=b→attrW s i=if b=false then(((s.take (untilN s k [61])).drop k,[]),-1)
   else
    if Lib.hasPrefix (s.drop (skipN s (skipN s (untilN s k [61])+1))) [34]=false∧Lib.hasPrefix (s.drop (skipN s (skipN s (untilN s k [61])+1))) [39]=false then(((s.take (untilN s k [61])).drop k,[]),-1)
    else
     if findR s (skipN s (skipN s (untilN s k [61])+1)+1) ((s.take (skipN s (skipN s (untilN s k [61])+1)+1)).drop (skipN s (skipN s (untilN s k [61])+1)))<0 then(((s.take (untilN s k [61])).drop k,[]),-1)
     else
      if(valueS ((s.take (findR s (skipN s (skipN s (untilN s k [61])+1)+1) ((s.take (skipN s (skipN s (untilN s k [61])+1)+1)).drop (skipN s (skipN s (untilN s k [61])+1)))).toNat).drop (skipN s (skipN s (untilN s k [61])+1)+1))).2=false then(((s.take (untilN s k [61])).drop k,(valueS ((s.take (findR s (skipN s (skipN s (untilN s k [61])+1)+1) ((s.take (skipN s (skipN s (untilN s k [61])+1)+1)).drop (skipN s (skipN s (untilN s k [61])+1)))).toNat).drop (skipN s (skipN s (untilN s k [61])+1)+1))).1),-1)
      else(((s.take (untilN s k [61])).drop k,(valueS ((s.take (findR s (skipN s (skipN s (untilN s k [61])+1)+1) ((s.take (skipN s (skipN s (untilN s k [61])+1)+1)).drop (skipN s (skipN s (untilN s k [61])+1)))).toNat).drop (skipN s (skipN s (untilN s k [61])+1)+1))).1),findR s (skipN s (skipN s (untilN s k [61])+1)+1) ((s.take (skipN s (skipN s (untilN s k [61])+1)+1)).drop (skipN s (skipN s (untilN s k [61])+1)))+1):=fun b hb=>by
   unfold attrW
   simp only[hkk]
   rw[h2,hb,if_neg (show ¬(k=i∨untilN s k [61]=k) by omega)]
  have hul:=untilN_le (s:=s) [61] hk
  generalize untilN s k [61]=e at h1 h2 h3 hul hS0 hW0
  have he2:=skipN_le hul
  generalize skipN s e=e2 at he2 hS0 hW0
  cases h61:Lib.hasPrefix (s.drop e2) [61]with
  | false=>exact no (by rw[hS0 _ h61];rfl) (by rw[hW0 _ h61,if_pos rfl])
  | true=>
   have hS:=hS0 _ h61
   have hW:=hW0 _ h61
   rw[if_pos rfl]at hS
   rw[if_neg (by simp)]at hW
   clear hS0 hW0
   obtain⟨hlt2,_⟩:=hasPrefix_one h61
   have hf2:=skipN_le (s:=s) (i:=e2+1) (by omega)
   generalize skipN s (e2+1)=f at hf2 hS hW
   by_cases hq:f<s.length∧(s.getD f 0=34∨s.getD f 0=39)
   ·rw[if_pos hq]at hS
    obtain⟨hfl,hq⟩:=hq
    have hd:=drop_getD hfl
    have hne:¬(Lib.hasPrefix (s.drop f) [34]=false∧Lib.hasPrefix (s.drop f) [39]=false):=by
     rw[hd]
     rcases hq with hq | hq<;>rw[hq]<;>simp[Lib.hasPrefix,List.isPrefixOf]
    rw[if_neg hne]at hW
    have hsl:(s.take (f+1)).drop f=[s.getD f 0]:=name_at hd
    rw[hsl]at hW
    have hge:=Lib.indexByte_ge (s.drop (f+1)) (s.getD f 0)
    by_cases hn:Lib.indexByte (s.drop (f+1)) (s.getD f 0)<0
    ·have hF:findR s (f+1) [s.getD f 0] = -1:=by unfold findR;rw[index_one,if_pos hn]
     rw[if_pos hn]at hS
     rw[hF,if_pos (by decide)]at hW
     exact no (by rw[hS]) (by rw[hW])
    ·obtain⟨n,hn2⟩:∃n:Nat,Lib.indexByte (s.drop (f+1)) (s.getD f 0)=n:=⟨(Lib.indexByte (s.drop (f+1)) (s.getD f 0)).toNat,by omega⟩
     have hF:findR s (f+1) [s.getD f 0]=((f+1+n:Nat):Int):=by
      unfold findR
      rw[index_one,if_neg hn,hn2]
      omega
     rw[if_neg hn,hn2]at hS
     rw[hF,if_neg (by omega)]at hW
     simp only[Int.toNat_natCast]at hS hW
     cases hv:(valueS ((s.take (f+1+n)).drop (f+1))).2 with
     | false=>
      rw[hv,if_pos rfl]at hW
      exact no (by rw[hS];exact hv) (by rw[hW])
     | true=>
      rw[hv,if_neg (by simp)]at hW
      rw[hv]at hS
      refine ok _ _ hS ?_
      rw[hW]
      simp only[Prod.mk.injEq,true_and]
      omega
   ·rw[if_neg hq]at hS
    have hne:Lib.hasPrefix (s.drop f) [34]=false∧Lib.hasPrefix (s.drop f) [39]=false:=by
     by_cases hfl:f<s.length
     ·have hd:=drop_getD hfl
      rw[hd]
      have h34:s.getD f 0≠34:=fun h=>hq ⟨hfl,.inl h⟩
      have h39:s.getD f 0≠39:=fun h=>hq ⟨hfl,.inr h⟩
      generalize s.getD f 0=c at h34 h39
      simp[Lib.hasPrefix,List.isPrefixOf,Ne.symm h34,Ne.symm h39]
     ·rw[List.drop_eq_nil_of_le (by omega)]
      simp[Lib.hasPrefix]
    rw[if_pos hne]at hW
    exact no (by rw[hS]) (by rw[hW])
 ·refine no ?_ ?_
  ·unfold attrS
   simp only
   rw[if_neg (fun h=>by rw[h1]at h;cases h.1)]
  ·unfold attrW
   simp only[hkk]
   rcases h2 with h2 | ⟨h2,h3,h4,h5⟩
   ·rw[if_pos (.inr h2)]
   ·rw[if_neg (by omega)]
    have hsk:skipN s (nameR s k)=nameR s k:=skipN_at (drop_getD h3) h4
    have hp:Lib.hasPrefix (s.drop (skipN s (nameR s k))) [61]=false:=by
     rw[hsk,drop_getD h3]
     have hne:=indexByte_61 h5
     generalize s.getD (nameR s k) 0=c at hne
     simp[Lib.hasPrefix,List.isPrefixOf,Ne.symm hne]
    rw[if_pos hp]
end Go.Ab
namespace Go.Ab
open Go Go.Lib Go.Proofs
structure Pc where
 x:Ev
 fin:Nat
 empty:Bool
 text:Bool
 data:Bool
 decl:Bool
def pcC (p:Pc):List AV:=evC p.x++[.int .i64 p.fin,.bool p.empty,.bool p.text,.bool p.data,.bool p.decl]
def PcPost (o:Option Pc) (r:ARes):Prop:=
 match o with
 | some p=>r = .ret (.tup [.agg (pcC p),.bool true])
 | none=>∃c,r = .ret (.tup [.agg c,.bool false])∧c.length=11∧c.all AV.one=true
def startP (s:List UInt8) (i:Nat):Option Pc:=(startS s i).map fun t=>⟨⟨0,t.name,[],t.attrs,0,0⟩,t.next,t.empty,false,false,false⟩
theorem stopsTag:∀c∈([47,62]:List UInt8),stopC c=true:=by
 intro c hc
 simp at hc
 rcases hc with rfl | rfl
 ·exact stop47
 ·exact stop62
theorem noTag {s:List UInt8} {e:Nat} (h1:e<s.length) (h2:isW (s.getD e 0)=false) (h3:Lib.indexByte [47,62] (s.getD e 0)<0):skipN s e=e∧Lib.hasPrefix (s.drop e) [62]=false∧Lib.hasPrefix (s.drop e) [47,62]=false:=by
 refine⟨skipN_at (drop_getD h1) h2,?_,?_⟩
 ·rw[drop_getD h1]
  generalize s.getD e 0=c at h3
  have:c≠62:=by rintro rfl;revert h3;decide
  simp[Lib.hasPrefix,List.isPrefixOf,Ne.symm this]
 ·rw[drop_getD h1]
  generalize s.getD e 0=c at h3
  have:c≠47:=by rintro rfl;revert h3;decide
  simp[Lib.hasPrefix,List.isPrefixOf,Ne.symm this]
theorem startS_R {s:List UInt8} {i:Nat} (hi:i<s.length):if nameR s (i+1)=i+1 then startS s i=none else startS s i=(tagL s (nameR s (i+1)) []).map fun x=>⟨(s.take (nameR s (i+1))).drop (i+1),x.1,x.2.1,x.2.2⟩:=by
 unfold startS
 simp only
 have hul:=untilN_le (s:=s) (i:=i+1) [47,62] (by omega)
 rcases token (s:=s) (i:=i+1) (by omega) stopsTag with ⟨h1,h2,h3⟩ | ⟨h1,h2⟩
 ·rw[h2,if_neg (by omega),if_pos h1,tagL_of hul]
 ·rw[if_neg (c:=isNameS _=true) (by simp[h1])]
  split
  ·rfl
  ·rename_i hne
   rcases h2 with h2 | ⟨h2,h3,h4,h5⟩
   ·exact absurd h2 hne
   ·obtain⟨t1,t2,t3⟩:=noTag h3 h4 h5
    rw[tagL_step (Nat.le_of_lt h3),t1,t2,t3,if_neg (by simp),if_neg (by simp),if_pos rfl]
    rfl
theorem tag_attr {s:List UInt8} {k:Nat} (hk:k≤s.length) (l:List (List UInt8 × List UInt8)) :
  (∃n:Nat,(attrW s k).2=(n:Int)∧k<n∧n≤s.length∧tagL s k l=tagL s n (l++[(attrW s k).1])) ∨
  ((attrW s k).2 = -1∧tagL s k l=if Lib.hasPrefix (s.drop (skipN s k)) [62]=true then some (l,false,skipN s k+1)else if Lib.hasPrefix (s.drop (skipN s k)) [47,62]=true then some (l,true,skipN s k+2)else none):=by
 have h:=attrW_eq hk
 have hst:=tagL_step hk l
 have ha:=skipN_ge s k
 have hal:=skipN_le hk
 by_cases hkk:skipN s k=k
 ·rw[if_pos hkk]at h
  right
  refine⟨h,?_⟩
  rw[hst,if_pos hkk]
 ·rw[if_neg hkk]at h hst
  cases hok:(attrS s (skipN s k)).2.2 with
  | false=>
   rw[hok,if_neg (by simp)]at h
   right
   refine⟨h,?_⟩
   rw[hst,hok,if_neg (c:=false=true) (by simp)]
  | true=>
   rw[hok,if_pos rfl]at h
   left
   have hb:=attrS_bound hal hok
   refine⟨_,by rw[h],by omega,hb.2,?_⟩
   have hn:isNameS ((s.take (untilN s (skipN s k) [61])).drop (skipN s k))=true:=by
    unfold attrS at hok
    simp only at hok
    split at hok
    ·rename_i hc;exact hc.1
    ·cases hok
   have hlen:=name_len hn
   simp only[List.length_drop,List.length_take]at hlen
   have hfl:skipN s k<s.length:=by omega
   have hns:stopC (s.getD (skipN s k) 0)=false:=by
    refine name_noStop hn _ ?_
    have:((s.take (untilN s (skipN s k) [61])).drop (skipN s k))[0]?=some (s.getD (skipN s k) 0):=by
     rw[List.getElem?_drop,Nat.add_zero,List.getElem?_take_of_lt (by omega),List.getD_eq_getElem?_getD,List.getElem?_eq_getElem hfl]
     rfl
    exact List.mem_of_getElem? this
   have p1:Lib.hasPrefix (s.drop (skipN s k)) [62]=false:=by
    rw[drop_getD hfl]
    generalize s.getD (skipN s k) 0=c at hns
    have:c≠62:=by rintro rfl;rw[stop62]at hns;cases hns
    simp[Lib.hasPrefix,List.isPrefixOf,Ne.symm this]
   have p2:Lib.hasPrefix (s.drop (skipN s k)) [47,62]=false:=by
    rw[drop_getD hfl]
    generalize s.getD (skipN s k) 0=c at hns
    have:c≠47:=by rintro rfl;rw[stop47]at hns;cases hns
    simp[Lib.hasPrefix,List.isPrefixOf,Ne.symm this]
   rw[hst,p1,p2,if_neg (by simp),if_neg (by simp),hok,if_pos rfl,h]
def pc0 (nm:List UInt8) (x:AV):List AV:=[.int .i64 0,.str nm,.str [],x,.int .i64 0,.int .i64 0,.int .i64 0,.bool false,.bool false,.bool false,.bool false]
def StAt (s:List UInt8) (H:AHeap) (p0 p1:Nat) (nm:List UInt8) (T:Option (List (List UInt8 × List UInt8) × Bool × Nat)) (x:Bool × Nat × Nat × List (List UInt8 × List UInt8) × AHeap):Prop:=
 x.2.1≤s.length∧x.2.2.2.1.length≤x.2.1∧(x.1=true→tagL s x.2.1 x.2.2.2.1=T) ∧
 (x.1=false→T=if Lib.hasPrefix (s.drop (skipN s x.2.1)) [62]=true then some (x.2.2.2.1,false,skipN s x.2.1+1)else if Lib.hasPrefix (s.drop (skipN s x.2.1)) [47,62]=true then some (x.2.2.2.1,true,skipN s x.2.1+2)else none) ∧
 x.2.2.2.2.get p0=some (.cells 69 (pc0 [] .nils))∧x.2.2.2.2.get p1=some (.cells 69 (pc0 nm (.slc x.2.2.1 x.2.2.2.1.length)))∧x.2.2.2.2.get x.2.2.1=some (.row 59 2 (attrsA x.2.2.2.1)) ∧
 p1<x.2.2.1∧x.2.2.1<x.2.2.2.2.next∧∀j,j<H.next→x.2.2.2.2.get j=H.get j
set_option maxHeartbeats 8000000 in
set_option maxRecDepth 100000 in
theorem r_start_ok (G:Nat→Option (List AV)) {s:List UInt8} {i:Nat} (hi:i<s.length) (hs:s.length≤900000000) (H:AHeap) :
  ACalls Tryz.prog G 58 [.str s,.int .i64 i] H fun r H'=>PcPost (startP s i) r∧Kept H H':=by
 refine ACalls.ret (ACalls.of Tryz.func58 S58_eq R58 N58 rfl rfl ?_)
 have e1:IntKind.i64.wrap ((i:Int)+1)=((i+1:Nat):Int):=by rw[wrap64]<;>omega
 simp (maxSteps:=400000) only[wF,storeA,reduceCtorEq,Nat.reduceAdd,Nat.reduceSub,Nat.reduceEqDiff,Nat.reduceLeDiff,Int.reduceToNat,Int.reduceLE,Int.reduceLT,Int.reduceAdd,Int.reduceNeg,Nat.reduceMul,S58,N58,R58,T58,e1,AV.boxable]
 refine AInv.pureK B53 (r_name_ok G (i:=i+1) (by omega) hs) fun H1 h1=>?_
 have hR:=startS_R hi
 have he:=nameR_le (s:=s) (i:=i+1) (by omega)
 have he1:=nameR_ge s (i+1)
 generalize nameR s (i+1)=e at hR he he1
 have n1:=h1.1
 simp only[AHeap.next_allocAt]at n1
 have g1:H1.get H.next=some (.cells 69 (pc0 [] .nils)):=by rw[h1.2,AHeap.get_allocAt_same];rfl
 have o1:∀j,j<H.next→H1.get j=H.get j:=fun j hj=>by rw[h1.2,AHeap.get_allocAt_ne _ _ (by omega)]
 have mn:(if((e:Nat):Int)<((i+1:Nat):Int)then((e:Nat):Int)else((i+1:Nat):Int))=((i+1:Nat):Int):=if_neg (by omega)
 have q1:(((i+1:Nat):Int)≤(e:Int))=True:=eq_true (by omega)
 have q2:((e:Int)≤(s.length:Int))=True:=eq_true (by omega)
 have u1:(H.next=H1.next)=False:=eq_false (by omega)
 have u2:(H1.next=H.next)=False:=eq_false (by omega)
 simp (maxSteps:=400000) only[wF,storeA,reduceCtorEq,Nat.reduceAdd,Nat.reduceSub,Nat.reduceEqDiff,Nat.reduceLeDiff,Int.reduceToNat,Int.reduceLE,Int.reduceLT,Int.reduceAdd,Int.reduceNeg,Nat.reduceMul,T58,e1,mn,q1,q2,buildA,fillA,AV.boxable]
 generalize hX:AHeap.set (AHeap.allocAt H1 H1.next _) H1.next _=X
 have xn:X.next=H1.next+1:=by rw[←hX];simp only[AHeap.next_set,AHeap.next_allocAt];omega
 have xa:X.get H.next=some (.cells 69 (pc0 [] .nils)):=by rw[←hX,AHeap.get_set_ne _ _ (by omega),AHeap.get_allocAt_ne _ _ (by omega)];exact g1
 have xb:X.get H1.next=some (.cells 69 (pc0 ((s.take e).drop (i+1)) .nils)):=by rw[←hX,AHeap.get_set_same];rfl
 have xo:∀j,j<H.next→X.get j=H.get j:=fun j hj=>by rw[←hX,AHeap.get_set_ne _ _ (by omega),AHeap.get_allocAt_ne _ _ (by omega)];exact o1 j hj
 clear hX
 generalize (s.take e).drop (i+1)=nm at hR xb
 by_cases hei:e=i+1
 ·have z:((e:Int)==((i+1:Nat):Int))=true:=by rw[hei,beq_self_eq_true]
  rw[if_pos hei]at hR
  have xa':=xa
  have xb':=xb
  unfold pc0 at xa' xb'
  simp (maxSteps:=400000) only[wF,storeA,reduceCtorEq,Nat.reduceAdd,Nat.reduceSub,Nat.reduceEqDiff,Nat.reduceLeDiff,Int.reduceToNat,Int.reduceLE,Int.reduceLT,Int.reduceAdd,Int.reduceNeg,Nat.reduceMul,T58,z,xa',xb',u1,u2,AHeap.set_set]
  refine⟨_,_,Weak.refl G _ _,?_,by simp only[AHeap.next_set];omega,fun j hj=>by rw[AHeap.get_set_ne _ _ (by omega)];exact xo j hj⟩
  unfold startP
  rw[hR]
  exact⟨_,rfl,rfl,rfl⟩
 ·have z:((e:Int)==((i+1:Nat):Int))=false:=by rw[beq_eq_false_iff_ne];omega
  rw[if_neg hei]at hR
  simp (maxSteps:=400000) only[wF,storeA,reduceCtorEq,Nat.reduceAdd,Nat.reduceSub,Nat.reduceEqDiff,Nat.reduceLeDiff,Int.reduceToNat,Int.reduceLE,Int.reduceLT,Int.reduceAdd,Int.reduceNeg,Nat.reduceMul,T58,z]
  obtain⟨H3,hw,g3,r3,n3,f3⟩:=Weak.nilField G (pc0 nm (.slc X.next 0)) xb (by omega) 59 2 ⟨.same _,.same _,.same _,.nil _ rfl,.same _,.same _,.same _,.same _,.same _,.same _,.same _,trivial⟩
  refine ATrS.weak (hw _) (ATrS.loopK (κ:=Bool × Nat × Nat × List (List UInt8 × List UInt8) × AHeap) (fun x=>[.str s,.int .i64 i,.und,.und,.ptr H.next 0,.bool false,.int .i64 x.2.1,.ptr H1.next 0,.bool x.1]++List.replicate 57 .und) (fun x=>x.2.2.2.2)
   (StAt s H H.next H1.next nm (tagL s e [])) (fun x=>if x.1=true then s.length-x.2.1+1 else 0) ⟨(true,e,X.next,[],H3),⟨he,Nat.zero_le _,fun _=>rfl,(fun h=>by cases h),(by simp only;rw[f3 _ (by omega) (by omega)];exact xa),g3,r3,by simp only;omega,by simp only;omega,fun j hj=>by simp only;rw[f3 j (by omega) (by omega)];exact xo j hj⟩,by simp[Fg],HW.refl _⟩ ?_)
  rintro⟨more,k,m,l,J⟩ ⟨hk,hl,hT,hF,ja,jb,jm,m1,m2,jo⟩
  simp only at hk hl hT hF ja jb jm m1 m2 jo
  generalize hTT:tagL s e []=T at hT hF hR
  have p01:(H.next=H1.next)=False:=u1
  cases more with
  | true=>
   have hT:=hT rfl
   simp (maxSteps:=400000) only[wF,storeA,reduceCtorEq,Nat.reduceAdd,Nat.reduceSub,Nat.reduceEqDiff,Nat.reduceLeDiff,Int.reduceToNat,Int.reduceLE,Int.reduceLT,Int.reduceAdd,Int.reduceNeg,Nat.reduceMul,T58]
   refine AInv.pureK B82 (r_attribute_ok G hk hs) fun J1 j1=>?_
   have nj:=j1.1
   have ja1:=ja
   have jb1:=jb
   have jm1:=jm
   rw[←j1.2]at ja1 jb1 jm1
   have jo1:∀j,j<H.next→J1.get j=H.get j:=fun j hj=>by rw[j1.2];exact jo j hj
   have v1:(H1.next=J1.next)=False:=eq_false (by omega)
   have v2:(J1.next=H1.next)=False:=eq_false (by omega)
   have v3:(m=J1.next)=False:=eq_false (by omega)
   have v4:(J1.next+1==m)=false:=by rw[beq_eq_false_iff_ne];omega
   have v5:(m=J1.next+1)=False:=eq_false (by omega)
   have v6:(H1.next=J1.next+1)=False:=eq_false (by omega)
   have v7:(H1.next=m)=False:=eq_false (by omega)
   have v8:(H1.next=J1.next+1+1)=False:=eq_false (by omega)
   have hle:(l.length+1≤maxApp)=True:=eq_true (by simp only[maxApp];omega)
   have jb2:=jb1
   unfold pc0 at jb2
   rcases tag_attr hk l with ⟨n,hn,hkn,hns,hst⟩ | ⟨hn,hst⟩
   ·have d1:decide ((n:Int)≥0)=true:=decide_eq_true (by omega)
    rw[hn]
    simp (maxSteps:=400000) only[wF,storeA,reduceCtorEq,Nat.reduceAdd,Nat.reduceSub,Nat.reduceEqDiff,Nat.reduceLeDiff,Int.reduceToNat,Int.reduceLE,Int.reduceLT,Int.reduceAdd,Int.reduceNeg,Nat.reduceMul,T58,d1,jb2,jm1,v1,v2,v3,v4,v5,v6,v7,v8,hle,appendA,appSrc,AV.isSlc,sliceLit,fillA,zerosA,srcCells,AV.boxable,Nat.le_refl,Nat.reduceLT,attrsA_len]
    refine⟨(true,n,J1.next+1+1,l++[(attrW s k).1],_),⟨hns,by simp only[List.length_append,List.length_singleton];omega,fun _=>hst.symm.trans hT,(fun h=>by cases h),?_,?_,?_,by simp only;omega,?_,fun j hj=>?_⟩,by simp only[if_true];omega,by simp[Fg],HW.refl _⟩
    ·show(AHeap.set _ _ _).get H.next=_
     rw[AHeap.get_set_ne _ _ (by omega),AHeap.get_allocAt_ne _ _ (by omega),AHeap.get_del_ne _ (by omega),AHeap.get_allocAt_ne _ _ (by omega),AHeap.get_set_ne _ _ (by omega),AHeap.get_allocAt_ne _ _ (by omega)]
     exact ja1
    ·show(AHeap.set _ _ _).get H1.next=_
     rw[AHeap.get_set_same]
     simp[pc0]
    ·show(AHeap.set _ _ _).get (J1.next+1+1)=_
     rw[AHeap.get_set_ne _ _ (by omega),AHeap.get_allocAt_same]
     simp[attrsA]
    ·simp only[AHeap.next_set,AHeap.next_allocAt,AHeap.next_del];omega
    ·show(AHeap.set _ _ _).get j=_
     rw[AHeap.get_set_ne _ _ (by omega),AHeap.get_allocAt_ne _ _ (by omega),AHeap.get_del_ne _ (by omega),AHeap.get_allocAt_ne _ _ (by omega),AHeap.get_set_ne _ _ (by omega),AHeap.get_allocAt_ne _ _ (by omega)]
     exact jo1 j hj
   ·have d1:decide ((-1:Int)≥0)=false:=rfl
    rw[hn]
    simp (maxSteps:=400000) only[wF,storeA,reduceCtorEq,Nat.reduceAdd,Nat.reduceSub,Nat.reduceEqDiff,Nat.reduceLeDiff,Int.reduceToNat,Int.reduceLE,Int.reduceLT,Int.reduceAdd,Int.reduceNeg,Nat.reduceMul,T58,d1]
    refine⟨(false,k,m,l,_),⟨hk,hl,(fun h=>by cases h),fun _=>hT.symm.trans hst,?_,?_,?_,m1,?_,fun j hj=>?_⟩,by simp,by simp[Fg],HW.refl _⟩
    ·show(AHeap.set _ _ _).get H.next=_
     rw[AHeap.get_set_ne _ _ (by omega),AHeap.get_allocAt_ne _ _ (by omega)]
     exact ja1
    ·show(AHeap.set _ _ _).get H1.next=_
     rw[AHeap.get_set_ne _ _ (by omega),AHeap.get_allocAt_ne _ _ (by omega)]
     exact jb1
    ·show(AHeap.set _ _ _).get m=_
     rw[AHeap.get_set_ne _ _ (by omega),AHeap.get_allocAt_ne _ _ (by omega)]
     exact jm1
    ·simp only[AHeap.next_set,AHeap.next_allocAt];omega
    ·show(AHeap.set _ _ _).get j=_
     rw[AHeap.get_set_ne _ _ (by omega),AHeap.get_allocAt_ne _ _ (by omega)]
     exact jo1 j hj
  | false=>
   have hF:=hF rfl
   simp (maxSteps:=400000) only[wF,storeA,reduceCtorEq,Nat.reduceAdd,Nat.reduceSub,Nat.reduceEqDiff,Nat.reduceLeDiff,Int.reduceToNat,Int.reduceLE,Int.reduceLT,Int.reduceAdd,Int.reduceNeg,Nat.reduceMul,T58]
   refine AInv.pureK B55 (r_blanks_ok G hk (by omega)) fun J1 j1=>?_
   have hf:=skipN_le hk
   have hf1:=skipN_ge s k
   generalize skipN s k=f at hf hf1 hF
   simp (maxSteps:=400000) only[wF,storeA,reduceCtorEq,Nat.reduceAdd,Nat.reduceSub,Nat.reduceEqDiff,Nat.reduceLeDiff,Int.reduceToNat,Int.reduceLE,Int.reduceLT,Int.reduceAdd,Int.reduceNeg,Nat.reduceMul,T58]
   refine AInv.pureK B52 (r_begins_ok G hf (by omega) (by simp)) fun J2 j2=>?_
   have nj:=j1.1
   have nj2:=j2.1
   have ja2:=ja
   have jb2:=jb
   have jm2:=jm
   rw[←j1.2,←j2.2]at ja2 jb2 jm2
   have jo2:∀j,j<H.next→J2.get j=H.get j:=fun j hj=>by rw[j2.2,j1.2];exact jo j hj
   unfold pc0 at ja2 jb2
   cases hp:Lib.hasPrefix (s.drop f) [62]with
   | true=>
    obtain⟨hfl,_⟩:=hasPrefix_one hp
    rw[hp,if_pos rfl]at hF
    have ef:IntKind.i64.wrap ((f:Int)+1)=((f+1:Nat):Int):=by rw[wrap64]<;>omega
    simp (maxSteps:=400000) only[wF,storeA,reduceCtorEq,Nat.reduceAdd,Nat.reduceSub,Nat.reduceEqDiff,Nat.reduceLeDiff,Int.reduceToNat,Int.reduceLE,Int.reduceLT,Int.reduceAdd,Int.reduceNeg,Nat.reduceMul,T58,ja2,jb2,u1,u2,ef,AV.boxable,AHeap.set_set]
    refine⟨_,_,Weak.freezeVal G (j:=m) (e:=59) (size:=2) (cs:=attrsA l) ?_ (by omega) (v' := .tup [.agg (pcC ⟨⟨0,nm,[],l,0,0⟩,f+1,false,false,false,false⟩),.bool true]) (.tup' ⟨.agg' ⟨.same _,.same _,.same _,.slc _ _ rfl,.same _,.same _,.same _,.same _,.same _,.same _,.same _,trivial⟩,.same _,trivial⟩),?_,?_,fun j hj=>?_⟩
    ·rw[AHeap.get_set_ne _ _ (by omega),AHeap.get_set_ne _ _ (by omega)]
     exact jm2
    ·unfold startP
     rw[hR,hF]
     rfl
    ·simp only[AHeap.next_del,AHeap.next_set];omega
    ·rw[AHeap.get_del_ne _ (by omega),AHeap.get_set_ne _ _ (by omega),AHeap.get_set_ne _ _ (by omega)]
     exact jo2 j hj
   | false=>
    rw[hp,if_neg (by simp)]at hF
    have ef:IntKind.i64.wrap ((f:Int)+2)=((f+2:Nat):Int):=by rw[wrap64]<;>omega
    simp (maxSteps:=400000) only[wF,storeA,reduceCtorEq,Nat.reduceAdd,Nat.reduceSub,Nat.reduceEqDiff,Nat.reduceLeDiff,Int.reduceToNat,Int.reduceLE,Int.reduceLT,Int.reduceAdd,Int.reduceNeg,Nat.reduceMul,T58,ja2,jb2,u1,u2,ef,AV.boxable,AHeap.set_set]
    generalize hJ3:AHeap.set J2 H1.next _=J3
    have n3:J3.next=J2.next:=by rw[←hJ3];rfl
    have a3:J3.get H.next=some (.cells 69 (pc0 [] .nils)):=by rw[←hJ3,AHeap.get_set_ne _ _ (by omega)];exact ja2
    have b3:J3.get H1.next=some (.cells 69 [.int .i64 0,.str nm,.str [],.slc m l.length,.int .i64 0,.int .i64 0,.int .i64 (f+2:Nat),.bool true,.bool false,.bool false,.bool false]):=by rw[←hJ3];exact AHeap.get_set_same _ _ _
    have m3:J3.get m=some (.row 59 2 (attrsA l)):=by rw[←hJ3,AHeap.get_set_ne _ _ (by omega)];exact jm2
    have o3:∀j,j<H.next→J3.get j=H.get j:=fun j hj=>by rw[←hJ3,AHeap.get_set_ne _ _ (by omega)];exact jo2 j hj
    clear hJ3
    refine drawW_ok (ex:=false) mixedOrders L58_18_eq P58_18_eq ?_
    simp (maxSteps:=400000) only[wF,storeA,reduceCtorEq,Nat.reduceAdd,Nat.reduceSub,Nat.reduceEqDiff,Nat.reduceLeDiff,Int.reduceToNat,Int.reduceLE,Int.reduceLT,Int.reduceAdd,Int.reduceNeg,Nat.reduceMul,L58_18,T58,b3]
    refine callW.pure B52 (r_begins_ok G hf (by omega) (by simp)) ?_
    unfold pc0 at a3
    simp (maxSteps:=400000) only[wF,storeA,reduceCtorEq,Nat.reduceAdd,Nat.reduceSub,Nat.reduceEqDiff,Nat.reduceLeDiff,Int.reduceToNat,Int.reduceLE,Int.reduceLT,Int.reduceAdd,Int.reduceNeg,Nat.reduceMul,T58,a3,AV.boxable]
    refine⟨by simp,fun q hq=>?_⟩
    have kept:∀o:AObj,Kept H ((⟨q,(J3.set H.next o).get⟩:AHeap)):=fun o=>⟨by simp only;omega,fun j hj=>by show(J3.set H.next o).get j=_;rw[AHeap.get_set_ne _ _ (by omega)];exact o3 j hj⟩
    cases hp2:Lib.hasPrefix (s.drop f) [47,62]with
    | true=>
     rw[hp2,if_pos rfl]at hF
     refine⟨_,_,Weak.freezeVal G (j:=m) (e:=59) (size:=2) (cs:=attrsA l) ?_ (by omega) (v' := .tup [.agg (pcC ⟨⟨0,nm,[],l,0,0⟩,f+2,true,false,false,false⟩),.bool true]) (.tup' ⟨.agg' ⟨.same _,.same _,.same _,.slc _ _ rfl,.same _,.same _,.same _,.same _,.same _,.same _,.same _,trivial⟩,.same _,trivial⟩),?_,?_⟩
     ·show(J3.set H.next _).get m=_
      rw[AHeap.get_set_ne _ _ (by omega)]
      exact m3
     ·unfold startP
      rw[hR,hF]
      rfl
     ·exact⟨(kept (.map [])).1,fun j hj=>by rw[AHeap.get_del_ne _ (by omega)];exact(kept _).2 j hj⟩
    | false=>
     rw[hp2,if_neg (by simp)]at hF
     refine⟨_,_,Weak.refl G _ _,?_,kept _⟩
     unfold startP
     rw[hR,hF]
     exact⟨_,rfl,rfl,rfl⟩
end Go.Ab
namespace Go.Ab
open Go Go.Lib Go.Proofs
def otherP (s:List UInt8) (i:Nat):Option Pc:=
 let c:=insideR s i sCom sDash
 if 0≤c.2 then(if Lib.hasPrefix (s.drop c.2.toNat) [62]=true then some ⟨⟨3,[],c.1,[],0,0⟩,c.2.toNat+1,false,false,false,false⟩else none)
 else
  let d:=insideR s i sCdata sCend
  if 0≤d.2 then some ⟨⟨2,[],d.1,[],0,0⟩,d.2.toNat,false,true,true,false⟩
  else
   let x:=insideR s i sXml [63,62]
   if 0≤x.2∧i=0∧isW (s.getD 5 0)=true then some ⟨⟨0,[],[],[],0,0⟩,x.2.toNat,false,false,false,true⟩
   else
    let t:=insideR s i [60,63] [63,62]
    let k:=nameR t.1 0
    if t.2<0∨k=0∨(t.1.take k).map lowC=[120,109,108]∨(k<t.1.length∧isW (t.1.getD k 0)=false)then none
    else some ⟨⟨4,t.1.take k,t.1.drop (skipN t.1 k),[],0,0⟩,t.2.toNat,false,false,false,false⟩
theorem insideR_cases {s:List UInt8} {i:Nat} (hi:i≤s.length) (first last:List UInt8):((insideR s i first last).2 = -1∧(insideR s i first last).1=[])∨∃n:Nat,(insideR s i first last).2=(n:Int)∧i+first.length+last.length≤n∧n≤s.length∧(insideR s i first last).1.length≤s.length:=by
 unfold insideR
 split
 ·rename_i h
  right
  have hr:=Lib.index_room (s.drop (i+first.length)) last h.2
  have hp:=hasPrefix_len h.1
  simp only[List.length_drop]at hr hp
  refine⟨i+first.length+(Lib.index (s.drop (i+first.length)) last).toNat+last.length,by simp only;omega,by omega,by omega,?_⟩
  simp only[List.length_take,List.length_drop]
  omega
 ·exact .inl ⟨rfl,rfl⟩
theorem Weak.pieceNil (G:Nat→Option (List AV)) (k:Int) (a b:List UInt8) (n:Int) (x0 x1 x2 x3:Bool) (J:AHeap) :
  Weak G [.tup [.agg [.int .i64 k,.str a,.str b,.nils,.int .i64 0,.int .i64 0,.int .i64 n,.bool x0,.bool x1,.bool x2,.bool x3],.bool true]] J [.tup [.agg [.int .i64 k,.str a,.str b,.lst 0 [],.int .i64 0,.int .i64 0,.int .i64 n,.bool x0,.bool x1,.bool x2,.bool x3],.bool true]] J:=
 Weak.nilLst ⟨.tup' ⟨.agg' ⟨.same _,.same _,.same _,.nil _ rfl,.same _,.same _,.same _,.same _,.same _,.same _,.same _,trivial⟩,.same _,trivial⟩,trivial⟩
set_option maxHeartbeats 8000000 in
set_option maxRecDepth 100000 in
theorem r_other_ok (G:Nat→Option (List AV)) {s:List UInt8} {i:Nat} (hi:i≤s.length) (hs:s.length≤900000000) (H:AHeap) :
  ACalls Tryz.prog G 27 [.str s,.int .i64 i] H fun r H'=>PcPost (otherP s i) r∧Kept H H':=by
 refine ACalls.ret (ACalls.of Tryz.func27 S27_eq R27 N27 rfl rfl ?_)
 simp (maxSteps:=400000) only[wF,storeA,reduceCtorEq,Nat.reduceAdd,Nat.reduceSub,Nat.reduceEqDiff,Nat.reduceLeDiff,Int.reduceToNat,Int.reduceLE,Int.reduceLT,Int.reduceAdd,Int.reduceNeg,Nat.reduceMul,S27,N27,R27,T27,AV.boxable]
 generalize hA:AHeap.allocAt H H.next _=A
 have an:A.next=H.next+1:=by rw[←hA];simp only[AHeap.next_allocAt];omega
 have aa:A.get H.next=some (.cells 69 [.int .i64 0,.str [],.str [],.nils,.int .i64 0,.int .i64 0,.int .i64 0,.bool false,.bool false,.bool false,.bool false]):=by rw[←hA,AHeap.get_allocAt_same]
 have ao:∀j,j<H.next→A.get j=H.get j:=fun j hj=>by rw[←hA,AHeap.get_allocAt_ne _ _ (by omega)]
 clear hA
 have fin:∀(J:AHeap) (o:AObj),Keeps A J→Kept H (J.set H.next o):=fun J o hJ=>⟨by have:=hJ.1;simp only[AHeap.next_set];omega,fun j hj=>by rw[AHeap.get_set_ne _ _ (by omega),hJ.2];exact ao j hj⟩
 unfold otherP
 simp only
 refine AInv.pureK B51 (r_inside_ok G hi hs (by simp) (by simp) (by simp)) fun H1 h1=>?_
 show _
 rcases insideR_cases hi sCom sDash with ⟨c1,c2⟩ | ⟨n,c1,c3,c4,c5⟩
 case inr=>
  have z:decide ((n:Int)≥0)=true:=decide_eq_true (by omega)
  have en:IntKind.i64.wrap ((n:Int)+1)=((n+1:Nat):Int):=by rw[wrap64]<;>omega
  have c1':(insideR s i [60,33,45,45] [45,45]).2=(n:Int):=c1
  have c5':(insideR s i [60,33,45,45] [45,45]).1=(insideR s i sCom sDash).1:=rfl
  rw[c1,if_pos (by omega),Int.toNat_natCast]
  simp (maxSteps:=400000) only[wF,storeA,reduceCtorEq,Nat.reduceAdd,Nat.reduceSub,Nat.reduceEqDiff,Nat.reduceLeDiff,Int.reduceToNat,Int.reduceLE,Int.reduceLT,Int.reduceAdd,Int.reduceNeg,Nat.reduceMul,T27,c1',z,en,buildA,fillA,AV.boxable]
  refine AInv.pureK B52 (r_begins_ok G c4 (by omega) (by simp)) fun H2 h2=>?_
  have k2:=h1.trans h2
  have a2:=aa
  rw[←k2.2]at a2
  cases hp:Lib.hasPrefix (s.drop n) [62]with
  | true=>
   simp (maxSteps:=400000) only[wF,storeA,reduceCtorEq,Nat.reduceAdd,Nat.reduceSub,Nat.reduceEqDiff,Nat.reduceLeDiff,Int.reduceToNat,Int.reduceLE,Int.reduceLT,Int.reduceAdd,Int.reduceNeg,Nat.reduceMul,T27,a2,AV.boxable]
   exact⟨_,_,Weak.pieceNil G _ _ _ _ _ _ _ _ _,rfl,fin H2 _ k2⟩
  | false=>
   simp (maxSteps:=400000) only[wF,storeA,reduceCtorEq,Nat.reduceAdd,Nat.reduceSub,Nat.reduceEqDiff,Nat.reduceLeDiff,Int.reduceToNat,Int.reduceLE,Int.reduceLT,Int.reduceAdd,Int.reduceNeg,Nat.reduceMul,T27,a2,AV.boxable]
   exact⟨_,_,Weak.refl G _ _,⟨_,rfl,rfl,rfl⟩,fin H2 _ k2⟩
 case inl=>
  have z:decide ((-1:Int)≥0)=false:=rfl
  have c1':(insideR s i [60,33,45,45] [45,45]).2 = -1:=c1
  rw[c1,if_neg (by decide)]
  simp (maxSteps:=400000) only[wF,storeA,reduceCtorEq,Nat.reduceAdd,Nat.reduceSub,Nat.reduceEqDiff,Nat.reduceLeDiff,Int.reduceToNat,Int.reduceLE,Int.reduceLT,Int.reduceAdd,Int.reduceNeg,Nat.reduceMul,T27,c1',z]
  refine AInv.pureK B51 (r_inside_ok G hi hs (by simp) (by simp) (by simp)) fun H2 h2=>?_
  have k2:=h1.trans h2
  rcases insideR_cases hi sCdata sCend with ⟨d1,d2⟩ | ⟨n,d1,d3,d4,d5⟩
  case inr=>
   have z2:decide ((n:Int)≥0)=true:=decide_eq_true (by omega)
   have a2:=aa
   rw[←k2.2]at a2
   have d1':(insideR s i [60,33,91,67,68,65,84,65,91] [93,93,62]).2=(n:Int):=d1
   rw[d1,if_pos (by omega),Int.toNat_natCast]
   simp (maxSteps:=400000) only[wF,storeA,reduceCtorEq,Nat.reduceAdd,Nat.reduceSub,Nat.reduceEqDiff,Nat.reduceLeDiff,Int.reduceToNat,Int.reduceLE,Int.reduceLT,Int.reduceAdd,Int.reduceNeg,Nat.reduceMul,T27,d1',z2,a2,buildA,fillA,AV.boxable]
   exact⟨_,_,Weak.pieceNil G _ _ _ _ _ _ _ _ _,rfl,fin H2 _ k2⟩
  case inl=>
   have d1':(insideR s i [60,33,91,67,68,65,84,65,91] [93,93,62]).2 = -1:=d1
   rw[d1,if_neg (by decide)]
   simp (maxSteps:=400000) only[wF,storeA,reduceCtorEq,Nat.reduceAdd,Nat.reduceSub,Nat.reduceEqDiff,Nat.reduceLeDiff,Int.reduceToNat,Int.reduceLE,Int.reduceLT,Int.reduceAdd,Int.reduceNeg,Nat.reduceMul,T27,d1',z]
   refine AInv.pureK B51 (r_inside_ok G hi hs (by simp) (by simp) (by simp)) fun H3 h3=>?_
   have k3:=k2.trans h3
   have rest:∀(Q:List AV→AHeap→Prop),True:=fun _=>trivial
   by_cases hdecl:0≤(insideR s i sXml [63,62]).2∧i=0∧isW (s.getD 5 0)=true
   ·rw[if_pos hdecl]
    obtain⟨x1,hi0,x3⟩:=hdecl
    rcases insideR_cases hi sXml [63,62]with ⟨y1,_⟩ | ⟨n,y1,y3,y4,y5⟩
    ·rw[y1]at x1
     exact absurd x1 (by decide)
    simp only[sXml,List.length_cons,List.length_nil]at y3
    have h5:5<s.length:=by omega
    have hg5:s[5]?=some s[5]:=List.getElem?_eq_getElem h5
    have hgd:s.getD 5 0=s[5]:=by rw[List.getD_eq_getElem?_getD,hg5];rfl
    rw[hgd]at x3
    have z2:decide ((n:Int)≥0)=true:=decide_eq_true (by omega)
    have z3:((i:Int)==0)=true:=by rw[hi0];rfl
    have y1':(insideR s i [60,63,120,109,108] [63,62]).2=(n:Int):=y1
    rw[y1,Int.toNat_natCast]
    have q5:(5:Int).toNat=5:=rfl
    generalize s[5]=c at hg5 x3
    simp (maxSteps:=400000) only[wF,storeA,reduceCtorEq,Nat.reduceAdd,Nat.reduceSub,Nat.reduceEqDiff,Nat.reduceLeDiff,Int.reduceToNat,Int.reduceLE,Int.reduceLT,Int.reduceAdd,Int.reduceNeg,Nat.reduceMul,T27,y1',z2,z3,hg5,q5]
    refine AInv.pureK B30 (r_white_ok G c) fun H4 h4=>?_
    have k4:=k3.trans h4
    have a4:=aa
    rw[←k4.2]at a4
    rw[x3]
    simp (maxSteps:=400000) only[wF,storeA,reduceCtorEq,Nat.reduceAdd,Nat.reduceSub,Nat.reduceEqDiff,Nat.reduceLeDiff,Int.reduceToNat,Int.reduceLE,Int.reduceLT,Int.reduceAdd,Int.reduceNeg,Nat.reduceMul,T27,a4,buildA,fillA,AV.boxable]
    exact⟨_,_,Weak.pieceNil G _ _ _ _ _ _ _ _ _,rfl,fin H4 _ k4⟩
   ·rw[if_neg hdecl]
    have three:(insideR s i sXml [63,62]).2 = -1∨(∃n:Nat,(insideR s i sXml [63,62]).2=(n:Int)∧i≠0)∨(∃n:Nat,(insideR s i sXml [63,62]).2=(n:Int)∧i=0∧5<s.length∧isW (s.getD 5 0)=false):=by
     rcases insideR_cases hi sXml [63,62]with ⟨y1,_⟩ | ⟨n,y1,y3,y4,y5⟩
     ·exact .inl y1
     ·right
      simp only[sXml,List.length_cons,List.length_nil]at y3
      by_cases hi0:i=0
      ·refine .inr ⟨n,y1,hi0,by omega,?_⟩
       cases hw:isW (s.getD 5 0)with
       | false=>rfl
       | true=>exact absurd ⟨by rw[y1];omega,hi0,hw⟩ hdecl
      ·exact .inl ⟨n,y1,hi0⟩
    clear hdecl
    rcases three with y1 | ⟨n,y1,hi0⟩ | ⟨n,y1,hi0,h5,x3⟩
    case' inl=>
     have y1':(insideR s i [60,63,120,109,108] [63,62]).2 = -1:=y1
     simp (maxSteps:=400000) only[wF,storeA,reduceCtorEq,Nat.reduceAdd,Nat.reduceSub,Nat.reduceEqDiff,Nat.reduceLeDiff,Int.reduceToNat,Int.reduceLE,Int.reduceLT,Int.reduceAdd,Int.reduceNeg,Nat.reduceMul,T27,y1',z]
     have k4:=k3
     generalize H3=H4 at k4
    case' inr.inl=>
     have y1':(insideR s i [60,63,120,109,108] [63,62]).2=(n:Int):=y1
     have z2:decide ((n:Int)≥0)=true:=decide_eq_true (by omega)
     have z3:((i:Int)==0)=false:=by rw[beq_eq_false_iff_ne];omega
     simp (maxSteps:=400000) only[wF,storeA,reduceCtorEq,Nat.reduceAdd,Nat.reduceSub,Nat.reduceEqDiff,Nat.reduceLeDiff,Int.reduceToNat,Int.reduceLE,Int.reduceLT,Int.reduceAdd,Int.reduceNeg,Nat.reduceMul,T27,y1',z2,z3]
     have k4:=k3
     generalize H3=H4 at k4
    case' inr.inr=>
     have y1':(insideR s i [60,63,120,109,108] [63,62]).2=(n:Int):=y1
     have z2:decide ((n:Int)≥0)=true:=decide_eq_true (by omega)
     have z3:((i:Int)==0)=true:=by rw[hi0];rfl
     have hg5:s[5]?=some s[5]:=List.getElem?_eq_getElem h5
     have hgd:s.getD 5 0=s[5]:=by rw[List.getD_eq_getElem?_getD,hg5];rfl
     rw[hgd]at x3
     have q5:(5:Int).toNat=5:=rfl
     generalize s[5]=c at hg5 x3
     simp (maxSteps:=400000) only[wF,storeA,reduceCtorEq,Nat.reduceAdd,Nat.reduceSub,Nat.reduceEqDiff,Nat.reduceLeDiff,Int.reduceToNat,Int.reduceLE,Int.reduceLT,Int.reduceAdd,Int.reduceNeg,Nat.reduceMul,T27,y1',z2,z3,hg5,q5]
     refine AInv.pureK B30 (r_white_ok G c) fun H4 h4=>?_
     have k4:=k3.trans h4
     rw[x3]
     simp (maxSteps:=400000) only[wF,storeA,reduceCtorEq,Nat.reduceAdd,Nat.reduceSub,Nat.reduceEqDiff,Nat.reduceLeDiff,Int.reduceToNat,Int.reduceLE,Int.reduceLT,Int.reduceAdd,Int.reduceNeg,Nat.reduceMul,T27]
    all_goals
     refine AInv.pureK B51 (r_inside_ok G hi hs (by simp) (by simp) (by simp)) fun H5 h5=>?_
     have k5:=k4.trans h5
     have htc:=insideR_cases hi [60,63] [63,62]
     generalize insideR s i [60,63] [63,62]=t at htc
     obtain⟨tx,tn⟩:=t
     simp only at htc ⊢
     have htl:tx.length≤900000000:=by
      rcases htc with ⟨_,h2⟩ | ⟨_,_,_,_,h2⟩
      ·rw[h2];simp
      ·omega
     simp (maxSteps:=400000) only[wF,storeA,reduceCtorEq,Nat.reduceAdd,Nat.reduceSub,Nat.reduceEqDiff,Nat.reduceLeDiff,Int.reduceToNat,Int.reduceLE,Int.reduceLT,Int.reduceAdd,Int.reduceNeg,Nat.reduceMul,T27]
     refine AInv.pureK B53 (r_name_ok G (i:=0) (Nat.zero_le _) htl) fun H6 h6=>?_
     have k6:=k5.trans h6
     have hkl:=nameR_le (s:=tx) (i:=0) (Nat.zero_le _)
     generalize nameR tx 0=k at hkl
     have a6:=aa
     rw[←k6.2]at a6
     rcases htc with ⟨t1,t2⟩ | ⟨n,t1,t3,t4,t5⟩
     ·have z4:decide ((-1:Int)<0)=true:=rfl
      rw[t1,if_pos (.inl (by decide))]
      simp (maxSteps:=400000) only[wF,storeA,reduceCtorEq,Nat.reduceAdd,Nat.reduceSub,Nat.reduceEqDiff,Nat.reduceLeDiff,Int.reduceToNat,Int.reduceLE,Int.reduceLT,Int.reduceAdd,Int.reduceNeg,Nat.reduceMul,T27,z4,a6,buildA,fillA,AV.boxable]
      exact⟨_,_,Weak.refl G _ _,⟨_,rfl,rfl,rfl⟩,fin H6 _ k6⟩
     have z4:decide ((n:Int)<0)=false:=decide_eq_false (by omega)
     have hn0:¬((n:Int)<0):=by omega
     rw[t1,Int.toNat_natCast]
     by_cases hk0:k=0
     ·have z5:((k:Int)==0)=true:=by rw[hk0];rfl
      rw[if_pos (.inr (.inl hk0))]
      simp (maxSteps:=400000) only[wF,storeA,reduceCtorEq,Nat.reduceAdd,Nat.reduceSub,Nat.reduceEqDiff,Nat.reduceLeDiff,Int.reduceToNat,Int.reduceLE,Int.reduceLT,Int.reduceAdd,Int.reduceNeg,Nat.reduceMul,T27,z4,z5,a6,buildA,fillA,AV.boxable]
      exact⟨_,_,Weak.refl G _ _,⟨_,rfl,rfl,rfl⟩,fin H6 _ k6⟩
     have z5:((k:Int)==0)=false:=by rw[beq_eq_false_iff_ne];omega
     have q1:((k:Int)≤(tx.length:Int))=True:=eq_true (by omega)
     simp (maxSteps:=400000) only[wF,storeA,reduceCtorEq,Nat.reduceAdd,Nat.reduceSub,Nat.reduceEqDiff,Nat.reduceLeDiff,Int.reduceToNat,Int.reduceLE,Int.reduceLT,Int.reduceAdd,Int.reduceNeg,Nat.reduceMul,T27,z4,z5,q1]
     refine AInv.pureK B54 (r_lower_ok G (by simp only[List.length_take];omega)) fun H7 h7=>?_
     have k7:=k6.trans h7
     have a7:=aa
     rw[←k7.2]at a7
     by_cases hlow:(tx.take k).map lowC=[120,109,108]
     ·have z6:((tx.take k).map lowC==[120,109,108])=true:=by rw[hlow];rfl
      rw[if_pos (.inr (.inr (.inl hlow)))]
      simp (maxSteps:=400000) only[wF,storeA,reduceCtorEq,Nat.reduceAdd,Nat.reduceSub,Nat.reduceEqDiff,Nat.reduceLeDiff,Int.reduceToNat,Int.reduceLE,Int.reduceLT,Int.reduceAdd,Int.reduceNeg,Nat.reduceMul,T27,z6,a7,buildA,fillA,AV.boxable]
      exact⟨_,_,Weak.refl G _ _,⟨_,rfl,rfl,rfl⟩,fin H7 _ k7⟩
     have z6:((tx.take k).map lowC==[120,109,108])=false:=by rw[beq_eq_false_iff_ne];exact hlow
     have hfin:∀(J:AHeap),Keeps A J→True:=fun _ _=>trivial
     by_cases hkt:k<tx.length
     ·have z7:decide ((k:Int)<(tx.length:Int))=true:=decide_eq_true (by omega)
      have hg:tx[k]?=some tx[k]:=List.getElem?_eq_getElem hkt
      have hgd:tx.getD k 0=tx[k]:=by rw[List.getD_eq_getElem?_getD,hg];rfl
      rw[hgd]
      generalize tx[k]=c at hg
      simp (maxSteps:=400000) only[wF,storeA,reduceCtorEq,Nat.reduceAdd,Nat.reduceSub,Nat.reduceEqDiff,Nat.reduceLeDiff,Int.reduceToNat,Int.reduceLE,Int.reduceLT,Int.reduceAdd,Int.reduceNeg,Nat.reduceMul,T27,z6,z7,hg]
      refine AInv.pureK B30 (r_white_ok G c) fun H8 h8=>?_
      have k8:=k7.trans h8
      have a8:=aa
      rw[←k8.2]at a8
      cases hw:isW c with
      | false=>
       rw[if_pos (.inr (.inr (.inr ⟨hkt,rfl⟩)))]
       simp (maxSteps:=400000) only[wF,storeA,reduceCtorEq,Nat.reduceAdd,Nat.reduceSub,Nat.reduceEqDiff,Nat.reduceLeDiff,Int.reduceToNat,Int.reduceLE,Int.reduceLT,Int.reduceAdd,Int.reduceNeg,Nat.reduceMul,T27,a8,buildA,fillA,AV.boxable]
       exact⟨_,_,Weak.refl G _ _,⟨_,rfl,rfl,rfl⟩,fin H8 _ k8⟩
      | true=>
       rw[if_neg (by rintro(h | h | h | ⟨_,h⟩);exact hn0 h;exact hk0 h;exact hlow h;cases h)]
       simp (maxSteps:=400000) only[wF,storeA,reduceCtorEq,Nat.reduceAdd,Nat.reduceSub,Nat.reduceEqDiff,Nat.reduceLeDiff,Int.reduceToNat,Int.reduceLE,Int.reduceLT,Int.reduceAdd,Int.reduceNeg,Nat.reduceMul,T27]
       refine drawW_ok (ex:=false) mixedOrders L27_14_eq P27_14_eq ?_
       simp (maxSteps:=400000) only[wF,storeA,reduceCtorEq,Nat.reduceAdd,Nat.reduceSub,Nat.reduceEqDiff,Nat.reduceLeDiff,Int.reduceToNat,Int.reduceLE,Int.reduceLT,Int.reduceAdd,Int.reduceNeg,Nat.reduceMul,L27_14,T27,q1]
       refine callW.pure B55 (r_blanks_ok G hkl (by omega)) ?_
       have hsl:=skipN_le hkl
       have q2:((skipN tx k:Int)≤(tx.length:Int))=True:=eq_true (by omega)
       simp (maxSteps:=400000) only[wF,storeA,reduceCtorEq,Nat.reduceAdd,Nat.reduceSub,Nat.reduceEqDiff,Nat.reduceLeDiff,Int.reduceToNat,Int.reduceLE,Int.reduceLT,Int.reduceAdd,Int.reduceNeg,Nat.reduceMul,T27,q2,a8,buildA,fillA,AV.boxable]
       refine⟨by simp,fun q hq=>⟨_,_,Weak.pieceNil G _ _ _ _ _ _ _ _ _,rfl,?_,fun j hj=>?_⟩⟩
       ·have:=(fin H8 (.map []) k8).1
        simp only[AHeap.next_set]at this ⊢
        omega
       ·exact(fin H8 _ k8).2 j hj
     ·have z7:decide ((k:Int)<(tx.length:Int))=false:=decide_eq_false (by omega)
      rw[if_neg (by rintro(h | h | h | ⟨h,_⟩);exact hn0 h;exact hk0 h;exact hlow h;exact hkt h)]
      simp (maxSteps:=400000) only[wF,storeA,reduceCtorEq,Nat.reduceAdd,Nat.reduceSub,Nat.reduceEqDiff,Nat.reduceLeDiff,Int.reduceToNat,Int.reduceLE,Int.reduceLT,Int.reduceAdd,Int.reduceNeg,Nat.reduceMul,T27,z6,z7]
      have k8:=k7
      have a8:=a7
      generalize H7=H8 at k8 a8
      refine drawW_ok (ex:=false) mixedOrders L27_14_eq P27_14_eq ?_
      simp (maxSteps:=400000) only[wF,storeA,reduceCtorEq,Nat.reduceAdd,Nat.reduceSub,Nat.reduceEqDiff,Nat.reduceLeDiff,Int.reduceToNat,Int.reduceLE,Int.reduceLT,Int.reduceAdd,Int.reduceNeg,Nat.reduceMul,L27_14,T27,q1]
      refine callW.pure B55 (r_blanks_ok G hkl (by omega)) ?_
      have hsl:=skipN_le hkl
      have q2:((skipN tx k:Int)≤(tx.length:Int))=True:=eq_true (by omega)
      simp (maxSteps:=400000) only[wF,storeA,reduceCtorEq,Nat.reduceAdd,Nat.reduceSub,Nat.reduceEqDiff,Nat.reduceLeDiff,Int.reduceToNat,Int.reduceLE,Int.reduceLT,Int.reduceAdd,Int.reduceNeg,Nat.reduceMul,T27,q2,a8,buildA,fillA,AV.boxable]
      refine⟨by simp,fun q hq=>⟨_,_,Weak.pieceNil G _ _ _ _ _ _ _ _ _,rfl,?_,fun j hj=>?_⟩⟩
      ·have:=(fin H8 (.map []) k8).1
       simp only[AHeap.next_set]at this ⊢
       omega
      ·exact(fin H8 _ k8).2 j hj
end Go.Ab
namespace Go.Ab
open Go Go.Lib Go.Proofs
def endP (s:List UInt8) (i:Nat):Option Pc:=
 if(endS s i).2.2=true then some ⟨⟨1,(endS s i).1,[],[],0,0⟩,(endS s i).2.1,false,false,false,false⟩else none
theorem stopsEnd:∀c∈([62]:List UInt8),stopC c=true:=by intro c hc;simp at hc;subst hc;exact stop62
theorem endP_eq {s:List UInt8} {i:Nat} (hp:Lib.hasPrefix (s.drop i) [60,47]=true) (hi:i+2≤s.length):endP s i =
  if i+2<nameR s (i+2)∧Lib.hasPrefix (s.drop (skipN s (nameR s (i+2)))) [62]=true then some ⟨⟨1,(s.take (nameR s (i+2))).drop (i+2),[],[],0,0⟩,skipN s (nameR s (i+2))+1,false,false,false,false⟩else none:=by
 unfold endP endS
 rw[if_pos hp]
 simp only
 rcases token hi stopsEnd with ⟨h1,h2,h3⟩ | ⟨h1,h2⟩
 ·rw[h1,h2]
  cases hq:Lib.hasPrefix (s.drop (skipN s (untilN s (i+2) [62]))) [62]with
  | true=>rw[if_pos (by rfl),if_pos ⟨h3,rfl⟩]
  | false=>rw[if_neg (by simp),if_neg (by simp)]
 ·rw[h1,if_neg (by simp),if_neg]
  rintro⟨h3,h4⟩
  rcases h2 with h2 | ⟨h2,h5,h6,h7⟩
  ·omega
  ·rw[skipN_at (drop_getD h5) h6,drop_getD h5]at h4
   generalize s.getD (nameR s (i+2)) 0=c at h4 h7
   have:c≠62:=by rintro rfl;revert h7;decide
   simp[Lib.hasPrefix,List.isPrefixOf,Ne.symm this]at h4
set_option maxHeartbeats 8000000 in
set_option maxRecDepth 100000 in
theorem r_end_ok (G:Nat→Option (List AV)) {s:List UInt8} {i:Nat} (hi:i≤s.length) (hs:s.length≤900000000) (H:AHeap) :
  ACalls Tryz.prog G 57 [.str s,.int .i64 i] H fun r H'=>PcPost (endP s i) r∧Kept H H':=by
 refine ACalls.ret (ACalls.of Tryz.func57 S57_eq R57 N57 rfl rfl ?_)
 simp (maxSteps:=400000) only[wF,storeA,reduceCtorEq,Nat.reduceAdd,Nat.reduceSub,Nat.reduceEqDiff,Nat.reduceLeDiff,Int.reduceToNat,Int.reduceLE,Int.reduceLT,Int.reduceAdd,Int.reduceNeg,Nat.reduceMul,S57,N57,R57,T57,AV.boxable]
 generalize hA:AHeap.allocAt H H.next _=A
 have an:A.next=H.next+1:=by rw[←hA];simp only[AHeap.next_allocAt];omega
 have aa:A.get H.next=some (.cells 69 [.int .i64 0,.str [],.str [],.nils,.int .i64 0,.int .i64 0,.int .i64 0,.bool false,.bool false,.bool false,.bool false]):=by rw[←hA,AHeap.get_allocAt_same]
 have ao:∀j,j<H.next→A.get j=H.get j:=fun j hj=>by rw[←hA,AHeap.get_allocAt_ne _ _ (by omega)]
 clear hA
 refine AInv.pureK B52 (r_begins_ok G hi (by omega) (by simp)) fun H1 h1=>?_
 have a1:=aa
 rw[←h1.2]at a1
 have n1:=h1.1
 cases hp:Lib.hasPrefix (s.drop i) [60,47]with
 | false=>
  have he:endP s i=none:=by unfold endP endS;rw[if_neg (c:=Lib.hasPrefix _ _=true) (by simp[hp])];rfl
  rw[he]
  simp (maxSteps:=400000) only[wF,storeA,reduceCtorEq,Nat.reduceAdd,Nat.reduceSub,Nat.reduceEqDiff,Nat.reduceLeDiff,Int.reduceToNat,Int.reduceLE,Int.reduceLT,Int.reduceAdd,Int.reduceNeg,Nat.reduceMul,T57,a1,buildA,fillA,AV.boxable]
  exact⟨_,_,Weak.refl G _ _,⟨_,rfl,rfl,rfl⟩,by simp only[AHeap.next_set];omega,fun j hj=>by rw[AHeap.get_set_ne _ _ (by omega),h1.2];exact ao j hj⟩
 | true=>
  have hpl:=hasPrefix_len hp
  simp only[List.length_drop,List.length_cons,List.length_nil]at hpl
  have hi2:i+2≤s.length:=by omega
  rw[endP_eq hp hi2]
  have e2:IntKind.i64.wrap ((i:Int)+2)=((i+2:Nat):Int):=by rw[wrap64]<;>omega
  simp (maxSteps:=400000) only[wF,storeA,reduceCtorEq,Nat.reduceAdd,Nat.reduceSub,Nat.reduceEqDiff,Nat.reduceLeDiff,Int.reduceToNat,Int.reduceLE,Int.reduceLT,Int.reduceAdd,Int.reduceNeg,Nat.reduceMul,T57,e2]
  refine AInv.pureK B53 (r_name_ok G hi2 hs) fun H2 h2=>?_
  have he:=nameR_le hi2
  have he1:=nameR_ge s (i+2)
  generalize nameR s (i+2)=e at he he1
  have n2:=h2.1
  have k2:=h1.trans h2
  have q1:(((i+2:Nat):Int)≤(e:Int))=True:=eq_true (by omega)
  have q2:((e:Int)≤(s.length:Int))=True:=eq_true (by omega)
  simp (maxSteps:=400000) only[wF,storeA,reduceCtorEq,Nat.reduceAdd,Nat.reduceSub,Nat.reduceEqDiff,Nat.reduceLeDiff,Int.reduceToNat,Int.reduceLE,Int.reduceLT,Int.reduceAdd,Int.reduceNeg,Nat.reduceMul,T57,e2,q1,q2,buildA,fillA,AV.boxable]
  generalize (s.take e).drop (i+2)=nm
  generalize hX:AHeap.set (AHeap.allocAt H2 H2.next _) H2.next _=X
  have xn:X.next=H2.next+1:=by rw[←hX];simp only[AHeap.next_set,AHeap.next_allocAt];omega
  have a2:=aa
  rw[←k2.2]at a2
  have xa:X.get H.next=some (.cells 69 [.int .i64 0,.str [],.str [],.nils,.int .i64 0,.int .i64 0,.int .i64 0,.bool false,.bool false,.bool false,.bool false]):=by rw[←hX,AHeap.get_set_ne _ _ (by omega),AHeap.get_allocAt_ne _ _ (by omega)];exact a2
  have xb:X.get H2.next=some (.cells 69 [.int .i64 1,.str nm,.str [],.nils,.int .i64 0,.int .i64 0,.int .i64 0,.bool false,.bool false,.bool false,.bool false]):=by rw[←hX,AHeap.get_set_same]
  have xo:∀j,j<H.next→X.get j=H.get j:=fun j hj=>by rw[←hX,AHeap.get_set_ne _ _ (by omega),AHeap.get_allocAt_ne _ _ (by omega),k2.2];exact ao j hj
  clear hX
  refine AInv.pureK B55 (r_blanks_ok G he (by omega)) fun H3 h3=>?_
  have hf:=skipN_le he
  have hf1:=skipN_ge s e
  generalize skipN s e=f at hf hf1
  have n3:=h3.1
  have a3:=xa
  have b3:=xb
  rw[←h3.2]at a3 b3
  have o3:∀j,j<H.next→H3.get j=H.get j:=fun j hj=>by rw[h3.2];exact xo j hj
  have ef:IntKind.i64.wrap ((f:Int)+1)=((f+1:Nat):Int):=by rw[wrap64]<;>omega
  have em:IntKind.i64.wrap (((f+1:Nat):Int)-1)=((f:Nat):Int):=by rw[wrap64]<;>omega
  simp (maxSteps:=400000) only[wF,storeA,reduceCtorEq,Nat.reduceAdd,Nat.reduceSub,Nat.reduceEqDiff,Nat.reduceLeDiff,Int.reduceToNat,Int.reduceLE,Int.reduceLT,Int.reduceAdd,Int.reduceNeg,Nat.reduceMul,T57,ef,b3,AV.boxable]
  generalize hY:AHeap.set H3 H2.next _=Y
  have yn:Y.next=H3.next:=by rw[←hY];rfl
  have ya:Y.get H.next=some (.cells 69 [.int .i64 0,.str [],.str [],.nils,.int .i64 0,.int .i64 0,.int .i64 0,.bool false,.bool false,.bool false,.bool false]):=by rw[←hY,AHeap.get_set_ne _ _ (by omega)];exact a3
  have yb:Y.get H2.next=some (.cells 69 [.int .i64 1,.str nm,.str [],.nils,.int .i64 0,.int .i64 0,.int .i64 (f+1:Nat),.bool false,.bool false,.bool false,.bool false]):=by rw[←hY];exact AHeap.get_set_same _ _ _
  have yo:∀j,j<H.next→Y.get j=H.get j:=fun j hj=>by rw[←hY,AHeap.get_set_ne _ _ (by omega)];exact o3 j hj
  clear hY
  refine drawW_ok (ex:=false) mixedOrders L57_6_eq P57_6_eq ?_
  by_cases hgt:i+2<e
  ·have z:decide ((e:Int)>((i+2:Nat):Int))=true:=decide_eq_true (by omega)
   simp (maxSteps:=400000) only[wF,storeA,reduceCtorEq,Nat.reduceAdd,Nat.reduceSub,Nat.reduceEqDiff,Nat.reduceLeDiff,Int.reduceToNat,Int.reduceLE,Int.reduceLT,Int.reduceAdd,Int.reduceNeg,Nat.reduceMul,L57_6,T57,yb,e2,z,em]
   refine callW.pure B52 (r_begins_ok G hf (by omega) (by simp)) ?_
   simp (maxSteps:=400000) only[wF,storeA,reduceCtorEq,Nat.reduceAdd,Nat.reduceSub,Nat.reduceEqDiff,Nat.reduceLeDiff,Int.reduceToNat,Int.reduceLE,Int.reduceLT,Int.reduceAdd,Int.reduceNeg,Nat.reduceMul,T57,ya,AV.boxable]
   refine⟨by simp,fun q hq=>?_⟩
   cases hp2:Lib.hasPrefix (s.drop f) [62]with
   | true=>
    rw[if_pos ⟨hgt,rfl⟩]
    exact⟨_,_,Weak.pieceNil G _ _ _ _ _ _ _ _ _,rfl,by simp only;omega,fun j hj=>by show(Y.set H.next _).get j=_;rw[AHeap.get_set_ne _ _ (by omega)];exact yo j hj⟩
   | false=>
    rw[if_neg (by simp)]
    exact⟨_,_,Weak.refl G _ _,⟨_,rfl,rfl,rfl⟩,by simp only;omega,fun j hj=>by show(Y.set H.next _).get j=_;rw[AHeap.get_set_ne _ _ (by omega)];exact yo j hj⟩
  ·have z:decide ((e:Int)>((i+2:Nat):Int))=false:=decide_eq_false (by omega)
   simp (maxSteps:=400000) only[wF,storeA,reduceCtorEq,Nat.reduceAdd,Nat.reduceSub,Nat.reduceEqDiff,Nat.reduceLeDiff,Int.reduceToNat,Int.reduceLE,Int.reduceLT,Int.reduceAdd,Int.reduceNeg,Nat.reduceMul,L57_6,T57,yb,e2,z,ya,AV.boxable]
   rw[if_neg (by omega)]
   refine⟨by simp,fun q hq=>?_⟩
   exact⟨_,_,Weak.refl G _ _,⟨_,rfl,rfl,rfl⟩,by simp only;omega,fun j hj=>by show(Y.set H.next _).get j=_;rw[AHeap.get_set_ne _ _ (by omega)];exact yo j hj⟩
end Go.Ab
namespace Go.Ab
open Go Go.Lib Go.Proofs
def atP (s:List UInt8) (i:Nat):Option Pc:=(otherP s i).orElse fun _=>(endP s i).orElse fun _=>startP s i
theorem eleven {c:List AV} (h:c.length=11):∃a b d e f g i j k l m,c=[a,b,d,e,f,g,i,j,k,l,m]:=by
 match c,h with
 | [a,b,d,e,f,g,i,j,k,l,m],_=>exact⟨a,b,d,e,f,g,i,j,k,l,m,rfl⟩
theorem PcPost.cells {o:Option Pc} {r:ARes} (h:PcPost o r):∃c,c.length=11∧c.all AV.one=true∧r = .ret (.tup [.agg c,.bool o.isSome])∧∀p,o=some p→c=pcC p:=by
 cases o with
 | some p=>exact⟨pcC p,rfl,rfl,h,fun q hq=>by cases hq;rfl⟩
 | none=>
  obtain⟨c,h1,h2,h3⟩:=h
  exact⟨c,h2,h3,h1,fun q hq=>by cases hq⟩
set_option maxHeartbeats 8000000 in
set_option maxRecDepth 100000 in
theorem r_at_ok (G:Nat→Option (List AV)) {s:List UInt8} {i:Nat} (hi:i<s.length) (hs:s.length≤900000000) (H:AHeap) :
  ACalls Tryz.prog G 31 [.str s,.int .i64 i] H fun r H'=>PcPost (atP s i) r∧Kept H H':=by
 refine ACalls.ret (ACalls.of Tryz.func31 S31_eq R31 N31 rfl rfl ?_)
 simp (maxSteps:=400000) only[wF,storeA,reduceCtorEq,Nat.reduceAdd,Nat.reduceSub,Nat.reduceEqDiff,Nat.reduceLeDiff,Int.reduceToNat,Int.reduceLE,Int.reduceLT,Int.reduceAdd,Int.reduceNeg,Nat.reduceMul,S31,N31,R31,T31,AV.boxable]
 generalize hA:AHeap.allocAt H H.next _=A
 have an:A.next=H.next+1:=by rw[←hA];simp only[AHeap.next_allocAt];omega
 have aa:A.get H.next=some (.cells 69 [.int .i64 0,.str [],.str [],.nils,.int .i64 0,.int .i64 0,.int .i64 0,.bool false,.bool false,.bool false,.bool false]):=by rw[←hA,AHeap.get_allocAt_same]
 have ao:∀j,j<H.next→A.get j=H.get j:=fun j hj=>by rw[←hA,AHeap.get_allocAt_ne _ _ (by omega)]
 clear hA
 refine AInv.call B27 (r_other_ok G (Nat.le_of_lt hi) hs _) fun r1 H1 h1=>?_
 obtain⟨p1,k1⟩:=h1
 have n1:=k1.1
 have a1:H1.get H.next=_:=(k1.2 _ (by omega)).trans aa
 have o1:∀j,j<H.next→H1.get j=H.get j:=fun j hj=>(k1.2 j (by omega)).trans (ao j hj)
 obtain⟨c,c1,c2,rfl,c3⟩:=p1.cells
 have tk:List.take 11 c=c:=List.take_of_length_le (by omega)
 have sc:∀(d:List AV),d.length=11→setCells d 0 c=c:=fun d hd=>by
  obtain⟨d0,d1,d2,d3,d4,d5,d6,d7,d8,d9,d10,rfl⟩:=eleven c1
  obtain⟨e0,e1,e2,e3,e4,e5,e6,e7,e8,e9,e10,rfl⟩:=eleven hd
  rfl
 have ne1:(H.next=H1.next)=False:=eq_false (by omega)
 unfold atP
 cases h:otherP s i with
 | some p=>
  simp (maxSteps:=400000) only[wF,storeA,reduceCtorEq,Nat.reduceAdd,Nat.reduceSub,Nat.reduceEqDiff,Nat.reduceLeDiff,Int.reduceToNat,Int.reduceLE,Int.reduceLT,Int.reduceAdd,Int.reduceNeg,Nat.reduceMul,T31,a1,AV.boxable,c1,c2,tk,sc,ne1,Nat.le_refl,Option.isSome]
  refine⟨_,_,Weak.refl G _ _,?_,?_,fun j hj=>?_⟩
  ·rw[c3 p h];rfl
  ·simp only[AHeap.next_set,AHeap.next_allocAt];omega
  ·rw[AHeap.get_set_ne _ _ (by omega),AHeap.get_set_ne _ _ (by omega),AHeap.get_allocAt_ne _ _ (by omega)];exact o1 j hj
 | none=>
  simp (maxSteps:=400000) only[wF,storeA,reduceCtorEq,Nat.reduceAdd,Nat.reduceSub,Nat.reduceEqDiff,Nat.reduceLeDiff,Int.reduceToNat,Int.reduceLE,Int.reduceLT,Int.reduceAdd,Int.reduceNeg,Nat.reduceMul,T31,a1,AV.boxable,c1,c2,tk,sc,ne1,Nat.le_refl,Option.isSome]
  generalize hX:AHeap.set (AHeap.allocAt H1 H1.next _) H1.next _=X
  have xn:X.next=H1.next+1:=by rw[←hX];simp only[AHeap.next_set,AHeap.next_allocAt];omega
  have xa:X.get H.next=some (.cells 69 [.int .i64 0,.str [],.str [],.nils,.int .i64 0,.int .i64 0,.int .i64 0,.bool false,.bool false,.bool false,.bool false]):=by rw[←hX,AHeap.get_set_ne _ _ (by omega),AHeap.get_allocAt_ne _ _ (by omega)];exact a1
  have xb:X.get H1.next=some (.cells 69 c):=by rw[←hX,AHeap.get_set_same]
  have xo:∀j,j<H.next→X.get j=H.get j:=fun j hj=>by rw[←hX,AHeap.get_set_ne _ _ (by omega),AHeap.get_allocAt_ne _ _ (by omega)];exact o1 j hj
  clear hX
  refine AInv.call B57 (r_end_ok G (Nat.le_of_lt hi) hs _) fun r2 H2 h2=>?_
  obtain⟨p2,k2⟩:=h2
  have n2:=k2.1
  have a2:H2.get H.next=_:=(k2.2 _ (by omega)).trans xa
  have b2:H2.get H1.next=_:=(k2.2 _ (by omega)).trans xb
  have o2:∀j,j<H.next→H2.get j=H.get j:=fun j hj=>(k2.2 j (by omega)).trans (xo j hj)
  obtain⟨d,d1,d2,rfl,d3⟩:=p2.cells
  have td:List.take 11 d=d:=List.take_of_length_le (by omega)
  have sd:∀(e:List AV),e.length=11→setCells e 0 d=d:=fun e he=>by
   obtain⟨d0,d1,d2,d3,d4,d5,d6,d7,d8,d9,d10,rfl⟩:=eleven d1
   obtain⟨e0,e1,e2,e3,e4,e5,e6,e7,e8,e9,e10,rfl⟩:=eleven he
   rfl
  cases g:endP s i with
  | some p=>
   simp (maxSteps:=400000) only[wF,storeA,reduceCtorEq,Nat.reduceAdd,Nat.reduceSub,Nat.reduceEqDiff,Nat.reduceLeDiff,Int.reduceToNat,Int.reduceLE,Int.reduceLT,Int.reduceAdd,Int.reduceNeg,Nat.reduceMul,T31,a2,b2,AV.boxable,c1,ne1,d1,d2,td,sd,Nat.le_refl,Option.isSome]
   refine⟨_,_,Weak.refl G _ _,?_,?_,fun j hj=>?_⟩
   ·rw[d3 p g];rfl
   ·simp only[AHeap.next_set];omega
   ·rw[AHeap.get_set_ne _ _ (by omega),AHeap.get_set_ne _ _ (by omega)];exact o2 j hj
  | none=>
   simp (maxSteps:=400000) only[wF,storeA,reduceCtorEq,Nat.reduceAdd,Nat.reduceSub,Nat.reduceEqDiff,Nat.reduceLeDiff,Int.reduceToNat,Int.reduceLE,Int.reduceLT,Int.reduceAdd,Int.reduceNeg,Nat.reduceMul,T31,a2,b2,AV.boxable,c1,ne1,d1,d2,td,sd,Nat.le_refl,Option.isSome]
   refine AInv.call B58 (r_start_ok G hi hs _) fun r3 H3 h3=>?_
   obtain⟨p3,k3⟩:=h3
   have n3:=k3.1
   simp only[AHeap.next_set]at n3
   have a3:H3.get H.next=_:=(k3.2 _ (by simp only[AHeap.next_set];omega)).trans ((AHeap.get_set_ne _ _ (by omega)).trans a2)
   have b3:H3.get H1.next=_:=(k3.2 _ (by simp only[AHeap.next_set];omega)).trans (AHeap.get_set_same _ _ _)
   have o3:∀j,j<H.next→H3.get j=H.get j:=fun j hj=>(k3.2 j (by simp only[AHeap.next_set];omega)).trans ((AHeap.get_set_ne _ _ (by omega)).trans (o2 j hj))
   obtain⟨e,e1,e2,rfl,e3⟩:=p3.cells
   have te:List.take 11 e=e:=List.take_of_length_le (by omega)
   have se:∀(f:List AV),f.length=11→setCells f 0 e=e:=fun f hf=>by
    obtain⟨d0,d1,d2,d3,d4,d5,d6,d7,d8,d9,d10,rfl⟩:=eleven e1
    obtain⟨e0,e1,e2,e3,e4,e5,e6,e7,e8,e9,e10,rfl⟩:=eleven hf
    rfl
   simp (maxSteps:=400000) only[wF,storeA,reduceCtorEq,Nat.reduceAdd,Nat.reduceSub,Nat.reduceEqDiff,Nat.reduceLeDiff,Int.reduceToNat,Int.reduceLE,Int.reduceLT,Int.reduceAdd,Int.reduceNeg,Nat.reduceMul,T31,a3,b3,AV.boxable,c1,ne1,e1,e2,te,se,Nat.le_refl]
   refine⟨_,_,Weak.refl G _ _,?_,?_,fun j hj=>?_⟩
   ·cases u:startP s i with
    | some p=>rw[e3 p u];rfl
    | none=>exact⟨e,rfl,e1,e2⟩
   ·simp only[AHeap.next_set];omega
   ·rw[AHeap.get_set_ne _ _ (by omega)];exact o3 j hj
end Go.Ab
namespace Go.Ab
open Go Go.Lib Go.Proofs
def rtextF:Nat→List UInt8→Nat→List UInt8→Except Nat (List UInt8 × Nat)
 | 0,_,i,acc => .ok (acc,i)
 | f+1,s,i,acc=>
  if i<s.length∧s.getD i 0≠60 then
   if Lib.hasPrefix (s.drop i) sCend=true then .error i
   else if s.getD i 0=38 then(if(refD (s.drop (i+1))).2.2=true then rtextF f s (i+1+(refD (s.drop (i+1))).2.1+1) (acc++(refD (s.drop (i+1))).1)else .error i)
   else rtextF f s (i+1) (acc++[s.getD i 0])
  else .ok (acc,i)
theorem rtextF_fuel (s:List UInt8):∀(f g i:Nat) (acc:List UInt8),s.length-i≤f→s.length-i≤g→rtextF f s i acc=rtextF g s i acc
 | 0,0,_,_,_,_=>rfl
 | 0,g+1,i,acc,h,_=>by simp only[rtextF];rw[if_neg (by omega)]
 | f+1,0,i,acc,_,h=>by simp only[rtextF];rw[if_neg (by omega)]
 | f+1,g+1,i,acc,hf,hg=>by
  simp only[rtextF]
  split
  ·split
   ·rfl
   split
   ·split
    ·exact rtextF_fuel s f g _ _ (by omega) (by omega)
    ·rfl
   ·exact rtextF_fuel s f g _ _ (by omega) (by omega)
  ·rfl
def rtextL (s:List UInt8) (i:Nat) (acc:List UInt8):Except Nat (List UInt8 × Nat):=rtextF (s.length-i) s i acc
theorem rtextL_end {s:List UInt8} {i:Nat} (acc:List UInt8) (h:s.length≤i∨s.getD i 0=60):rtextL s i acc = .ok (acc,i):=by
 unfold rtextL
 cases hf:s.length-i with
 | zero=>rfl
 | succ f=>
  simp only[rtextF]
  rw[if_neg]
  rintro⟨h1,h2⟩
  rcases h with h | h
  ·omega
  ·exact h2 h
theorem rtextL_step {s:List UInt8} {i:Nat} (acc:List UInt8) (h:i<s.length) (h2:s.getD i 0≠60):rtextL s i acc =
  if Lib.hasPrefix (s.drop i) sCend=true then .error i
  else if s.getD i 0=38 then(if(refD (s.drop (i+1))).2.2=true then rtextL s (i+1+(refD (s.drop (i+1))).2.1+1) (acc++(refD (s.drop (i+1))).1)else .error i)
  else rtextL s (i+1) (acc++[s.getD i 0]):=by
 have e:s.length-i=(s.length-i-1)+1:=by omega
 unfold rtextL
 rw[e]
 simp only[rtextF]
 rw[if_pos ⟨h,h2⟩]
 split
 ·rfl
 split
 ·split
  ·exact rtextF_fuel s _ _ _ _ (by omega) (by omega)
  ·rfl
 ·exact rtextF_fuel s _ _ _ _ (by omega) (by omega)
theorem rtextF_bound {s:List UInt8}:∀(f i:Nat) (acc:List UInt8),i≤s.length→acc.length≤4*i→match rtextF f s i acc with
  | .ok x=>i≤x.2∧x.2≤s.length∧x.1.length≤4*x.2
  | .error k=>i≤k∧k<s.length
 | 0,i,acc,h,h2=>by simp only[rtextF];exact⟨Nat.le_refl _,h,h2⟩
 | f+1,i,acc,h,h2=>by
  by_cases c:i<s.length∧s.getD i 0≠60
  case neg=>simp only[rtextF];rw[if_neg c];exact⟨Nat.le_refl _,h,h2⟩
  simp only[rtextF]
  rw[if_pos c]
  by_cases c1:Lib.hasPrefix (s.drop i) sCend=true
  ·rw[if_pos c1];exact⟨Nat.le_refl _,c.1⟩
  rw[if_neg c1]
  by_cases c2:s.getD i 0=38
  ·rw[if_pos c2]
   by_cases c3:(refD (s.drop (i+1))).2.2=true
   ·rw[if_pos c3]
    have hb:=refD_bound c3
    have hl:=refD_len (s.drop (i+1))
    simp only[List.length_drop]at hb
    have:=rtextF_bound (s:=s) f (i+1+(refD (s.drop (i+1))).2.1+1) (acc++(refD (s.drop (i+1))).1) (by omega) (by simp only[List.length_append];omega)
    generalize rtextF f s (i+1+(refD (s.drop (i+1))).2.1+1) (acc++(refD (s.drop (i+1))).1)=r at this
    cases r with
    | ok x=>simp only at this ⊢;omega
    | error x=>simp only at this ⊢;omega
   ·rw[if_neg c3];exact⟨Nat.le_refl _,c.1⟩
  ·rw[if_neg c2]
   have:=rtextF_bound (s:=s) f (i+1) (acc++[s.getD i 0]) (by omega) (by simp only[List.length_append,List.length_singleton];omega)
   generalize rtextF f s (i+1) (acc++[s.getD i 0])=r at this
   cases r with
   | ok x=>simp only at this ⊢;omega
   | error x=>simp only at this ⊢;omega
def TxPost (o:Except Nat (List UInt8 × Nat)) (r:ARes):Prop:=
 match o with
 | .ok x=>r = .ret (.tup [.agg (pcC ⟨⟨2,[],x.1,[],0,0⟩,x.2,false,true,false,false⟩),.int .i64 (-1)])
 | .error k=>r = .ret (.tup [.agg (pcC ⟨⟨0,[],[],[],0,0⟩,0,false,false,false,false⟩),.int .i64 k])
theorem Weak.textNil (G:Nat→Option (List AV)) (k:Int) (a b:List UInt8) (n m:Int) (x0 x1 x2 x3:Bool) (J:AHeap) :
  Weak G [.tup [.agg [.int .i64 k,.str a,.str b,.nils,.int .i64 0,.int .i64 0,.int .i64 n,.bool x0,.bool x1,.bool x2,.bool x3],.int .i64 m]] J [.tup [.agg [.int .i64 k,.str a,.str b,.lst 0 [],.int .i64 0,.int .i64 0,.int .i64 n,.bool x0,.bool x1,.bool x2,.bool x3],.int .i64 m]] J:=
 Weak.nilLst ⟨.tup' ⟨.agg' ⟨.same _,.same _,.same _,.nil _ rfl,.same _,.same _,.same _,.same _,.same _,.same _,.same _,trivial⟩,.same _,trivial⟩,trivial⟩
def RTextAt (s:List UInt8) (i:Nat) (A:AHeap) (x:Nat × List UInt8 × AHeap):Prop:=
 i≤x.1∧x.1≤s.length∧x.2.1.length≤4*x.1∧rtextL s x.1 x.2.1=rtextL s i []∧Keeps A x.2.2
set_option maxHeartbeats 8000000 in
set_option maxRecDepth 100000 in
theorem r_text_ok (G:Nat→Option (List AV)) {s:List UInt8} {i:Nat} (hi:i≤s.length) (hs:s.length≤900000000) (H:AHeap) :
  ACalls Tryz.prog G 28 [.str s,.int .i64 i] H fun r H'=>TxPost (rtextL s i []) r∧Kept H H':=by
 refine ACalls.ret (ACalls.of Tryz.func28 S28_eq R28 N28 rfl rfl ?_)
 simp (maxSteps:=400000) only[wF,storeA,reduceCtorEq,Nat.reduceAdd,Nat.reduceSub,Nat.reduceEqDiff,Nat.reduceLeDiff,Int.reduceToNat,Int.reduceLE,Int.reduceLT,Int.reduceAdd,Int.reduceNeg,Nat.reduceMul,S28,N28,R28,T28,AV.boxable]
 generalize hA:AHeap.allocAt H H.next _=A
 have an:A.next=H.next+1:=by rw[←hA];simp only[AHeap.next_allocAt];omega
 have aa:A.get H.next=some (.cells 69 [.int .i64 0,.str [],.str [],.nils,.int .i64 0,.int .i64 0,.int .i64 0,.bool false,.bool false,.bool false,.bool false]):=by rw[←hA,AHeap.get_allocAt_same]
 have ao:∀j,j<H.next→A.get j=H.get j:=fun j hj=>by rw[←hA,AHeap.get_allocAt_ne _ _ (by omega)]
 clear hA
 have fin:∀(J:AHeap) (o:AObj),Keeps A J→Kept H (J.set H.next o):=fun J o hJ=>⟨by have:=hJ.1;simp only[AHeap.next_set];omega,fun j hj=>by rw[AHeap.get_set_ne _ _ (by omega),hJ.2];exact ao j hj⟩
 refine ATrS.loopK (κ:=Nat × List UInt8 × AHeap) (fun x=>[.str s,.int .i64 x.1,.und,.und,.ptr H.next 0,.int .i64 0,.str x.2.1]++List.replicate 46 .und) (fun x=>x.2.2)
  (RTextAt s i A) (fun x=>s.length-x.1) ⟨(i,[],A),⟨Nat.le_refl _,hi,by simp,rfl,Keeps.refl A⟩,by simp[Fg],HW.refl _⟩ ?_
 rintro⟨k,acc,J⟩ ⟨k1,k2,k3,hv,hH⟩
 simp only at k1 k2 k3 hv hH
 have ja:=aa
 rw[←hH.2]at ja
 by_cases hlt:k<s.length
 case neg=>
  have d1:decide ((k:Int)<(s.length:Int))=false:=by simp;omega
  rw[rtextL_end acc (.inl (by omega))]at hv
  simp (maxSteps:=400000) only[wF,storeA,reduceCtorEq,Nat.reduceAdd,Nat.reduceSub,Nat.reduceEqDiff,Nat.reduceLeDiff,Int.reduceToNat,Int.reduceLE,Int.reduceLT,Int.reduceAdd,Int.reduceNeg,Nat.reduceMul,T28,d1,ja,buildA,fillA,AV.boxable]
  rw[←hv]
  exact⟨_,_,Weak.textNil G _ _ _ _ _ _ _ _ _ _,rfl,fin _ _ hH⟩
 have d1:decide ((k:Int)<(s.length:Int))=true:=by simp;omega
 have hg:s[k]?=some s[k]:=List.getElem?_eq_getElem hlt
 have hgd:s.getD k 0=s[k]:=by rw[List.getD_eq_getElem?_getD,hg];rfl
 by_cases h60:s[k]=60
 ·rw[rtextL_end acc (.inr (by rw[hgd,h60]))]at hv
  have b1:((s[k].toNat:Int) != 60)=false:=by rw[h60];rfl
  simp (maxSteps:=400000) only[wF,storeA,reduceCtorEq,Nat.reduceAdd,Nat.reduceSub,Nat.reduceEqDiff,Nat.reduceLeDiff,Int.reduceToNat,Int.reduceLE,Int.reduceLT,Int.reduceAdd,Int.reduceNeg,Nat.reduceMul,T28,d1,hg,b1,ja,buildA,fillA,AV.boxable]
  rw[←hv]
  exact⟨_,_,Weak.textNil G _ _ _ _ _ _ _ _ _ _,rfl,fin _ _ hH⟩
 have hst:=rtextL_step acc hlt (by rw[hgd];exact h60)
 rw[hv,hgd]at hst
 have hsl:=name_at (List.drop_eq_getElem_cons hlt)
 have hd:=List.drop_eq_getElem_cons hlt
 have ew:IntKind.i64.wrap ((k:Int)+1)=((k+1:Nat):Int):=by rw[wrap64]<;>omega
 have q1:((k:Int)≤((k+1:Nat):Int))=True:=by simp;omega
 have q2:(((k+1:Nat):Int)≤(s.length:Int))=True:=by simp;omega
 generalize s[k]=c at hst hg hsl hd h60
 have b1:((c.toNat:Int) != 60)=true:=by
  rw[bne_iff_ne]
  intro h
  exact h60 (UInt8.toNat_inj.1 (by simpa using Int.ofNat_inj.1 h))
 simp (maxSteps:=400000) only[wF,storeA,reduceCtorEq,Nat.reduceAdd,Nat.reduceSub,Nat.reduceEqDiff,Nat.reduceLeDiff,Int.reduceToNat,Int.reduceLE,Int.reduceLT,Int.reduceAdd,Int.reduceNeg,Nat.reduceMul,T28,d1,hg,b1]
 refine AInv.pureK B52 (r_begins_ok G (Nat.le_of_lt hlt) (by omega) (by simp)) fun J1 h1=>?_
 have ja1:=ja
 rw[←h1.2]at ja1
 have hc:Lib.hasPrefix (s.drop k) [93,93,62]=Lib.hasPrefix (s.drop k) sCend:=rfl
 rw[hc]
 cases hp:Lib.hasPrefix (s.drop k) sCend with
 | true=>
  rw[if_pos hp]at hst
  simp (maxSteps:=400000) only[wF,storeA,reduceCtorEq,Nat.reduceAdd,Nat.reduceSub,Nat.reduceEqDiff,Nat.reduceLeDiff,Int.reduceToNat,Int.reduceLE,Int.reduceLT,Int.reduceAdd,Int.reduceNeg,Nat.reduceMul,T28,ja1,buildA,fillA,AV.boxable]
  rw[hst]
  exact⟨_,_,Weak.textNil G _ _ _ _ _ _ _ _ _ _,rfl,fin _ _ (hH.trans h1)⟩
 | false=>
  rw[if_neg (by simp[hp])]at hst
  by_cases h38:c=38
  ·have b2:((c.toNat:Int)==38)=true:=by rw[h38];rfl
   rw[if_pos h38]at hst
   have hW:=refW_eq (s:=s) (i:=k) (t:=s.drop (k+1)) (by rw[hd,h38])
   simp (maxSteps:=400000) only[wF,storeA,reduceCtorEq,Nat.reduceAdd,Nat.reduceSub,Nat.reduceEqDiff,Nat.reduceLeDiff,Int.reduceToNat,Int.reduceLE,Int.reduceLT,Int.reduceAdd,Int.reduceNeg,Nat.reduceMul,T28,hg,hsl,ew,q1,q2,b2]
   refine AInv.pureK B56 (r_ref_ok G (by omega) hs) fun J2 h2=>?_
   have ja2:=ja1
   rw[←h2.2]at ja2
   rw[hW]
   have hl4:=refD_len (s.drop (k+1))
   cases hok:(refD (s.drop (k+1))).2.2 with
   | false=>
    rw[hok,if_neg (by simp)]at hst
    have z:decide ((-1:Int)<0)=true:=rfl
    simp only[Bool.false_eq_true,if_false]
    simp (maxSteps:=400000) only[wF,storeA,reduceCtorEq,Nat.reduceAdd,Nat.reduceSub,Nat.reduceEqDiff,Nat.reduceLeDiff,Int.reduceToNat,Int.reduceLE,Int.reduceLT,Int.reduceAdd,Int.reduceNeg,Nat.reduceMul,T28,z,ja2,buildA,fillA,AV.boxable]
    rw[hst]
    exact⟨_,_,Weak.textNil G _ _ _ _ _ _ _ _ _ _,rfl,fin _ _ ((hH.trans h1).trans h2)⟩
   | true=>
    have hbd:=refD_bound hok
    simp only[List.length_drop]at hbd
    rw[if_pos hok]at hst
    rw[if_pos rfl]
    have z:decide (((k+1+(refD (s.drop (k+1))).2.1+1:Nat):Int)<0)=false:=by simp;omega
    simp (maxSteps:=400000) only[wF,storeA,reduceCtorEq,Nat.reduceAdd,Nat.reduceSub,Nat.reduceEqDiff,Nat.reduceLeDiff,Int.reduceToNat,Int.reduceLE,Int.reduceLT,Int.reduceAdd,Int.reduceNeg,Nat.reduceMul,T28,z]
    exact⟨by simp only[maxStr];omega,(k+1+(refD (s.drop (k+1))).2.1+1,acc++(refD (s.drop (k+1))).1,J2),⟨by simp only;omega,by simp only;omega,by simp only[List.length_append];omega,hst.symm,(hH.trans h1).trans h2⟩,by simp only;omega,by simp[Fg],HW.refl _⟩
  ·have b2:((c.toNat:Int)==38)=false:=by
    rw[beq_eq_false_iff_ne]
    intro h
    exact h38 (UInt8.toNat_inj.1 (by simpa using Int.ofNat_inj.1 h))
   rw[if_neg h38]at hst
   have z:decide (((k+1:Nat):Int)<0)=false:=by simp;omega
   simp (maxSteps:=400000) only[wF,storeA,reduceCtorEq,Nat.reduceAdd,Nat.reduceSub,Nat.reduceEqDiff,Nat.reduceLeDiff,Int.reduceToNat,Int.reduceLE,Int.reduceLT,Int.reduceAdd,Int.reduceNeg,Nat.reduceMul,T28,hg,hsl,ew,q1,q2,b2,z]
   exact⟨by simp only[maxStr,List.length_singleton];omega,(k+1,acc++[c],J1),⟨by simp only;omega,hlt,by simp only[List.length_append,List.length_singleton];omega,hst.symm,hH.trans h1⟩,by simp only;omega,by simp[Fg],HW.refl _⟩
end Go.Ab
