/- Two HTML texts, one after the other: nodes and string value. -/
import Derived.Test.YtojncnpmlhhccaaGreatDoorPL5
import Derived.Test.YtojncnpmlhhccaaGreatDoorHTC
set_option linter.all false
namespace Go.Ab
open Go Go.Lib
def kidsTo (l:List Nd):Nat→List Nat
 | 0=>[]
 | m+1=>kidsTo l m++(if 1≤m∧(l.getD m nd0).up=0 then [m]else [])
theorem kids_last (l:List Nd):∀m,(kidsTo l m).getLast?=if lastN l 0 m=0 then none else some (lastN l 0 m)
 | 0=>rfl
 | m+1=>by
  by_cases h:1≤m∧(l.getD m nd0).up=0
  ·have e1:kidsTo l (m+1)=kidsTo l m++[m]:=by rw[kidsTo,if_pos h]
   have e2:lastN l 0 (m+1)=m:=by rw[lastN,if_pos ⟨h.1,h.2⟩]
   rw[e1,e2,List.getLast?_concat,if_neg (by omega)]
  ·have e1:kidsTo l (m+1)=kidsTo l m:=by rw[kidsTo,if_neg h,List.append_nil]
   have e2:lastN l 0 (m+1)=lastN l 0 m:=by rw[lastN,if_neg (fun hh=>h ⟨hh.1,hh.2⟩)]
   rw[e1,e2]
   exact kids_last l m
theorem kids_none (l:List Nd):kidsTo l 1=[]:=rfl
theorem kids_head {l:List Nd} (h:(l.getD 1 nd0).up=0):∀m,2≤m→(kidsTo l m).head?=some 1
 | 0,hm=>absurd hm (by decide)
 | 1,hm=>absurd hm (by decide)
 | 2,_=>by
  rw[kidsTo,kids_none,if_pos ⟨Nat.le_refl _,h⟩]
  rfl
 | m+3,_=>by
  have:=kids_head h (m+2) (by omega)
  rw[kidsTo,List.head?_append,this]
  rfl
def meet (t u:List Nd):Bool:=match (kidsTo t t.length).getLast?,(kidsTo u u.length).head? with
 | some a,some b=>(t.getD a nd0).kind==3&&(u.getD b nd0).kind==3
 | _,_=>false
theorem above0 {l:List Nd}:∀(n i:Nat),i≤n→UpOk l i→aboveN l 0 i=true
 | n,i,hn,h=>by
  rcases Nat.eq_zero_or_pos i with h0 | h0
  ·subst h0;exact aboveN_self _ _
  ·have:=h i h0 (Nat.le_refl _)
   rw[aboveN_step h h0]
   cases n with
   | zero=>omega
   | succ n=>exact above0 n _ (by omega) fun k k1 k2=>h k k1 (by omega)
theorem stop0 {l:List Nd} (hv:ValidN l):∀(f k:Nat),k≤l.length→l.length≤k+f→stopN l 0 f k=l.length
 | 0,k,h1,h2=>by simp only[stopN];omega
 | f+1,k,h1,h2=>by
  simp only[stopN]
  by_cases hk:k<l.length
  ·rw[if_pos ⟨hk,above0 k k (Nat.le_refl _) (hv.upOk hk)⟩]
   exact stop0 hv f (k+1) hk (by omega)
  ·rw[if_neg (fun h=>hk h.1)]
   omega
def txts (l:List Nd):List UInt8:=l.flatMap fun x=>if x.kind=3 then x.text else []
theorem txts_app (l m:List Nd):txts (l++m)=txts l++txts m:=by simp[txts]
theorem txts_sh (m:Nat) (l:List Nd):txts (l.map (shN m))=txts l:=by
 induction l with
 | nil=>rfl
 | cons x l ih=>
  simp only[txts,List.map_cons,List.flatMap_cons]at ih ⊢
  rw[ih]
  rfl
theorem txts_root {l:List Nd} (h:l.getD 0 nd0=nd0):txts (l.drop 1)=txts l:=by
 cases l with
 | nil=>rfl
 | cons x l=>
  have:x=nd0:=by simpa using h
  subst this
  rfl
theorem textTo_all (l:List Nd):textTo l 0 l.length=txts (l.drop 1):=by
 unfold textTo txts
 rw[List.take_length]
theorem bang_err {s:List UInt8} (h:s=[60]∨∃w,s=60::33::w∧Lib.hasPrefix s sCom=false):∀l,readHL ⟨s,[],[]⟩ ≠ .ok l:=by
 intro l e
 have hne:s≠[]:=by
  rcases h with rfl | ⟨w,rfl,_⟩<;>simp
 have hst:startHS s=none:=by
  cases hs:startHS s with
  | none=>rfl
  | some x=>
   obtain⟨_,c,d,v,h1,_,h2,_⟩:=startHS_app [] hs
   rcases h with rfl | ⟨w,rfl,_⟩
   ·cases h1
   ·cases h1;exact absurd rfl h2
 have hp:pieceHS ⟨s,[],[]⟩ = .error 5:=by
  unfold pieceHS
  have hraw:rawNow ⟨s,[],[]⟩=false:=rfl
  rw[hraw,if_neg (by simp)]
  simp only
  rcases h with rfl | ⟨w,rfl,h2⟩
  ·rw[if_neg (by simp),endHS_no (by decide),commentHS_no (by decide),instrHS_no (by decide),hst]
  ·rw[if_neg (by simp),endHS_no (by simp[Lib.hasPrefix,List.isPrefixOf]),commentHS_no h2,instrHS_no (by simp[Lib.hasPrefix,List.isPrefixOf]),hst]
 rw[readHL_step,if_neg hne,hp]at e
 cases e
theorem take_doct:∀k,k<16→1≤k→(sDoct.take k=[60]∨∃w,sDoct.take k=60::33::w∧Lib.hasPrefix (sDoct.take k) sCom=false):=by
 intro k h1 h2
 match k,h1,h2 with
 | 1,_,_=>exact .inl rfl
 | k+2,_,_=>
  right
  refine⟨(sDoct.take (k+2)).drop 2,?_,?_⟩
  ·simp[sDoct]
  ·cases k with
   | zero=>decide
   | succ k=>simp[sDoct,sCom,Lib.hasPrefix,List.isPrefixOf]
theorem doct_take {a r:List UInt8} (h:Lib.hasPrefix (a++r) sDoct=true) (hl:a.length<16):a=sDoct.take a.length:=by
 unfold Lib.hasPrefix at h
 rw[List.isPrefixOf_iff_prefix]at h
 obtain⟨v,hv⟩:=h
 have:=congrArg (List.take a.length) hv
 rw[List.take_left,List.take_append_of_le_length (by have:sDoct.length=16:=rfl;omega)]at this
 exact this.symm
theorem lastN_of_last {l:List Nd} (h1:2≤l.length) (h2:(l.getD (l.length-1) nd0).up=0):lastN l 0 l.length=l.length-1:=by
 obtain⟨n,hn⟩:∃n,l.length=n+1:=⟨l.length-1,by omega⟩
 rw[hn]at h2 ⊢
 rw[Nat.add_sub_cancel]at h2 ⊢
 rw[lastN,if_pos ⟨by omega,h2⟩]
theorem meet_fuse {t:TSt} {u:List Nd} (h:VOk t) (ho:t.op=0) (hu:ValidN u):meet t.l u=true↔(Fuse t∧2≤u.length∧(u.getD 1 nd0).kind=3):=by
 have hop:=h.d.op
 have hlen0:1≤t.l.length:=by omega
 have hlast:∀a,(kidsTo t.l t.l.length).getLast?=some a→((t.l.getD a nd0).kind=3↔Fuse t):=by
  intro a ha
  rw[kids_last]at ha
  split at ha
  ·cases ha
  rename_i hne
  cases ha
  have hl2:=h.l2
  rw[ho]at hl2
  constructor
  ·intro h3
   have e:=hl2 h3
   have hup:=lastN_up _ hne
   rw[e]at h3 hup
   exact⟨h3,hup⟩
  ·rintro⟨h3,h4⟩
   have h2:2≤t.l.length:=by
    have:=lastN_lt t.l 0 t.l.length
    omega
   rw[lastN_of_last h2 h4]
   exact h3
 have hnone:(kidsTo t.l t.l.length).getLast?=none→¬Fuse t:=by
  intro ha hf
  rw[kids_last]at ha
  split at ha
  ·rename_i hz
   have h2:2≤t.l.length:=by
    rcases Nat.lt_or_ge t.l.length 2 with hlt | hge
    ·exfalso
     have:t.last=nd0:=by
      unfold TSt.last
      rw[show t.l.length-1=0 by omega]
      exact h.d.root
     have hk:=hf.1
     rw[this]at hk
     exact absurd hk (by decide)
    ·exact hge
   rw[lastN_of_last h2 hf.2]at hz
   omega
  ·cases ha
 unfold meet
 rcases Nat.lt_or_ge u.length 2 with hlt | hge
 ·have hu1:u.length=1:=by have:=hu.len0;omega
  rw[hu1,kids_none]
  constructor
  ·intro hh
   split at hh
   ·rename_i hb
    cases hb
   ·cases hh
  ·rintro⟨_,h2,_⟩;omega
 ·have hup:=hu.up 1 (by omega) (by omega)
  have hup0:(u.getD 1 nd0).up=0:=by omega
  rw[kids_head hup0 u.length hge]
  cases hg:(kidsTo t.l t.l.length).getLast? with
  | none=>
   simp only
   have:=hnone hg
   constructor
   ·intro h;cases h
   ·rintro⟨h1,_⟩;exact absurd h1 this
  | some a=>
   simp only
   have:=hlast a hg
   rw[Bool.and_eq_true,beq_iff_eq,beq_iff_eq,this]
   constructor
   ·rintro⟨h1,h2⟩;exact⟨h1,hge,h2⟩
   ·rintro⟨h1,_,h2⟩;exact⟨h1,h2⟩
theorem html_parts {a b:List UInt8} {t u:List Nd} (ha:a.length≤2000) (hb:b.length≤2000) (h1:htmlS a = .ok t) (h2:htmlS b = .ok u) :
  ¬(a=[]∧Lib.hasPrefix (Lib.trimPrefix b sDoct) [60,33,68,79,67,84,89,80,69]=true) ∧
  ∃v,htmlS (a++Lib.trimPrefix b sDoct) = .ok v∧v.length+1+(if meet t u=true then 1 else 0)=t.length+u.length∧txts (v.drop 1)=txts (t.drop 1)++txts (u.drop 1):=by
 obtain⟨ea,ta,a1,a2,a3,rfl,a5,a6,a7,a8⟩:=html_valid h1
 obtain⟨eb,tb,b1,b2,b3,rfl,b5,b6,b7,b8⟩:=html_valid h2
 have hbok:readHL ⟨Lib.trimPrefix b sDoct,[],[]⟩ = .ok eb:=b1
 have haok:readHL ⟨Lib.trimPrefix a sDoct,[],[]⟩ = .ok ea:=a1
 have nob:∀w,Lib.trimPrefix b sDoct=60::33::68::w→False:=fun w hw=>by
  rw[hw]at hbok
  exact bang_err (.inr ⟨68::w,rfl,by simp[sCom,Lib.hasPrefix,List.isPrefixOf]⟩) eb hbok
 have three:∀{q s:List UInt8},Lib.hasPrefix s (60::33::68::q)=true→∃w,s=60::33::68::w:=fun {q s} hq=>by
  match s,hq with
  | [],h=>simp[Lib.hasPrefix,List.isPrefixOf]at h
  | [_],h=>simp[Lib.hasPrefix,List.isPrefixOf]at h
  | [_,_],h=>simp[Lib.hasPrefix,List.isPrefixOf]at h
  | c::d::e::v,h=>
   simp[Lib.hasPrefix,List.isPrefixOf]at h
   exact⟨v,by rw[h.1,h.2.1,h.2.2.1]⟩
 refine⟨fun hh=>?_,?_⟩
 ·obtain⟨w,hw⟩:=three hh.2
  exact nob w hw
 have htrim:Lib.trimPrefix (a++Lib.trimPrefix b sDoct) sDoct=Lib.trimPrefix a sDoct++Lib.trimPrefix b sDoct:=by
  by_cases hp:Lib.hasPrefix a sDoct=true
  ·exact trim_app _ hp
  ·have hpf:Lib.hasPrefix a sDoct=false:=by simpa using hp
   have hta:Lib.trimPrefix a sDoct=a:=by unfold Lib.trimPrefix;rw[hpf];rfl
   rw[hta]
   by_cases hq:Lib.hasPrefix (a++Lib.trimPrefix b sDoct) sDoct=true
   ·exfalso
    rcases Nat.lt_or_ge a.length 16 with hlt | hge
    ·rcases Nat.eq_zero_or_pos a.length with h0 | h0
     ·have:a=[]:=List.length_eq_zero_iff.1 h0
      rw[this,List.nil_append]at hq
      obtain⟨w,hw⟩:=three hq
      exact nob w hw
     ·have hat:=doct_take hq hlt
      rw[hta,hat]at haok
      exact bang_err (take_doct _ hlt h0) ea haok
    ·rw[prefix_app _ (show sDoct.length≤a.length from hge)]at hq
     exact hp hq
   ·have hqf:Lib.hasPrefix (a++Lib.trimPrefix b sDoct) sDoct=false:=by simpa using hq
    unfold Lib.trimPrefix at hqf ⊢
    rw[hqf]
    rfl
 obtain⟨el,l1,l2⟩:=events_app haok hbok
 have hel:eventsHS (a++Lib.trimPrefix b sDoct) = .ok el:=by
  unfold eventsHS
  rw[htrim]
  exact l1
 have htl:=Lib.trimPrefix_le a sDoct
 have htl2:=Lib.trimPrefix_le b sDoct
 have wa:=readHL_W _ ⟨Lib.trimPrefix a sDoct,[],[]⟩ (Nat.le_refl _) haok
 have wb:=readHL_W _ ⟨Lib.trimPrefix b sDoct,[],[]⟩ (Nat.le_refl _) hbok
 have w0:evsW ([]:List Ev)=0:=rfl
 simp only[w0,Nat.zero_add]at wa wb
 have sa:=sz_fold ea TOk.init a2
 have sb:=sz_fold eb TOk.init b2
 have s0:t0T.sz=1:=rfl
 rw[s0]at sa sb
 have hta:ta.l.length+ta.bytes≤4001:=by have:=sa.2;simp only[TSt.sz]at this;omega
 have hga:=Glue.init a5.d a3
 obtain⟨s',d,m,B,g1,g2⟩:=Glue.evs a5.d.root (by omega) eb hga DOk.init TOk.init b2 (by omega) (by omega)
 have hfold:foldT el t0T = .ok s':=by
  refine fold_joined l2 ?_
  rw[foldT_app,a2]
  exact g1
 have hs'op:s'.op=0:=by rw[g2.op,b3];rfl
 have hit:isTextS (a++Lib.trimPrefix b sDoct)=true:=by
  refine isTextS_cat _ ?_ _ a (Nat.le_refl _) a8
  by_cases hp:Lib.hasPrefix b sDoct=true
  ·have hsplit:b=[60,33,68,79,67,84,89,80,69,32,104,116,109,108,62]++10::Lib.trimPrefix b sDoct:=by
    unfold Lib.trimPrefix
    rw[hp,if_pos rfl]
    unfold Lib.hasPrefix at hp
    rw[List.isPrefixOf_iff_prefix]at hp
    obtain⟨v,hv⟩:=hp
    rw[←hv,List.drop_left]
    rfl
   rw[hsplit,isTextS_app (by decide) _ _ _ (Nat.le_refl _),Bool.and_eq_true]at b8
   exact b8.2
  ·have hpf:Lib.hasPrefix b sDoct=false:=by simpa using hp
   have:Lib.trimPrefix b sDoct=b:=by unfold Lib.trimPrefix;rw[hpf];rfl
   rw[this]
   exact b8
 have hv:htmlS (a++Lib.trimPrefix b sDoct) = .ok s'.l:=by
  unfold htmlS
  rw[if_neg (by rw[List.length_append];omega),hit,if_neg (by simp),hel]
  simp only
  unfold buildS
  rw[hfold]
  simp only
  rw[if_neg (by rw[hs'op];simp)]
 refine⟨s'.l,hv,?_,?_⟩
 ·have hlen:=g2.length
  have hB:=g2.len
  have hm:=meet_fuse (u:=tb.l) a5 a3 b5.valid
  have htl0:1≤ta.l.length:=by have:=a5.d.op;omega
  rcases g2.kind with ⟨k1,k2,k3⟩ | ⟨k1,k2,k3,k4,k5⟩
  ·have hno:¬meet ta.l tb.l=true:=by
    intro hh
    obtain⟨q1,q2,q3⟩:=hm.1 hh
    exact k3 (by omega) q1 q3
   rw[if_neg hno]
   rw[k2]at hB
   omega
  ·have hd1:=g2.d1
   rw[if_pos (hm.2 ⟨k2,by omega,k3⟩)]
   rw[k5]at hB
   simp only[List.length_append,List.length_dropLast,List.length_singleton]at hB
   omega
 ·have hroot:s'.l.getD 0 nd0=nd0:=by
   have:=(DOk.init:DOk t0T)
   have hall:∀(l:List Ev) {x y:TSt},DOk x→foldT l x = .ok y→DOk y:=by
    intro l
    induction l with
    | nil=>intro x y h e;cases e;exact h
    | cons z l ih=>
     intro x y h e
     simp only[foldT]at e
     split at e
     ·cases e
     ·rename_i x1 hx1;exact ih (h.event hx1) e
   exact(hall el this hfold).root
  rw[txts_root hroot,txts_root a5.d.root,txts_root b5.d.root,g2.l,txts_app,txts_sh]
  rcases g2.kind with ⟨k1,k2,k3⟩ | ⟨k1,k2,k3,k4,k5⟩
  ·rw[k1,k2,txts_root b5.d.root]
  ·have hd1:=g2.d1
   have hub:txts tb.l=(tb.l.getD 1 nd0).text++txts (tb.l.drop 2):=by
    rw[←txts_root b5.d.root,List.drop_eq_getElem_cons (show 1<tb.l.length by omega),←nd_getD (by omega)]
    simp only[txts,List.flatMap_cons]
    rw[if_pos k3]
   obtain⟨D,x0,hD⟩:∃D x0,ta.l=D++[x0]:=by
    have hop:=a5.d.op
    rcases List.eq_nil_or_concat ta.l with h0 | ⟨D,x0,h0⟩
    ·rw[h0]at hop;simp at hop
    ·exact⟨D,x0,by rw[h0,List.concat_eq_append]⟩
   obtain⟨e1,e2⟩:=last_end hD
   have hx3:x0.kind=3:=by rw[←e1];exact k2.1
   rw[k5,k1,hub,e2,e1,hD]
   simp only[txts_app]
   simp only[txts,List.flatMap_cons,List.flatMap_nil,List.append_nil,List.append_assoc]
   rw[if_pos hx3,if_pos hx3]
   simp only[List.append_assoc]
end Go.Ab
