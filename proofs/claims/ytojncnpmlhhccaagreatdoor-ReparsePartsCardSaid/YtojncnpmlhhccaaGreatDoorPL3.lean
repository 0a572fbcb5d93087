/- Two HTML texts, one after the other: events. -/
import Derived.Test.YtojncnpmlhhccaaGreatDoorPL2
set_option linter.all false
namespace Go.Ab
open Go Go.Lib
def NoEl (l:List Ev):Prop:=∀x,l.getLast?=some x→x.kind≠0
def preO (p:List Ev):Except Nat HSt→Except Nat HSt
 | .error e => .error e
 | .ok h => .ok { h with l:=p++h.l }
def preL (p:List Ev):Except Nat (List Ev)→Except Nat (List Ev)
 | .error e => .error e
 | .ok l => .ok (p++l)
theorem getLast_app {p l:List Ev} (h:l≠[]):(p++l).getLast?=l.getLast?:=by
 rw[List.getLast?_append]
 cases l with
 | nil=>exact absurd rfl h
 | cons a l=>rw[List.getLast?_cons];rfl
theorem rawNow_pre {h:HSt} {p:List Ev} (hp:h.l≠[]∨NoEl p):rawNow { h with l:=p++h.l }=rawNow h:=by
 by_cases hl:h.l=[]
 ·rcases hp with hp | hp
  ·exact absurd hl hp
  ·unfold rawNow
   simp only
   rw[hl,List.append_nil]
   cases hg:p.getLast? with
   | none=>rfl
   | some x=>
    have:=hp x hg
    have e:(x.kind==0)=false:=by simp[this]
    simp[e]
 ·unfold rawNow
  simp only
  rw[getLast_app hl]
theorem pieceHS_pre {h:HSt} {p:List Ev} (hp:h.l≠[]∨NoEl p):pieceHS { h with l:=p++h.l }=preO p (pieceHS h):=by
 unfold pieceHS
 rw[rawNow_pre hp]
 by_cases h1:rawNow h=true
 ·rw[if_pos h1,if_pos h1]
  by_cases h2:Lib.index h.s [60,47]<0
  ·simp only[if_pos h2,preO]
  ·simp only[if_neg h2,preO,HSt.add,List.append_assoc]
 rw[if_neg h1,if_neg h1]
 by_cases h2:h.s.getD 0 0≠60
 ·simp only[if_pos h2]
  by_cases h3:(unescS (Lib.cut h.s [60]).1).2=true
  ·simp only[if_pos h3,preO,HSt.add,List.append_assoc]
  ·simp only[if_neg h3,preO]
 simp only[if_neg h2]
 cases h3:endHS h.s with
 | some x=>
  obtain⟨name,rest⟩:=x
  simp only
  by_cases h4:h.opens.getLast?=some name
  ·simp only[if_pos h4,preO,HSt.add,List.append_assoc]
  ·simp only[if_neg h4,preO]
 | none=>
  simp only
  cases h4:commentHS h.s with
  | some x=>simp only[preO,HSt.add,List.append_assoc]
  | none=>
   simp only
   cases h5:instrHS h.s with
   | some x=>simp only[preO,HSt.add,List.append_assoc]
   | none=>
    simp only
    cases h6:startHS h.s with
    | none=>rfl
    | some x=>
     obtain⟨x,k,tw⟩:=x
     simp only
     by_cases h7:tw=true
     ·simp only[if_pos h7,preO]
     ·simp only[if_neg h7]
      by_cases h8:isVoidS x.name=true
      ·simp only[if_pos h8,preO,List.append_assoc]
      ·simp only[if_neg h8,preO,List.append_assoc]
theorem pieceHS_last {h h':HSt} (e:pieceHS h = .ok h'):h'.l≠[]∧(h'.opens=[]→NoEl h'.l):=by
 have one:∀(k:Nat) (name text rest:List UInt8) (o:List (List UInt8)),k≠0→({ h.add k name text rest with opens:=o }:HSt).l≠[]∧(({ h.add k name text rest with opens:=o }:HSt).opens=[]→NoEl ({ h.add k name text rest with opens:=o }:HSt).l):=fun k name text rest o hk=>by
  refine⟨by simp[HSt.add],fun _ x hx=>?_⟩
  simp only[HSt.add,List.getLast?_concat,Option.some.injEq]at hx
  rw[←hx]
  exact hk
 unfold pieceHS at e
 split at e
 ·split at e
  ·cases e
  ·cases e;exact one 2 _ _ _ _ (by decide)
 split at e
 ·split at e
  ·cases e;exact one 2 _ _ _ _ (by decide)
  ·cases e
 split at e
 ·split at e
  ·cases e;exact one 1 _ _ _ _ (by decide)
  ·cases e
 split at e
 ·cases e;exact one 3 _ _ _ _ (by decide)
 split at e
 ·cases e;exact one 4 _ _ _ _ (by decide)
 split at e
 ·cases e
 split at e
 ·cases e
 split at e
 ·cases e
  refine⟨by simp,fun _ x hx=>?_⟩
  simp only[List.getLast?_append,List.getLast?_cons,List.getLast?_nil,Option.getD_none,Option.or_some,Option.some.injEq,List.getLastD]at hx
  simp at hx
  rw[←hx]
  simp
 ·cases e
  exact⟨by simp,fun h=>by simp at h⟩
theorem readHL_pre (p:List Ev):∀(n:Nat) (h:HSt),h.s.length≤n→(h.l≠[]∨NoEl p)→readHL { h with l:=p++h.l }=preL p (readHL h)
 | n,h,hn,hp=>by
  rw[readHL_step,readHL_step h]
  simp only
  by_cases hs:h.s=[]
  ·rw[if_pos hs,if_pos hs]
   by_cases ho:h.opens=[]
   ·rw[if_pos ho,if_pos ho];rfl
   ·rw[if_neg ho,if_neg ho];rfl
  ·rw[if_neg hs,if_neg hs,pieceHS_pre hp]
   cases e:pieceHS h with
   | error c=>rfl
   | ok h'=>
    have h1:=pieceHS_less hs e
    simp only[preO]
    cases n with
    | zero=>exact absurd (List.length_eq_zero_iff.1 (by omega)) hs
    | succ n=>exact readHL_pre p n h' (by omega) (.inl (pieceHS_last e).1)
def evT (x:List UInt8):Ev:=⟨2,[],x,[],0,0⟩
theorem read_app (r:List UInt8):∀(n:Nat) (h:HSt) {la:List Ev},h.s.length≤n→readHL h = .ok la→(h.opens=[]→NoEl h.l) →
  (readHL { h with s:=h.s++r }=readHL ⟨r,la,[]⟩∧NoEl la) ∨
  (∃(l0:List Ev) (x:List UInt8),x≠[]∧(∀c∈x,c≠60)∧(unescS x).2=true∧la=l0++[evT (unescS x).1]∧(∀s:List UInt8,rawNow ⟨x++s,l0,[]⟩=false)∧readHL { h with s:=h.s++r }=readHL ⟨x++r,l0,[]⟩)
 | n,h,la,hn,e,hr=>by
  rw[readHL_step]at e
  by_cases hs:h.s=[]
  ·rw[if_pos hs]at e
   by_cases ho:h.opens=[]
   ·rw[if_pos ho]at e
    cases e
    left
    refine⟨?_,hr ho⟩
    have:({ h with s:=h.s++r }:HSt)=⟨r,h.l,[]⟩:=by
     cases h;simp only at hs ho;subst hs;subst ho;rfl
    rw[this]
   ·rw[if_neg ho]at e;cases e
  ·rw[if_neg hs]at e
   cases hp:pieceHS h with
   | error c=>rw[hp]at e;cases e
   | ok h'=>
    rw[hp]at e
    simp only at e
    have h1:=pieceHS_less hs hp
    rcases pieceHS_app r hp with h2 | ⟨h2,h3,h4,rfl⟩
    ·have hst:readHL { h with s:=h.s++r }=readHL { h' with s:=h'.s++r }:=by
      rw[readHL_step]
      simp only
      rw[if_neg (by simp[hs]),h2]
     rw[hst]
     cases n with
     | zero=>exact absurd (List.length_eq_zero_iff.1 (by omega)) hs
     | succ n=>exact read_app r n h' (by omega) e (pieceHS_last hp).2
    ·right
     have e:readHL ⟨[],h.l++[evT (unescS h.s).1],h.opens⟩ = .ok la:=e
     rw[readHL_step,if_pos rfl]at e
     simp only at e
     by_cases ho:h.opens=[]
     ·rw[if_pos ho]at e
      cases e
      refine⟨h.l,h.s,hs,h2,h4,rfl,fun s=>?_,?_⟩
      ·unfold rawNow at h3 ⊢
       simp only
       have hpre:Lib.hasPrefix h.s [60,47]=false:=by
        cases hh:h.s with
        | nil=>rfl
        | cons a t=>
         have:=h2 a (by rw[hh];simp)
         simp[Lib.hasPrefix,List.isPrefixOf,Ne.symm this]
       cases hg:h.l.getLast? with
       | none=>rfl
       | some x=>
        rw[hg]at h3
        simp only[hpre,Bool.not_false,Bool.and_true]at h3
        simp only
        rw[h3]
        rfl
      ·have:({ h with s:=h.s++r }:HSt)=⟨h.s++r,h.l,[]⟩:=by
        cases h;simp only at ho;subst ho;rfl
       rw[this]
     ·rw[if_neg ho]at e;cases e
def Joined (la lb l:List Ev):Prop:=l=la++lb∨∃l0 x y l1,la=l0++[evT x]∧lb=evT y::l1∧l=l0++evT (x++y)::l1
theorem cut60_app {x:List UInt8} (h:∀c∈x,c≠60) (r:List UInt8):Lib.cut (x++r) [60]=(x++(Lib.cut r [60]).1,(Lib.cut r [60]).2.1,(Lib.cut r [60]).2.2):=by
 induction x with
 | nil=>rfl
 | cons c x ih=>
  have hc:=h c (by simp)
  rw[List.cons_append,cut1_cons,if_neg hc,ih (fun d hd=>h d (by simp[hd]))]
  rfl
theorem events_app {a r:List UInt8} {la lb:List Ev} (ha:readHL ⟨a,[],[]⟩ = .ok la) (hb:readHL ⟨r,[],[]⟩ = .ok lb):∃l,readHL ⟨a++r,[],[]⟩ = .ok l∧Joined la lb l:=by
 have pre0:∀(s:List UInt8) (p:List Ev),NoEl p→readHL ⟨s,p,[]⟩=preL p (readHL ⟨s,[],[]⟩):=fun s p hp=>by
  have:=readHL_pre p _ ⟨s,[],[]⟩ (Nat.le_refl _) (.inr hp)
  simpa using this
 have noT:∀(p:List Ev) (x:List UInt8),NoEl (p++[evT x]):=fun p x y hy=>by
  rw[List.getLast?_concat,Option.some.injEq]at hy
  rw[←hy]
  simp[evT]
 rcases read_app r _ ⟨a,[],[]⟩ (Nat.le_refl _) ha (fun _ x hx=>by simp at hx)with ⟨h1,h2⟩ | ⟨l0,x,h1,h2,h3,rfl,h5,h6⟩
 ·refine⟨la++lb,?_,.inl rfl⟩
  have h1:readHL ⟨a++r,[],[]⟩=readHL ⟨r,la,[]⟩:=h1
  rw[h1,pre0 r la h2,hb]
  rfl
 ·have h6:readHL ⟨a++r,[],[]⟩=readHL ⟨x++r,l0,[]⟩:=h6
  have hx0:(x++r).getD 0 0≠60:=by
   cases x with
   | nil=>exact absurd rfl h1
   | cons c x=>exact h2 c (by simp)
  have hne:x++r≠[]:=by simp[h1]
  have hpiece:∀y:List UInt8,(Lib.cut r [60]).1=y→(unescS (x++y)).2=true→readHL ⟨x++r,l0,[]⟩=readHL ⟨r.drop y.length,l0++[evT (unescS (x++y)).1],[]⟩:=fun y hy hu=>by
   rw[readHL_step,if_neg hne]
   have:pieceHS ⟨x++r,l0,[]⟩ = .ok ⟨r.drop y.length,l0++[evT (unescS (x++y)).1],[]⟩:=by
    unfold pieceHS
    rw[h5 r,if_neg (by simp)]
    simp only
    rw[if_pos hx0,cut60_app h2,hy]
    simp only
    rw[if_pos hu]
    simp only[HSt.add]
    rw[List.length_append,List.drop_append,List.drop_eq_nil_of_le (by omega),show x.length+y.length-x.length=y.length by omega]
    rfl
   rw[this]
  rw[h6]
  by_cases hr:(Lib.cut r [60]).1=[]
  ·have hu:(unescS (x++[])).2=true:=by rw[List.append_nil];exact h3
   rw[hpiece [] hr hu,List.append_nil,List.length_nil,List.drop_zero,pre0 _ _ (noT _ _),hb]
   exact⟨_,rfl,.inl rfl⟩
  ·have hrne:r≠[]:=by rintro rfl;rw[cut1_nil]at hr;exact hr rfl
   obtain⟨c,t,hct⟩:=cons_of hrne
   have hc60:c≠60:=by
    rintro rfl
    rw[hct,cut1_cons,if_pos rfl]at hr
    exact hr rfl
   rw[readHL_step,if_neg hrne]at hb
   have hpb:pieceHS ⟨r,[],[]⟩=if(unescS (Lib.cut r [60]).1).2=true then .ok ⟨r.drop (Lib.cut r [60]).1.length,[evT (unescS (Lib.cut r [60]).1).1],[]⟩else .error 5:=by
    unfold pieceHS
    have hraw:rawNow ⟨r,[],[]⟩=false:=rfl
    rw[hraw,if_neg (by simp)]
    simp only
    rw[if_pos (by rw[hct];exact hc60)]
    rfl
   rw[hpb]at hb
   by_cases hy:(unescS (Lib.cut r [60]).1).2=true
   ·rw[if_pos hy]at hb
    simp only at hb
    have hxy:unescS (x++(Lib.cut r [60]).1)=((unescS x).1++(unescS (Lib.cut r [60]).1).1,(unescS (Lib.cut r [60]).1).2):=by
     rcases unescS_app (Lib.cut r [60]).1 h3 with h | h
     ·exact h
     ·rw[hy]at h;cases h.2
    rw[hpiece _ rfl (by rw[hxy];exact hy),pre0 _ _ (noT _ _),hxy]
    have hb2:=pre0 (r.drop (Lib.cut r [60]).1.length) _ (noT [] (unescS (Lib.cut r [60]).1).1)
    rw[List.nil_append]at hb2
    rw[hb2]at hb
    cases hz:readHL ⟨r.drop (Lib.cut r [60]).1.length,[],[]⟩with
    | error c=>rw[hz]at hb;cases hb
    | ok l1=>
     rw[hz]at hb
     cases hb
     exact⟨_,rfl,.inr ⟨l0,_,_,l1,rfl,rfl,by simp⟩⟩
   ·rw[if_neg hy]at hb;cases hb
end Go.Ab
