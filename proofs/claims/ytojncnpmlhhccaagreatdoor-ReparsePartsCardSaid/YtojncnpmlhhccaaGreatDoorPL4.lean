/- Texts that meet are one text in the tree; how many nodes and bytes a tree has. -/
import Derived.Test.YtojncnpmlhhccaaGreatDoorPL3
import Derived.Test.YtojncnpmlhhccaaGreatDoorVN2
set_option linter.all false
namespace Go.Ab
open Go Go.Lib
theorem foldT_app:∀(l m:List Ev) (t:TSt),foldT (l++m) t=match foldT l t with | .error e => .error e | .ok t'=>foldT m t'
 | [],m,t=>rfl
 | x::l,m,t=>by
  simp only[List.cons_append,foldT]
  cases h:eventT t x with
  | error e=>rfl
  | ok t1=>exact foldT_app l m t1
theorem textT_eq {t:TSt} {x:List UInt8} (hx:isTextS x=true) (h0:x≠[]):textT t (evT x) =
  if t.last.kind=3∧t.last.up=t.op then
   (if 1048576<t.bytes+x.length then .error 2
   else .ok { t with l:=t.l.dropLast++[{ t.last with text:=t.last.text++x }],bytes:=t.bytes+x.length })
  else t.add 3 [] x:=by
 unfold textT
 rw[if_neg (show ¬isTextS (evT x).text=false by simp[evT,hx]),if_neg (show ¬(evT x).text=[]from h0)]
 rfl
theorem textT_nil (t:TSt):textT t (evT []) = .ok t:=by
 unfold textT
 rw[if_neg (by simp[evT,isTextS_nil]),if_pos (show(evT []).text=[]from rfl)]
theorem textT_is {t t1:TSt} {x:List UInt8} (h:textT t (evT x) = .ok t1):isTextS x=true:=by
 unfold textT at h
 split at h
 ·cases h
 ·rename_i h2
  cases hx:isTextS x with
  | true=>rfl
  | false=>exact absurd hx h2
theorem text_join {t t1 t2:TSt} {x y:List UInt8} (h1:textT t (evT x) = .ok t1) (h2:textT t1 (evT y) = .ok t2):textT t (evT (x++y)) = .ok t2:=by
 have hx:=textT_is h1
 have hy:=textT_is h2
 have hxy:=isTextS_cat y hy _ x (Nat.le_refl _) hx
 by_cases hx0:x=[]
 ·subst hx0
  rw[textT_nil]at h1
  cases h1
  exact h2
 by_cases hy0:y=[]
 ·subst hy0
  rw[textT_nil]at h2
  cases h2
  rw[List.append_nil]
  exact h1
 have hne:x++y≠[]:=fun h=>hx0 (List.append_eq_nil_iff.1 h).1
 rw[textT_eq hx hx0]at h1
 rw[textT_eq hy hy0]at h2
 rw[textT_eq hxy hne]
 by_cases h3:t.last.kind=3∧t.last.up=t.op
 ·rw[if_pos h3]at h1 ⊢
  split at h1
  ·cases h1
  rename_i hb
  cases h1
  have hl:({ t with l:=t.l.dropLast++[{ t.last with text:=t.last.text++x }],bytes:=t.bytes+x.length }:TSt).last={ t.last with text:=t.last.text++x }:=by
   unfold TSt.last
   simp only
   rw[List.length_append,List.length_singleton,Nat.add_sub_cancel,getD_end]
  rw[hl,if_pos h3]at h2
  split at h2
  ·cases h2
  rename_i hb2
  cases h2
  simp only at hb2
  rw[if_neg (by simp only[List.length_append];omega)]
  simp only[List.dropLast_concat,List.append_assoc,List.length_append,Nat.add_assoc]
 ·rw[if_neg h3]at h1 ⊢
  unfold TSt.add at h1
  split at h1
  ·cases h1
  rename_i hb
  cases h1
  have hl:({ t with l:=t.l++[⟨3,[],x,t.op⟩],bytes:=t.bytes+x.length }:TSt).last=⟨3,[],x,t.op⟩:=by
   unfold TSt.last
   simp only
   rw[List.length_append,List.length_singleton,Nat.add_sub_cancel,getD_end]
  rw[hl,if_pos ⟨rfl,rfl⟩]at h2
  split at h2
  ·cases h2
  rename_i hb2
  cases h2
  simp only at hb2
  unfold TSt.add
  rw[if_neg (by simp only[List.length_append];omega)]
  simp only[List.dropLast_concat,List.length_append,Nat.add_assoc]
theorem eventT_text (t:TSt) (x:List UInt8):eventT t (evT x)=textT t (evT x):=rfl
theorem fold_joined {la lb l:List Ev} {t t':TSt} (h:Joined la lb l) (e:foldT (la++lb) t = .ok t'):foldT l t = .ok t':=by
 rcases h with rfl | ⟨l0,x,y,l1,rfl,rfl,rfl⟩
 ·exact e
 ·rw[List.append_assoc,foldT_app]at e
  rw[foldT_app]
  cases h0:foldT l0 t with
  | error c=>rw[h0]at e;cases e
  | ok t0=>
   rw[h0]at e
   simp only[List.singleton_append,foldT,eventT_text]at e ⊢
   cases h1:textT t0 (evT x)with
   | error c=>rw[h1]at e;cases e
   | ok t1=>
    rw[h1]at e
    simp only at e
    cases h2:textT t1 (evT y)with
    | error c=>rw[h2]at e;cases e
    | ok t2=>
     rw[h2]at e
     simp only at e
     rw[text_join h1 h2]
     exact e
def atrW (l:List (List UInt8 × List UInt8)):Nat:=(l.map fun a=>1+a.2.length).sum
def evW (x:Ev):Nat:=1+x.text.length+atrW x.attrs
def evsW (l:List Ev):Nat:=(l.map evW).sum
theorem evsW_app (l m:List Ev):evsW (l++m)=evsW l+evsW m:=by simp[evsW]
theorem atrW_app (l m:List (List UInt8 × List UInt8)):atrW (l++m)=atrW l+atrW m:=by simp[atrW]
theorem tagHF_W {s:List UInt8}:∀(f k:Nat) (l:List (List UInt8 × List UInt8)) (tw:Bool) (x),k≤s.length→tagHF f s k l tw=some x→atrW x.2.1+k≤atrW l+x.1
 | 0,_,_,_,_,_,h=>by simp[tagHF]at h
 | f+1,k,l,tw,x,hk,h=>by
  simp only[tagHF]at h
  split at h
  ·rename_i hp
   have hp:=hasPrefix_len hp
   simp only[List.length_cons,List.length_nil,List.length_drop]at hp
   split at h
   ·rename_i ha
    have hb:=attrHS_bound ha
    simp only[List.length_drop]at hb
    have:=tagHF_W f _ _ _ x (by omega) h
    rw[atrW_app]at this
    simp only[atrW,List.map_cons,List.map_nil,List.sum_cons,List.sum_nil]at this ⊢
    omega
   ·cases h
  ·cases h
   exact Nat.le_refl _
theorem startHS_W {s:List UInt8} {x:Ev × Nat × Bool} (h:startHS s=some x):evW x.1+1≤x.2.1:=by
 unfold startHS at h
 simp only at h
 have hu:=uptoS_le (s.drop 1) [32,62]
 simp only[List.length_drop]at hu
 split at h
 case isFalse=>cases h
 rename_i hn
 have hne:=nameS_ne hn
 have h2:((s.take (1+uptoS (s.drop 1) [32,62])).drop 1).length≠0:=fun e=>hne (List.length_eq_zero_iff.1 e)
 simp only[List.length_take,List.length_drop]at h2
 split at h
 ·cases h
 rename_i k2 l tw ht
 have hb:=tagHF_W _ _ _ _ _ (by omega) ht
 change atrW l+(1+uptoS (s.drop 1) [32,62])≤atrW []+k2 at hb
 split at h
 ·cases h
  have h0:atrW []=0:=rfl
  show 1+0+atrW l+1≤k2+1
  omega
 ·cases h
theorem pieceHS_W {h h':HSt} (hne:h.s≠[]) (e:pieceHS h = .ok h'):evsW h'.l+2*h'.s.length≤evsW h.l+2*h.s.length:=by
 have hless:=pieceHS_less hne e
 have one:∀(k:Nat) (name text:List UInt8),evsW (h.l++[⟨k,name,text,[],0,0⟩])=evsW h.l+(1+text.length):=fun k name text=>by
  rw[evsW_app]
  simp[evsW,evW,atrW]
 unfold pieceHS at e
 split at e
 ·split at e
  ·cases e
  ·rename_i hi
   cases e
   have hr2:=Lib.index_room h.s [60,47] (by omega)
   simp only[HSt.add,List.length_drop]at hless ⊢
   rw[one]
   simp only[List.length_take]
   omega
 split at e
 ·split at e
  ·cases e
   have:=unescS_len (Lib.cut h.s [60]).1
   have:=cut_len h.s [60]
   simp only[HSt.add,List.length_drop]at hless ⊢
   rw[one]
   omega
  ·cases e
 split at e
 ·rename_i name rest he
  have:=endHS_bound he
  simp only at this
  split at e
  ·cases e
   simp only[HSt.add]at hless ⊢
   rw[one]
   simp only[List.length_nil]
   omega
  ·cases e
 split at e
 ·rename_i text rest he
  have:=commentHS_bound he
  simp only at this
  cases e
  simp only[HSt.add]at hless ⊢
  rw[one]
  omega
 split at e
 ·rename_i name text rest he
  have:=instrHS_bound he
  simp only at this
  cases e
  simp only[HSt.add]at hless ⊢
  rw[one]
  omega
 split at e
 ·cases e
 rename_i x k tw he
 have hw:=startHS_W he
 have hb:=startHS_bound he
 simp only at hw hb
 split at e
 ·cases e
 split at e
 ·cases e
  simp only[List.length_drop]at hless ⊢
  have h2:evsW (h.l++[x,⟨1,x.name,[],[],0,0⟩])=evsW h.l+(evW x+1):=by
   rw[evsW_app]
   simp[evsW,evW,atrW]
  rw[h2]
  omega
 ·cases e
  simp only[List.length_drop]at hless ⊢
  have h2:evsW (h.l++[x])=evsW h.l+evW x:=by
   rw[evsW_app]
   simp[evsW]
  rw[h2]
  omega
theorem readHL_W:∀(n:Nat) (h:HSt) {l:List Ev},h.s.length≤n→readHL h = .ok l→evsW l≤evsW h.l+2*h.s.length
 | n,h,l,hn,e=>by
  rw[readHL_step]at e
  split at e
  ·split at e
   ·cases e;omega
   ·cases e
  ·rename_i hne
   split at e
   ·cases e
   ·rename_i h' he
    have h1:=pieceHS_less hne he
    have h2:=pieceHS_W hne he
    cases n with
    | zero=>exact absurd (List.length_eq_zero_iff.1 (by omega)) hne
    | succ n=>
     have:=readHL_W n h' (by omega) e
     omega
def TSt.sz (t:TSt):Nat:=t.l.length+t.bytes
theorem sz_add {t t':TSt} {kind:Nat} {name text:List UInt8} (e:t.add kind name text = .ok t'):t'.sz=t.sz+1+text.length:=by
 unfold TSt.add at e
 split at e
 ·cases e
 ·cases e
  simp only[TSt.sz,List.length_append,List.length_singleton]
  omega
theorem sz_attrs:∀(l:List (List UInt8 × List UInt8)) {t t':TSt},attrsT l t = .ok t'→t'.sz=t.sz+atrW l
 | [],t,t',e=>by cases e;rfl
 | a::l,t,t',e=>by
  simp only[attrsT]at e
  split at e
  ·cases e
  ·rename_i t1 h1
   rw[sz_attrs l e,sz_add h1]
   simp only[atrW,List.map_cons,List.sum_cons]
   omega
theorem sz_event {t t':TSt} {x:Ev} (ht:1≤t.l.length) (e:eventT t x = .ok t'):t.sz≤t'.sz∧t'.sz≤t.sz+evW x:=by
 have oth:∀k n s,otherT t k n s = .ok t'→t'.sz=t.sz+1+s.length:=fun k n s e=>by
  unfold otherT at e
  split at e
  ·cases e
  ·exact sz_add e
 unfold evW
 unfold eventT at e
 split at e
 ·unfold startT at e
  split at e
  ·cases e
  split at e
  ·cases e
  split at e
  ·cases e
  split at e
  ·cases e
  ·rename_i t1 h1
   have h2:=sz_add h1
   have h3:=sz_attrs _ e
   have h4:({ t1 with op:=t.l.length,deep:=t.deep+1 }:TSt).sz=t1.sz:=rfl
   simp only[List.length_nil]at h2
   omega
 ·unfold endT at e
  split at e
  ·cases e
  split at e
  ·cases e
  ·cases e
   exact⟨Nat.le_refl _,by simp only[TSt.sz];omega⟩
 ·unfold textT at e
  split at e
  ·cases e
  split at e
  ·cases e;omega
  split at e
  ·split at e
   ·cases e
   ·cases e
    simp only[TSt.sz,List.length_append,List.length_dropLast,List.length_singleton]
    omega
  ·have:=sz_add e
   omega
 ·have:=oth _ _ _ e;omega
 ·have:=oth _ _ _ e;omega
 ·cases e
theorem len_event {t t':TSt} {x:Ev} (ht:1≤t.l.length) (e:eventT t x = .ok t') (hok:TOk t):1≤t'.l.length:=by
 have:=(hok.event e).1.op
 omega
theorem sz_fold:∀(l:List Ev) {t t':TSt},TOk t→foldT l t = .ok t'→t.sz≤t'.sz∧t'.sz≤t.sz+evsW l
 | [],t,t',h,e=>by cases e;simp[evsW]
 | x::l,t,t',h,e=>by
  simp only[foldT]at e
  split at e
  ·cases e
  ·rename_i t1 h1
   have h2:=sz_event (by have:=h.op;omega) h1
   have h3:=sz_fold l (h.event h1).1 e
   simp only[evsW,List.map_cons,List.sum_cons]at h3 ⊢
   omega
end Go.Ab
