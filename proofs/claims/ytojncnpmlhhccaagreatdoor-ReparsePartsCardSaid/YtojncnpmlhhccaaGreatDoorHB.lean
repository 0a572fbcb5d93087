/- ReparseLong: the limits of texts and documents: the plain law. The examples of the chapter, evaluated. -/
import Derived.Test.YtojncnpmlhhccaaGreatDoorHA
import Derived.Lib.Repeat
import Derived.KernelRfl
set_option linter.all false
namespace Go.Ab
open Go Go.Lib
def br:List UInt8:=[60,98,114,62]
def bO:List UInt8:=[60,98,62]
def bC:List UInt8:=[60,47,98,62]
theorem rawNow_no {h:HSt} (hl:∀x,h.l.getLast?=some x→x.kind≠0∨isRawS x.name=false):rawNow h=false:=by
 unfold rawNow
 split
 ·rfl
 ·rename_i x hx
  rcases hl x hx with h1 | h1
  ·simp[h1]
  ·simp[h1]
theorem name_br:isNameS [98,114]=true:=by kernel_rfl
theorem name_b1:isNameS [98]=true:=by kernel_rfl
theorem void_br:isVoidS [98,114]=true:=by kernel_rfl
theorem void_b:isVoidS [98]=false:=by kernel_rfl
theorem raw_b:isRawS [98]=false:=by kernel_rfl
theorem tagHL_none (s:List UInt8) (k:Nat) (h:Lib.hasPrefix (s.drop k) [32]=false):tagHL s k [] false=some (k,[],false):=by
 rw[tagHL_step,h]
 simp
theorem startHS_br (t:List UInt8):startHS (br++t)=some (⟨0,[98,114],[],[],0,0⟩,4,false):=by
 have hu:uptoS ((br++t).drop 1) [32,62]=2:=by simp[uptoS,br]
 unfold startHS
 simp only[hu]
 rw[tagHL_none _ _ rfl]
 simp[br,name_br,Lib.hasPrefix]
theorem startHS_b (t:List UInt8):startHS (bO++t)=some (⟨0,[98],[],[],0,0⟩,3,false):=by
 have hu:uptoS ((bO++t).drop 1) [32,62]=1:=by simp[uptoS,bO]
 unfold startHS
 simp only[hu]
 rw[tagHL_none _ _ rfl]
 simp[bO,name_b1,Lib.hasPrefix]
theorem pre1 (p b:UInt8) (t:List UInt8):[p].isPrefixOf (b::t)=(p==b):=by simp[List.isPrefixOf]
theorem cut_here {p:UInt8} (a t:List UInt8) (h:∀x∈a,x≠p):Lib.cut (a++p::t) [p]=(a,t,true):=by
 have hi:Lib.index (a++p::t) [p]=(a.length:Int):=by
  rcases Lib.index_spec (a++p::t) [p]with ⟨e1,e2⟩ | ⟨m,e1,e2,e3,e4⟩
  ·exfalso
   have:=e2 a.length (by simp)
   unfold Lib.occAt at this
   rw[List.drop_left]at this
   simp at this
  ·rw[e1]
   congr 1
   rcases Nat.lt_trichotomy m a.length with h1 | h1 | h1
   ·exfalso
    unfold Lib.occAt at e3
    rw[List.drop_append_of_le_length (by omega),List.drop_eq_getElem_cons h1,List.cons_append,pre1,beq_iff_eq]at e3
    exact h _ (List.getElem_mem h1) e3.symm
   ·exact h1
   ·exfalso
    have:=e4 a.length h1
    unfold Lib.occAt at this
    rw[List.drop_left]at this
    simp at this
 unfold Lib.cut
 rw[hi,if_pos (by omega)]
 simp
theorem cut_not {p:UInt8} (a:List UInt8) (h:∀x∈a,x≠p):Lib.cut a [p]=(a,[],false):=by
 have hi:Lib.index a [p]<0:=by
  rcases Lib.index_spec a [p]with ⟨e1,e2⟩ | ⟨m,e1,e2,e3,e4⟩
  ·omega
  ·exfalso
   unfold Lib.occAt at e3
   by_cases hm:m<a.length
   ·rw[List.drop_eq_getElem_cons hm,pre1,beq_iff_eq]at e3
    exact h _ (List.getElem_mem hm) e3.symm
   ·rw[List.drop_eq_nil_of_le (by omega)]at e3
    simp at e3
 unfold Lib.cut
 rw[if_neg (by omega)]
theorem endHS_b (t:List UInt8):endHS (bC++t)=some ([98],t):=by
 unfold endHS
 have hp:Lib.hasPrefix (bC++t) [60,47]=true:=by simp[bC,Lib.hasPrefix]
 have ht:Lib.trimPrefix (bC++t) [60,47]=[98]++62::t:=by
  unfold Lib.trimPrefix
  rw[if_pos hp]
  rfl
 rw[ht,cut_here [98] t (by simp)]
 simp[hp,name_b1]
theorem piece_br {h:HSt} {t:List UInt8} (hs:h.s=br++t) (hr:rawNow h=false):pieceHS h = .ok { h with s:=t,l:=h.l++[⟨0,[98,114],[],[],0,0⟩,⟨1,[98,114],[],[],0,0⟩] }:=by
 unfold pieceHS
 rw[hr,hs,endHS_no rfl,commentHS_no rfl,instrHS_no rfl,startHS_br]
 simp[br,void_br]
theorem piece_b {h:HSt} {t:List UInt8} (hs:h.s=bO++t) (hr:rawNow h=false):pieceHS h = .ok ⟨t,h.l++[⟨0,[98],[],[],0,0⟩],h.opens++[[98]]⟩:=by
 unfold pieceHS
 rw[hr,hs,endHS_no rfl,commentHS_no rfl,instrHS_no rfl,startHS_b]
 simp[bO,void_b]
theorem piece_c {h:HSt} {t:List UInt8} {o:List (List UInt8)} (hs:h.s=bC++t) (hr:rawNow h=false) (ho:h.opens=o++[[98]]):pieceHS h = .ok ⟨t,h.l++[⟨1,[98],[],[],0,0⟩],o⟩:=by
 unfold pieceHS
 rw[hr,hs,endHS_b]
 simp[bC,HSt.add,ho]
theorem repeatL_s (l:List UInt8) (n:Nat):Lib.repeatL l (n+1)=l++Lib.repeatL l n:=rfl
def brEv:List Ev:=[⟨0,[98,114],[],[],0,0⟩,⟨1,[98,114],[],[],0,0⟩]
def evsBr:Nat→List Ev
 | 0=>[]
 | n+1=>brEv++evsBr n
theorem read_br:∀(n:Nat) (l:List Ev),(∀x,l.getLast?=some x→x.kind≠0)→readHL ⟨Lib.repeatL br n,l,[]⟩ = .ok (l++evsBr n)
 | 0,l,_=>by
  rw[readHL_step]
  simp[Lib.repeatL,evsBr]
 | n+1,l,hl=>by
  rw[readHL_step,piece_br (h:=⟨Lib.repeatL br (n+1),l,[]⟩) (t:=Lib.repeatL br n) rfl (rawNow_no fun x hx => .inl (hl x hx))]
  rw[if_neg (by rw[repeatL_s];simp[br])]
  simp only
  have:=read_br n (l++brEv) (by
   intro x hx
   simp[brEv]at hx
   rw[←hx]
   decide)
  rw[show l++[⟨0,[98,114],[],[],0,0⟩,⟨1,[98,114],[],[],0,0⟩]=l++brEv from rfl,this]
  simp[evsBr]
def evB:Ev:=⟨0,[98],[],[],0,0⟩
def evC1:Ev:=⟨1,[98],[],[],0,0⟩
theorem read_c:∀(n:Nat) (l:List Ev),(∀x,l.getLast?=some x→x.kind≠0∨isRawS x.name=false)→readHL ⟨Lib.repeatL bC n,l,List.replicate n [98]⟩ = .ok (l++List.replicate n evC1)
 | 0,l,_=>by
  rw[readHL_step]
  simp[Lib.repeatL]
 | n+1,l,hl=>by
  rw[readHL_step,piece_c (h:=⟨Lib.repeatL bC (n+1),l,List.replicate (n+1) [98]⟩) (t:=Lib.repeatL bC n) (o:=List.replicate n [98]) rfl (rawNow_no hl) (by simp only;rw[List.replicate_succ'])]
  rw[if_neg (by rw[repeatL_s];simp[bC])]
  simp only
  have:=read_c n (l++[evC1]) (by
   intro x hx
   simp at hx
   rw[←hx]
   exact .inl (by decide))
  rw[show l++[⟨1,[98],[],[],0,0⟩]=l++[evC1]from rfl,this,List.replicate_succ]
  simp
theorem read_b (t:List UInt8):∀(n:Nat) (l:List Ev) (o:List (List UInt8)),(∀x,l.getLast?=some x→x.kind≠0∨isRawS x.name=false) →
  readHL ⟨Lib.repeatL bO n++t,l,o⟩=readHL ⟨t,l++List.replicate n evB,o++List.replicate n [98]⟩
 | 0,l,o,_=>by simp[Lib.repeatL]
 | n+1,l,o,hl=>by
  rw[readHL_step,piece_b (h:=⟨Lib.repeatL bO (n+1)++t,l,o⟩) (t:=Lib.repeatL bO n++t) (by rw[repeatL_s,List.append_assoc]) (rawNow_no hl)]
  rw[if_neg (by rw[repeatL_s];simp[bO])]
  simp only
  have:=read_b t n (l++[evB]) (o++[[98]]) (by
   intro x hx
   simp at hx
   rw[←hx]
   exact .inr raw_b)
  rw[show l++[⟨0,[98],[],[],0,0⟩]=l++[evB]from rfl,this,List.replicate_succ,List.replicate_succ]
  simp
theorem read_bc (n:Nat):readHL ⟨Lib.repeatL bO n++Lib.repeatL bC n,[],[]⟩ = .ok (List.replicate n evB++List.replicate n evC1):=by
 rw[read_b _ n [] [] (by simp),List.nil_append,List.nil_append,read_c]
 intro x hx
 cases n with
 | zero=>simp at hx
 | succ n=>
  rw[List.replicate_succ']at hx
  simp at hx
  rw[←hx]
  exact .inr raw_b
theorem isText_nil:isTextS []=true:=rfl
theorem allowed_br:allowedS 1 [98,114] []=true:=by kernel_rfl
theorem fold_br:∀(n:Nat) (t:TSt),t.op=0→t.deep=1→1≤t.l.length→t.l.length≤65536→t.bytes=0 →
  if t.l.length+n≤65536 then ∃t',foldT (evsBr n) t = .ok t'∧t'.op=0∧t'.l.length=t.l.length+n else foldT (evsBr n) t = .error 2
 | 0,t,h1,h2,h3,h4,h5=>by
  rw[if_pos (by omega)]
  exact⟨t,rfl,h1,rfl⟩
 | n+1,t,h1,h2,h3,h4,h5=>by
  have hs:eventT t ⟨0,[98,114],[],[],0,0⟩=startT t ⟨0,[98,114],[],[],0,0⟩:=rfl
  by_cases hlt:t.l.length=65536
  ·rw[if_neg (by omega)]
   simp only[evsBr,brEv,List.cons_append,List.nil_append,foldT,hs]
   unfold startT
   simp only[allowed_br,Bool.true_eq_false,if_false,List.all_nil,dupT,Bool.false_eq_true]
   unfold TSt.add
   rw[if_pos (.inl (by omega))]
  ·have ha:t.add 1 [98,114] [] = .ok { t with l:=t.l++[⟨1,[98,114],[],t.op⟩],bytes:=t.bytes+0 }:=by
    unfold TSt.add
    rw[if_neg (by simp;omega)]
    rfl
   have hst:startT t ⟨0,[98,114],[],[],0,0⟩ = .ok { l:=t.l++[⟨1,[98,114],[],t.op⟩],op:=t.l.length,deep:=t.deep+1,bytes:=t.bytes+0 }:=by
    unfold startT
    simp only[allowed_br,Bool.true_eq_false,if_false,List.all_nil,dupT,Bool.false_eq_true,ha,attrsT]
   have hen:eventT { l:=t.l++[⟨1,[98,114],[],t.op⟩],op:=t.l.length,deep:=t.deep+1,bytes:=t.bytes+0 } ⟨1,[98,114],[],[],0,0⟩ = .ok { l:=t.l++[⟨1,[98,114],[],t.op⟩],op:=0,deep:=t.deep+1-1,bytes:=t.bytes+0 }:=by
    show endT _ _=_
    have hc:TSt.cur { l:=t.l++[⟨1,[98,114],[],t.op⟩],op:=t.l.length,deep:=t.deep+1,bytes:=t.bytes+0 }=⟨1,[98,114],[],t.op⟩:=by
     unfold TSt.cur
     simp[List.getD_eq_getElem?_getD]
    unfold endT
    rw[hc]
    simp only[name_br,Bool.true_eq_false,if_false,ne_eq,not_true_eq_false,or_self,h1]
    rfl
   have ih:=fold_br n { l:=t.l++[⟨1,[98,114],[],t.op⟩],op:=0,deep:=t.deep+1-1,bytes:=t.bytes+0 } rfl (by simp only;omega) (by simp) (by simp;omega) (by simp only;omega)
   simp only[evsBr,brEv,List.cons_append,List.nil_append,foldT,hs,hst,hen]
   simp only[List.length_append,List.length_cons,List.length_nil]at ih
   have e:t.l.length+(0+1)+n=t.l.length+(n+1):=by omega
   rw[e]at ih
   exact ih
theorem isText_cons {b:UInt8} (l:List UInt8) (h:b.toNat<128):isTextS (b::l)=(isCharS b.toNat&&isTextS l):=by
 rw[isTextS_step (by simp)]
 have hd:dec (b::l)=(b.toNat,1):=dec_ascii h
 unfold headTextS
 rw[hd]
 have e:((b.toNat==65533):Bool)=false:=by simp;omega
 simp[e]
theorem isText_x:∀n,isTextS (List.replicate n 120)=true
 | 0=>rfl
 | n+1=>by
  rw[List.replicate_succ,isText_cons _ (by decide),isText_x n]
  decide
theorem isText_rep {p:List UInt8} (t:List UInt8) (hp:∀b∈p,b.toNat<128∧isCharS b.toNat=true) (ht:isTextS t=true):∀n,isTextS (Lib.repeatL p n++t)=true
 | 0=>by simpa[Lib.repeatL]using ht
 | n+1=>by
  have key:∀(q r:List UInt8),(∀b∈q,b.toNat<128∧isCharS b.toNat=true)→isTextS r=true→isTextS (q++r)=true:=by
   intro q
   induction q with
   | nil=>intro r _ h;exact h
   | cons b q ih=>
    intro r h1 h2
    have hb:=h1 b (by simp)
    rw[List.cons_append,isText_cons _ hb.1,hb.2,ih r (fun x hx=>h1 x (by simp[hx])) h2]
    rfl
  rw[repeatL_s,List.append_assoc]
  exact key p _ hp (isText_rep t hp ht n)
theorem trim_no {s:List UInt8} (h:Lib.hasPrefix s sDoct=false):Lib.trimPrefix s sDoct=s:=by
 unfold Lib.trimPrefix
 rw[h]
 rfl
theorem html_x (n:Nat) (h1:1≤n) (h2:n≤1048576):htmlS (List.replicate n 120) = .ok [nd0,⟨3,[],List.replicate n 120,0⟩]:=by
 obtain⟨m,rfl⟩:∃m,n=m+1:=⟨n-1,by omega⟩
 unfold htmlS
 rw[if_neg (by simp;omega),isText_x,if_neg (by simp)]
 have hx:∀x∈List.replicate (m+1) (120:UInt8),x=120:=fun x hx=>List.eq_of_mem_replicate hx
 have hev:eventsHS (List.replicate (m+1) 120) = .ok [⟨2,[],List.replicate (m+1) 120,[],0,0⟩]:=by
  unfold eventsHS
  rw[trim_no (by rw[List.replicate_succ];rfl),readHL_step,if_neg (by simp)]
  have hc:Lib.cut (List.replicate (m+1) (120:UInt8)) [60]=(List.replicate (m+1) 120,[],false):=cut_not _ fun x h=>by rw[hx x h];decide
  have hc2:Lib.cut (List.replicate (m+1) (120:UInt8)) [38]=(List.replicate (m+1) 120,[],false):=cut_not _ fun x h=>by rw[hx x h];decide
  have hu:unescS (List.replicate (m+1) 120)=(List.replicate (m+1) 120,true):=by
   unfold unescS
   rw[unescL_step,hc2]
   simp
  have hp:pieceHS ⟨List.replicate (m+1) 120,[],[]⟩ = .ok ⟨[],[⟨2,[],List.replicate (m+1) 120,[],0,0⟩],[]⟩:=by
   unfold pieceHS
   simp only[hc,hu,rawNow,List.getLast?_nil,Bool.false_eq_true,if_false,if_true]
   rw[if_pos (by rw[List.replicate_succ];simp)]
   simp[HSt.add]
  rw[hp]
  simp only
  rw[readHL_step]
  simp
 rw[hev]
 simp only
 unfold buildS
 simp only[foldT,eventT]
 have hl:textT t0T ⟨2,[],List.replicate (m+1) 120,[],0,0⟩ = .ok ⟨[nd0,⟨3,[],List.replicate (m+1) 120,0⟩],0,1,m+1⟩:=by
  unfold textT
  simp only[isText_x,Bool.true_eq_false,if_false]
  rw[if_neg (by simp),if_neg (by simp[TSt.last,t0T,nd0])]
  unfold TSt.add
  rw[if_neg (by simp[t0T];omega)]
  simp[t0T]
 rw[hl]
 simp
theorem html_long {s:List UInt8} (h:1048576<s.length):htmlS s = .error 2:=by
 unfold htmlS
 rw[if_pos h]
theorem repeatL_len3 (l:List UInt8):∀n,(Lib.repeatL l n).length=n*l.length
 | 0=>by simp[Lib.repeatL]
 | n+1=>by rw[repeatL_s,List.length_append,repeatL_len3 l n,Nat.succ_mul];omega
theorem html_br (n:Nat) (h1:1≤n) (h2:n≤100000):if n≤65535 then ∃l,htmlS (Lib.repeatL br n) = .ok l∧1≤l.length else htmlS (Lib.repeatL br n) = .error 2:=by
 have ht:=isText_rep (p:=br) [] (by decide) rfl n
 rw[List.append_nil]at ht
 have hev:eventsHS (Lib.repeatL br n) = .ok (evsBr n):=by
  unfold eventsHS
  obtain⟨m,rfl⟩:∃m,n=m+1:=⟨n-1,by omega⟩
  rw[trim_no (by rw[repeatL_s];rfl),read_br _ [] (by simp),List.nil_append]
 have hf:=fold_br n t0T rfl rfl (by simp[t0T]) (by simp[t0T]) rfl
 have hl0:t0T.l.length=1:=rfl
 rw[hl0]at hf
 have hh:htmlS (Lib.repeatL br n)=buildS (evsBr n):=by
  unfold htmlS
  rw[if_neg (by rw[repeatL_len3];simp[br];omega),ht,if_neg (by simp),hev]
 rw[hh]
 unfold buildS
 by_cases hn:n≤65535
 ·rw[if_pos (by omega)]at hf
  rw[if_pos hn]
  obtain⟨t',e1,e2,e3⟩:=hf
  rw[e1]
  simp only[e2,ne_eq,not_true_eq_false,if_false]
  exact⟨_,rfl,by omega⟩
 ·rw[if_neg (by omega)]at hf
  rw[if_neg hn,hf]
theorem html_deep (n:Nat) (h1:1≤n) (h2:n≤1000):htmlS (Lib.repeatL bO n++Lib.repeatL bC n)=buildS (List.replicate n evB++List.replicate n evC1):=by
 have ht:=isText_rep (p:=bO) (Lib.repeatL bC n) (by decide) (by have:=isText_rep (p:=bC) [] (by decide) rfl n;rwa[List.append_nil]at this) n
 unfold htmlS
 rw[if_neg (by rw[List.length_append,repeatL_len3,repeatL_len3];simp[bO,bC];omega),ht,if_neg (by simp)]
 unfold eventsHS
 rw[trim_no (by
  obtain⟨m,rfl⟩:∃m,n=m+1:=⟨n-1,by omega⟩
  rw[repeatL_s];rfl),read_bc]
end Go.Ab
namespace Go.Ab
open Go Go.Lib
def hexA:List UInt8:=[60,112,32,105,100,61,34,97,38,113,117,111,116,59,34,62,49,32,38,108,116,59,32,50,60,98,114,62,60,47,112,62]
def hexB:List UInt8:=[60,115,99,114,105,112,116,62,97,32,60,32,98,32,38,38,32,99,60,47,115,99,114,105,112,116,62]
def hexC:List UInt8:=[60,112,62,97]
def ndsA:List Nd:=[⟨0,[],[],-1⟩,⟨1,[112],[],0⟩,⟨2,[105,100],[97,34],1⟩,⟨3,[],[49,32,60,32,50],1⟩,⟨1,[98,114],[],1⟩]
def ndsB:List Nd:=[⟨0,[],[],-1⟩,⟨1,[115,99,114,105,112,116],[],0⟩,⟨3,[],[97,32,60,32,98,32,38,38,32,99],1⟩]
theorem hexA_eq:htmlS hexA = .ok ndsA:=by kernel_rfl
theorem hexB_eq:htmlS hexB = .ok ndsB:=by kernel_rfl
theorem hexC_eq:htmlS hexC = .error 110:=by kernel_rfl
end Go.Ab
