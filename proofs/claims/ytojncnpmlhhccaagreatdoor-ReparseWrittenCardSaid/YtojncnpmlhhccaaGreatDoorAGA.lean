/- Names, escapes and what stands up to a mark: for reading back what was written. What the reader makes of what is written, piece by piece. What is written for a node is read as the node's events. Node by node, what is written is read as the events of the tree. How a valid tree lies: where the nodes below a node end, its attributes and its children. The events of a tree build it again. How many bytes the names of a tree have that was read, and how long is what is written. -/
import Derived.Test.YtojncnpmlhhccaaGreatDoorHB
import Derived.Test.YtojncnpmlhhccaaGreatDoorSWC
import Derived.Test.YtojncnpmlhhccaaGreatDoorQX
set_option linter.all false
namespace Go.Ab
open Go Go.Lib
theorem ag_part {first:Bool} {c:Nat} (h:partChar first (c:Int)=true):partChar false (c:Int)=true:=by
 cases first with
 | false=>exact h
 | true=>
  have:partChar true (c:Int)=isLetterS (c:Int):=by simp[partChar]
  rw[this]at h
  simp[partChar,h]
theorem ag_nameL:∀(l:List Nat) (co:Nat) (first:Bool),nameL l co first=true→∀c∈l,c≠58→partChar false (c:Int)=true
 | [],_,_,_,c,hc,_=>by simp at hc
 | d::l,co,first,h,c,hc,h2=>by
  rw[nameL]at h
  split at h
  ·rename_i hd
   rcases List.mem_cons.1 hc with rfl | hc
   ·exact absurd hd.1 h2
   ·exact ag_nameL l _ _ h c hc h2
  split at h
  ·rename_i hd
   rcases List.mem_cons.1 hc with rfl | hc
   ·exact ag_part hd
   ·exact ag_nameL l _ _ h c hc h2
  ·cases h
theorem name_no {T:List UInt8} (h:isNameS T=true) {c:UInt8} (h1:c.toNat<128) (h2:c≠58) (h3:partChar false (c.toNat:Int)=false):∀x∈T,x≠c:=by
 rintro x hx rfl
 rw[←isNameR_eq]at h
 simp only[isNameR,Bool.and_eq_true]at h
 obtain⟨a,b,rfl⟩:=List.append_of_mem hx
 have hm:x.toNat∈ptsS (a++x::b):=by rw[ptsS_app h1 b _ a (Nat.le_refl _)];simp
 have:=ag_nameL _ _ _ h.2 _ hm (fun e=>h2 (UInt8.toNat_inj.1 e))
 rw[h3]at this
 cases this
theorem name_ok {T:List UInt8} (h:isNameS T=true):(∀x∈T,x≠32)∧(∀x∈T,x≠61)∧(∀x∈T,x≠62)∧(∀x∈T,x≠60)∧(∀x∈T,x≠47)∧(∀x∈T,x≠33)∧(∀x∈T,x≠63):=
 ⟨name_no h (by decide) (by decide) (by decide),name_no h (by decide) (by decide) (by decide),name_no h (by decide) (by decide) (by decide),name_no h (by decide) (by decide) (by decide),name_no h (by decide) (by decide) (by decide),name_no h (by decide) (by decide) (by decide),name_no h (by decide) (by decide) (by decide)⟩
theorem upto_here {stop:List UInt8} {c:UInt8} (hc:stop.contains c=true) (r:List UInt8):∀(a:List UInt8),(∀x∈a,stop.contains x=false)→uptoS (a++c::r) stop=a.length
 | [],_=>by unfold uptoS;rw[List.nil_append,List.takeWhile_cons,hc];rfl
 | b::a,h=>by
  have ih:=upto_here hc r a fun x hx=>h x (by simp[hx])
  unfold uptoS at ih ⊢
  rw[List.cons_append,List.takeWhile_cons,h b (by simp)]
  simp only[Bool.not_false,if_true,List.length_cons,ih]
theorem cut_two {p q:UInt8} {a r:List UInt8} (h1:Lib.contains a [p,q]=false) (h3:p≠q∨(∀x,a.getLast?=some x→x≠p)):Lib.index (a++p::q::r) [p,q]=a.length:=by
 refine Lib.index_first (i:=a.length) (by simp) ?_ fun j hj=>?_
 ·unfold Lib.occAt
  rw[List.drop_left]
  simp[List.isPrefixOf]
 ·cases hq:Lib.occAt (a++p::q::r) [p,q] j with
  | false=>rfl
  | true=>
   exfalso
   have hd:(a++p::q::r).drop j=a.drop j++p::q::r:=by rw[List.drop_append_of_le_length (by omega)]
   unfold Lib.occAt at hq
   rw[hd]at hq
   match hm:a.drop j with
   | []=>
    have:=congrArg List.length hm
    simp at this
    omega
   | [x]=>
    rw[hm]at hq
    simp[List.isPrefixOf]at hq
    obtain⟨e1,e2⟩:=hq
    rcases h3 with h3 | h3
    ·exact h3 e2.symm
    ·refine h3 x ?_ e1.symm
     have:a=a.take j++[x]:=by rw[←hm,List.take_append_drop]
     rw[this];simp
   | x::y::t=>
    rw[hm]at hq
    simp[List.isPrefixOf]at hq
    have ho:Lib.occAt a [p,q] j=true:=by
     unfold Lib.occAt
     rw[hm]
     simp[List.isPrefixOf,hq.1,hq.2]
    rcases Lib.index_spec a [p,q]with ⟨_,hn⟩ | ⟨i,hi,_⟩
    ·rw[hn j (by omega)]at ho;cases ho
    ·unfold Lib.contains at h1
     rw[hi]at h1
     simp at h1
theorem escB_no (attr:Bool) (b:UInt8):∀x∈escB attr b,x≠60∧(attr=true→x≠34):=by
 intro x hx
 unfold escB at hx
 split at hx
 ·simp only[List.mem_cons,List.not_mem_nil,or_false]at hx
  rcases hx with rfl | rfl | rfl | rfl | rfl<;>exact⟨by decide,fun _=>by decide⟩
 split at hx
 ·simp only[List.mem_cons,List.not_mem_nil,or_false]at hx
  rcases hx with rfl | rfl | rfl | rfl<;>exact⟨by decide,fun _=>by decide⟩
 split at hx
 ·simp only[List.mem_cons,List.not_mem_nil,or_false]at hx
  rcases hx with rfl | rfl | rfl | rfl<;>exact⟨by decide,fun _=>by decide⟩
 split at hx
 ·simp only[List.mem_cons,List.not_mem_nil,or_false]at hx
  rcases hx with rfl | rfl | rfl | rfl | rfl<;>exact⟨by decide,fun _=>by decide⟩
 split at hx
 ·simp only[List.mem_cons,List.not_mem_nil,or_false]at hx
  rcases hx with rfl | rfl | rfl | rfl | rfl | rfl<;>exact⟨by decide,fun _=>by decide⟩
 split at hx
 ·simp only[List.mem_cons,List.not_mem_nil,or_false]at hx
  rcases hx with rfl | rfl | rfl | rfl<;>exact⟨by decide,fun _=>by decide⟩
 split at hx
 ·simp only[List.mem_cons,List.not_mem_nil,or_false]at hx
  rcases hx with rfl | rfl | rfl | rfl | rfl<;>exact⟨by decide,fun _=>by decide⟩
 ·rename_i n60 _ _ n34 _ _
  simp only[List.mem_cons,List.not_mem_nil,or_false]at hx
  subst hx
  exact⟨n60,fun h e=>n34 ⟨h,e⟩⟩
theorem escS_no (attr:Bool) (s:List UInt8):∀x∈escS attr s,x≠60∧(attr=true→x≠34):=by
 intro x hx
 unfold escS at hx
 obtain⟨b,_,hb⟩:=List.mem_flatMap.1 hx
 exact escB_no attr b x hb
theorem cut_cons {b c:UInt8} (s:List UInt8) (h:b≠c):Lib.cut (b::s) [c]=(b::(Lib.cut s [c]).1,(Lib.cut s [c]).2.1,(Lib.cut s [c]).2.2):=by
 have hi:Lib.index (b::s) [c]=if Lib.index s [c] = -1 then -1 else Lib.index s [c]+1:=by
  rw[Lib.index]
  have:List.isPrefixOf [c] (b::s)=false:=by simp[List.isPrefixOf];exact fun e=>h e.symm
  rw[this]
  by_cases he:Lib.index s [c] = -1<;>simp[he]
 have hge:=Lib.index_ge s [c]
 unfold Lib.cut
 rw[hi]
 by_cases he:Lib.index s [c] = -1
 ·rw[if_pos he,he]
  rfl
 ·rw[if_neg he,if_pos (by omega),if_pos (by omega),show(Lib.index s [c]+1).toNat=(Lib.index s [c]).toNat+1 by omega,List.take_succ_cons,show(Lib.index s [c]).toNat+1+[c].length=((Lib.index s [c]).toNat+[c].length)+1 by omega,List.drop_succ_cons]
theorem ag_unescL {b:UInt8} (s acc:List UInt8) (h:b≠38):unescL (b::s) acc=unescL s (acc++[b]):=by
 rw[unescL_step,unescL_step s,cut_cons s h]
 simp only[List.append_assoc,List.cons_append,List.nil_append]
theorem unescL_ref {name v:List UInt8} (s acc:List UInt8) (hn:∀x∈name,x≠59) (hr:refHS name=(v,true)):unescL (38::(name++59::s)) acc=unescL s (acc++v):=by
 rw[unescL_step]
 have h1:Lib.cut (38::(name++59::s)) [38]=([],name++59::s,true):=cut_here [] _ (by simp)
 have h2:Lib.cut (name++59::s) [59]=(name,s,true):=cut_here _ _ hn
 rw[h1]
 simp only[h2,hr,if_true,and_self,List.append_nil]
theorem unescL_esc (attr:Bool) (b:UInt8) (s acc:List UInt8):unescL (escB attr b++s) acc=unescL s (acc++[b]):=by
 unfold escB
 split
 ·rename_i h;subst h
  exact unescL_ref (name:=[97,109,112]) s acc (by decide) (by kernel_rfl)
 split
 ·rename_i h;subst h
  exact unescL_ref (name:=[108,116]) s acc (by decide) (by kernel_rfl)
 split
 ·rename_i h;subst h
  exact unescL_ref (name:=[103,116]) s acc (by decide) (by kernel_rfl)
 split
 ·rename_i h;subst h
  exact unescL_ref (name:=[35,49,51]) s acc (by decide) (by kernel_rfl)
 split
 ·rename_i h;rw[h.2]
  exact unescL_ref (name:=[113,117,111,116]) s acc (by decide) (by kernel_rfl)
 split
 ·rename_i h;rw[h.2]
  exact unescL_ref (name:=[35,57]) s acc (by decide) (by kernel_rfl)
 split
 ·rename_i h;rw[h.2]
  exact unescL_ref (name:=[35,49,48]) s acc (by decide) (by kernel_rfl)
 ·rename_i h _ _ _ _ _ _
  exact ag_unescL s acc h
theorem unescL_all (attr:Bool):∀(s acc:List UInt8),unescL (escS attr s) acc=(acc++s,true)
 | [],acc=>by
  rw[unescL_step]
  show(if(Lib.cut [] [38]).2.2=true then _ else(acc++(Lib.cut [] [38]).1,true))=_
  rw[if_neg (by decide)]
  rfl
 | b::s,acc=>by
  have:escS attr (b::s)=escB attr b++escS attr s:=rfl
  rw[this,unescL_esc,unescL_all attr s,List.append_assoc]
  rfl
theorem unesc_esc (attr:Bool) (s:List UInt8):unescS (escS attr s)=(s,true):=unescL_all attr s []
theorem isText_escB (attr:Bool) {b:UInt8} (h:isTextS [b]=true):isTextS (escB attr b)=true:=by
 unfold escB
 split
 ·kernel_rfl
 split
 ·kernel_rfl
 split
 ·kernel_rfl
 split
 ·kernel_rfl
 split
 ·kernel_rfl
 split
 ·kernel_rfl
 split
 ·kernel_rfl
 ·exact h
theorem isText_app {a b:List UInt8} (ha:isTextS a=true) (hb:isTextS b=true):isTextS (a++b)=true:=isTextS_cat b hb _ a (Nat.le_refl _) ha
theorem isText_esc (attr:Bool):∀(n:Nat) (s:List UInt8),s.length≤n→isTextS s=true→isTextS (escS attr s)=true
 | _,[],_,_=>rfl
 | 0,_::_,h,_=>absurd h (by simp)
 | n+1,b::t,hn,h=>by
  have hc:=head_cases h
  have h0:=h
  rw[isTextS_step (by simp),Bool.and_eq_true]at h
  have hp:=dec_pos (l:=b::t) (by simp)
  have ih:=isText_esc attr n _ (by simp only[List.length_drop,List.length_cons]at hn ⊢;omega) h.2
  rcases hc with ⟨h1,h2⟩ | ⟨h1,h2,h3,h4,h5⟩
  ·rw[h2]at ih
   have e:escS attr (b::t)=escB attr b++escS attr t:=rfl
   rw[e]
   refine isText_app (isText_escB attr ?_) ih
   rw[isText_cons [] h1]
   rw[isText_cons t h1,Bool.and_eq_true]at h0
   rw[h0.1];rfl
  ·have e:escS attr (b::t)=(b::t).take (dec (b::t)).2++escS attr ((b::t).drop (dec (b::t)).2):=by
    conv=>lhs;rw[←List.take_append_drop (dec (b::t)).2 (b::t),escS_app,escS_hi attr h5]
   rw[e]
   refine isText_app ?_ ih
   have hb:128≤b.toNat:=h5 b (by rw[show(dec (b::t)).2=(dec (b::t)).2-1+1 by omega,List.take_succ_cons];simp)
   rcases dec_split t hb with g1 | ⟨c,m,g2,g3,g4,g5,g6⟩
   ·exfalso
    have hh:=h.1
    unfold headTextS at hh
    rw[g1]at hh
    simp only[Bool.and_eq_true,Bool.or_eq_true,Bool.not_eq_true']at hh
    rcases hh.2 with h7 | h7
    ·exact absurd h7 (by decide)
    ·match t,h7 with
     | [],h7=>simp[Lib.hasPrefix,List.isPrefixOf]at h7
     | [_],h7=>simp[Lib.hasPrefix,List.isPrefixOf]at h7
     | x::y::t,h7=>
      simp[Lib.hasPrefix,List.isPrefixOf]at h7
      obtain⟨rfl,rfl,rfl⟩:=h7
      rw[dec_bad t]at g1
      exact absurd g1 (by decide)
   ·have ht:(b::t).take (dec (b::t)).2=b::c:=by
     rw[g5,g2,show 1+c.length=c.length+1 by omega,List.take_succ_cons,List.take_left]
    rw[ht]
    have hd:dec (b::c)=dec (b::t):=by have:=g6 [];rwa[List.append_nil]at this
    rw[isTextS_step (by simp),hd,Bool.and_eq_true]
    refine⟨?_,by rw[g5,List.drop_eq_nil_of_le (by simp;omega)];rfl⟩
    have hh:=h.1
    unfold headTextS at hh ⊢
    rw[hd]
    simp only[Bool.and_eq_true,Bool.or_eq_true,Bool.not_eq_true']at hh ⊢
    refine⟨hh.1,?_⟩
    rcases hh.2 with h7 | h7
    ·exact .inl h7
    ·right
     match t,h7 with
     | [],h7=>simp[Lib.hasPrefix,List.isPrefixOf]at h7
     | [_],h7=>simp[Lib.hasPrefix,List.isPrefixOf]at h7
     | x::y::t,h7=>
      simp[Lib.hasPrefix,List.isPrefixOf]at h7
      obtain⟨rfl,rfl,rfl⟩:=h7
      rw[dec_bad t]at g5
      match c,g5,g2 with
      | [c1,c2],_,g2=>
       simp at g2
       obtain⟨rfl,rfl,_⟩:=g2
       rfl
      | [],g5,_=>simp at g5
      | [_],g5,_=>simp at g5
      | _::_::_::_,g5,_=>simp at g5;omega
end Go.Ab
namespace Go.Ab
open Go Go.Lib
def atB (a:List UInt8 × List UInt8):List UInt8:=[32]++a.1++(if a.1=a.2∧lowS a.1∈switchS then []else [61,34]++escS true a.2++[34])
def prA (l:List Nd) (k:Nat):List UInt8 × List UInt8:=((l.getD k nd0).name,(l.getD k nd0).text)
theorem no3 {n:List UInt8} (h:isNameS n=true):∀x∈n,([32,62,61]:List UInt8).contains x=false:=by
 obtain⟨h1,h2,h3,_⟩:=name_ok h
 intro x hx
 have a:=h1 x hx
 have b:=h2 x hx
 have c:=h3 x hx
 simp[a,b,c]
theorem no2 {n:List UInt8} (h:isNameS n=true):∀x∈n,([32,62]:List UInt8).contains x=false:=by
 obtain⟨h1,h2,h3,_⟩:=name_ok h
 intro x hx
 have a:=h1 x hx
 have c:=h3 x hx
 simp[a,c]
theorem attr_sw {n:List UInt8} (hn:isNameS n=true) {c:UInt8} (hc:c=32∨c=62) (r:List UInt8):attrHS (n++c::r)=((n,n),n.length,true):=by
 have hu:uptoS (n++c::r) [32,62,61]=n.length:=upto_here (by rcases hc with rfl | rfl<;>rfl) r n (no3 hn)
 have ht:(n++c::r).take n.length=n:=List.take_left
 have hd:(n++c::r).drop n.length=c::r:=List.drop_left
 have hp:Lib.hasPrefix (c::r) [61,34]=false:=by rcases hc with rfl | rfl<;>simp[Lib.hasPrefix,List.isPrefixOf]
 unfold attrHS
 simp only[hu,ht,hd,hp,hn,if_true,Bool.false_eq_true,if_false]
theorem attr_quo {n:List UInt8} (hn:isNameS n=true) (t r:List UInt8):attrHS (n++61::34::(escS true t++34::r))=((n,t),n.length+2+(escS true t).length+1,true):=by
 have hu:uptoS (n++61::34::(escS true t++34::r)) [32,62,61]=n.length:=upto_here rfl _ n (no3 hn)
 have ht:(n++61::34::(escS true t++34::r)).take n.length=n:=List.take_left
 have hd:(n++61::34::(escS true t++34::r)).drop n.length=61::34::(escS true t++34::r):=List.drop_left
 have hd2:(n++61::34::(escS true t++34::r)).drop (n.length+2)=escS true t++34::r:=by
  rw[←List.drop_drop,hd];rfl
 have hp:Lib.hasPrefix (61::34::(escS true t++34::r)) [61,34]=true:=by simp[Lib.hasPrefix,List.isPrefixOf]
 have hno:=escS_no true t
 have hc:Lib.cut (escS true t++34::r) [34]=(escS true t,r,true):=cut_here _ _ fun x hx=>(hno x hx).2 rfl
 have h60:Lib.contains (escS true t) [60]=false:=by
  have:=cut_not (escS true t) (p:=60) fun x hx=>(hno x hx).1
  unfold Lib.cut at this
  unfold Lib.contains
  by_cases h:0≤Lib.index (escS true t) [60]
  ·rw[if_pos h]at this
   have:=congrArg (·.2.2) this
   cases this
  ·exact decide_eq_false h
 unfold attrHS
 simp only[hu,ht,hd,hd2,hp,hn,hc,h60,unesc_esc,if_true,and_self]
theorem attr_atB {a:List UInt8 × List UInt8} (hn:isNameS a.1=true) {c:UInt8} (hc:c=32∨c=62) (r:List UInt8):attrHS ((atB a).drop 1++c::r)=(a,(atB a).length-1,true):=by
 obtain⟨n,t⟩:=a
 unfold atB
 split
 ·rename_i h
  simp only at h hn
  obtain⟨rfl,_⟩:=h
  have:=attr_sw hn hc r
  simpa using this
 ·have:=attr_quo hn t (c::r)
  simp only at this hn ⊢
  simp only[List.append_assoc,List.cons_append,List.nil_append,List.drop_succ_cons,List.drop_zero,List.length_cons,List.length_append,List.length_nil]
  rw[this]
  congr 2
  omega
theorem tag_head (xs:List (List UInt8 × List UInt8)) (rest:List UInt8):∃c r,xs.flatMap atB++62::rest=c::r∧(c=32∨c=62):=by
 cases xs with
 | nil=>exact⟨62,rest,rfl,.inr rfl⟩
 | cons a xs=>exact⟨32,_,rfl,.inl rfl⟩
theorem tag_read {s rest:List UInt8}:∀(xs:List (List UInt8 × List UInt8)) (k:Nat) (L:List (List UInt8 × List UInt8)) (tw:Bool),(∀a∈xs,isNameS a.1=true)→s.drop k=xs.flatMap atB++62::rest →
  tagHL s k L tw=some (k+(xs.flatMap atB).length,L++xs,tw||dupT L xs)
 | [],k,L,tw,_,hd=>by
  rw[tagHL_step,hd]
  have:Lib.hasPrefix (([]:List (List UInt8 × List UInt8)).flatMap atB++62::rest) [32]=false:=by simp[Lib.hasPrefix,List.isPrefixOf]
  rw[this]
  simp[dupT]
 | a::xs,k,L,tw,hn,hd=>by
  obtain⟨c,r,he,hc⟩:=tag_head xs rest
  have ha:atB a=32::(atB a).drop 1:=rfl
  have hd1:s.drop k=32::((atB a).drop 1++c::r):=by
   rw[hd,List.flatMap_cons,List.append_assoc,he];rfl
  have hd2:s.drop (k+1)=(atB a).drop 1++c::r:=by rw[←List.drop_drop,hd1];rfl
  have hpos:1≤(atB a).length:=by rw[ha];simp
  have hd3:s.drop (k+1+((atB a).length-1))=xs.flatMap atB++62::rest:=by
   rw[←List.drop_drop,hd2,he,List.drop_append_of_le_length (by simp),List.drop_eq_nil_of_le (by simp)];rfl
  have ih:=tag_read xs (k+1+((atB a).length-1)) (L++[a]) (tw||L.any fun b=>b.1==a.1) (fun b hb=>hn b (by simp[hb])) hd3
  rw[tagHL_step,hd1]
  have hp:Lib.hasPrefix (32::((atB a).drop 1++c::r)) [32]=true:=by simp[Lib.hasPrefix,List.isPrefixOf]
  rw[hp,hd2,attr_atB (hn a (by simp)) hc r]
  simp only[if_true]
  rw[ih,dupT,Bool.or_assoc,List.flatMap_cons,List.length_append,List.append_assoc]
  congr 2
  omega
theorem start_read {n rest:List UInt8} {xs:List (List UInt8 × List UInt8)} (hn:isNameS n=true) (ha:∀a∈xs,isNameS a.1=true) :
  startHS (60::(n++(xs.flatMap atB++62::rest)))=some (⟨0,n,[],xs,0,0⟩,1+n.length+(xs.flatMap atB).length+1,dupT [] xs):=by
 obtain⟨c,r,he,hc⟩:=tag_head xs rest
 have hu:uptoS ((60::(n++(xs.flatMap atB++62::rest))).drop 1) [32,62]=n.length:=by
  show uptoS (n++(xs.flatMap atB++62::rest)) [32,62]=n.length
  rw[he]
  exact upto_here (by rcases hc with rfl | rfl<;>rfl) r n (no2 hn)
 have h1:1+n.length=n.length+1:=by omega
 have ht:((60::(n++(xs.flatMap atB++62::rest))).take (1+n.length)).drop 1=n:=by
  rw[h1,List.take_succ_cons,List.drop_succ_cons,List.drop_zero,List.take_left]
 have hd:(60::(n++(xs.flatMap atB++62::rest))).drop (1+n.length)=xs.flatMap atB++62::rest:=by
  rw[h1,List.drop_succ_cons,List.drop_left]
 have hd2:(60::(n++(xs.flatMap atB++62::rest))).drop (1+n.length+(xs.flatMap atB).length)=62::rest:=by
  rw[←List.drop_drop,hd,List.drop_left]
 have htag:=tag_read xs (1+n.length) [] false ha hd
 have hp:Lib.hasPrefix (62::rest) [62]=true:=by simp[Lib.hasPrefix,List.isPrefixOf]
 unfold startHS
 simp only[hu,ht,hn,htag,hd2,hp,if_true,List.nil_append,Bool.false_or]
theorem end_read {n:List UInt8} (rest:List UInt8) (hn:isNameS n=true):endHS (60::47::(n++62::rest))=some (n,rest):=by
 have hp:Lib.hasPrefix (60::47::(n++62::rest)) [60,47]=true:=by simp[Lib.hasPrefix,List.isPrefixOf]
 have ht:Lib.trimPrefix (60::47::(n++62::rest)) [60,47]=n++62::rest:=by unfold Lib.trimPrefix;rw[hp];rfl
 have hc:Lib.cut (n++62::rest) [62]=(n,rest,true):=cut_here _ _ (name_ok hn).2.2.1
 unfold endHS
 simp only[hp,ht,hc,hn,and_self,if_true]
theorem comment_read {t:List UInt8} (rest:List UInt8) (h1:Lib.contains t sDash=false) (h2:Lib.hasSuffix t [45]=false):commentHS (60::33::45::45::(t++45::45::62::rest))=some (t,rest):=by
 have hp:Lib.hasPrefix (60::33::45::45::(t++45::45::62::rest)) sCom=true:=by simp[Lib.hasPrefix,List.isPrefixOf,sCom]
 have ht:Lib.trimPrefix (60::33::45::45::(t++45::45::62::rest)) sCom=t++45::45::62::rest:=by unfold Lib.trimPrefix;rw[hp];rfl
 have hi:Lib.index (t++45::45::62::rest) sDash=t.length:=cut_two (p:=45) (q:=45) h1 (.inr fun x hx e=>by
  subst e
  obtain⟨pre,hpre⟩:∃pre,t=pre++[45]:=by
   rcases List.eq_nil_or_concat t with h0 | ⟨D,y,h0⟩
   ·rw[h0]at hx;cases hx
   ·rw[List.concat_eq_append]at h0
    rw[h0]at hx
    simp at hx
    exact⟨D,by rw[h0,hx]⟩
  rw[hpre]at h2
  unfold Lib.hasSuffix at h2
  have:([45]:List UInt8).isSuffixOf (pre++[45])=true:=List.isSuffixOf_iff_suffix.2 (List.suffix_append _ _)
  rw[this]at h2
  cases h2)
 have hc:Lib.cut (t++45::45::62::rest) sDash=(t,62::rest,true):=by
  unfold Lib.cut
  rw[hi,if_pos (by omega),Int.toNat_natCast,List.take_left,←List.drop_drop,List.drop_left]
  rfl
 have hp2:Lib.hasPrefix (62::rest) [62]=true:=by simp[Lib.hasPrefix,List.isPrefixOf]
 unfold commentHS
 simp only[hp,ht,hc,hp2,and_self,if_true]
 rfl
theorem instr_read {n t u:List UInt8} (rest:List UInt8) (hu:u=if t=[]then []else 32::t) (hn:isNameS n=true) (hx:lowS n≠[120,109,108]) (h62:∀x∈t,x≠62) (hw:t≠[]→¬0≤Lib.indexByte [32,9,10,13] (t.getD 0 0)) :
  instrHS (60::63::(n++(u++62::rest)))=some (n,t,rest):=by
 have hno:=name_ok hn
 have hp:Lib.hasPrefix (60::63::(n++(u++62::rest))) [60,63]=true:=by simp[Lib.hasPrefix,List.isPrefixOf]
 have ht:Lib.trimPrefix (60::63::(n++(u++62::rest))) [60,63]=(n++u)++62::rest:=by
  unfold Lib.trimPrefix;rw[hp,List.append_assoc];rfl
 have hc:Lib.cut ((n++u)++62::rest) [62]=(n++u,rest,true):=cut_here _ _ fun x hx=>by
  rcases List.mem_append.1 hx with h | h
  ·exact hno.2.2.1 x h
  ·rw[hu]at h
   split at h
   ·cases h
   ·rcases List.mem_cons.1 h with rfl | h
    ·decide
    ·exact h62 x h
 have hc2:Lib.cut (n++u) [32]=(n,t,decide (t≠[])):=by
  rw[hu]
  by_cases h0:t=[]
  ·rw[if_pos h0,List.append_nil,cut_not _ hno.1,h0];rfl
  ·rw[if_neg h0,cut_here _ _ hno.1,decide_eq_true h0]
 unfold instrHS
 simp only[hp,ht,hc,hc2]
 refine if_pos ⟨trivial,trivial,hn,hx,fun h=>?_⟩
 have h0:t≠[]:=of_decide_eq_true h.1
 rcases h.2 with h | h
 ·exact h0 h
 ·exact hw h0 h
end Go.Ab
namespace Go.Ab
open Go Go.Lib
def evN (l:List Nd):Nat→Nat→List Ev
 | 0,_=>[]
 | f+1,i=>
  match (l.getD i nd0).kind with
  | 1=>[⟨0,(l.getD i nd0).name,[],(attsOf l i).map (prA l),0,0⟩]++(kidsOf l i).flatMap (evN l f)++[⟨1,(l.getD i nd0).name,[],[],0,0⟩]
  | 3=>[⟨2,[],(l.getD i nd0).text,[],0,0⟩]
  | 4=>[⟨3,[],(l.getD i nd0).text,[],0,0⟩]
  | 5=>[⟨4,(l.getD i nd0).name,(l.getD i nd0).text,[],0,0⟩]
  | _=>[]
def noAdj (l:List Nd):List Nat→Bool
 | a::b::r => !((l.getD a nd0).kind==3&&(l.getD b nd0).kind==3)&&noAdj l (b::r)
 | _=>true
structure WrOk (l:List Nd):Prop where
 v:ValidN l
 bad:∀i,1≤i→i<l.length→badAt l i=false
 dup:∀i,1≤i→i<l.length→(l.getD i nd0).kind=1→dupT [] ((attsOf l i).map (prA l))=false
 adj:∀i,i<l.length→noAdj l (kidsOf l i)=true
def NoSt (L:List Ev):Prop:=∀x,L.getLast?=some x→x.kind≠0∨isRawS x.name=false
theorem NoSt.app {L M:List Ev} {x:Ev} (hx:x.kind≠0∨isRawS x.name=false):NoSt (L++(M++[x])):=by
 intro y hy
 rw[←List.append_assoc,List.getLast?_append]at hy
 simp at hy
 rw[←hy];exact hx
theorem read_piece {h h':HSt} (hs:h.s≠[]) (e:pieceHS h = .ok h'):readHL h=readHL h':=by
 rw[readHL_step,if_neg hs,e]
theorem piece_text {t rest:List UInt8} {L:List Ev} {o:List (List UInt8)} (hr:rawNow ⟨escS false t++rest,L,o⟩=false) (h0:t≠[]) (hrest:rest=[]∨∃r,rest=60::r) :
  pieceHS ⟨escS false t++rest,L,o⟩ = .ok ⟨rest,L++[⟨2,[],t,[],0,0⟩],o⟩:=by
 have hno:=escS_no false t
 have hne:escS false t≠[]:=by
  intro h
  have:=unesc_esc false t
  rw[h]at this
  exact h0 (congrArg (·.1) this).symm
 have hc:(Lib.cut (escS false t++rest) [60]).1=escS false t:=by
  rcases hrest with rfl | ⟨r,rfl⟩
  ·rw[List.append_nil,cut_not _ fun x hx=>(hno x hx).1]
  ·rw[cut_here _ _ fun x hx=>(hno x hx).1]
 have hg:(escS false t++rest).getD 0 0≠60:=by
  match hm:escS false t,hne with
  | c::m,_=>
   have:=(hno c (by rw[hm];simp)).1
   simpa using this
 unfold pieceHS
 rw[hr]
 simp only[Bool.false_eq_true,if_false,hc,unesc_esc,if_pos hg,if_true,HSt.add,List.drop_left]
theorem index_slash {t r:List UInt8} (h:Lib.contains t [60,47]=false):Lib.index (t++60::47::r) [60,47]=t.length:=cut_two h (.inl (by decide))
theorem prefix_index {s p:List UInt8} (h:Lib.hasPrefix s p=true):Lib.index s p=0:=by
 refine Lib.index_first (i:=0) (Nat.zero_le _) ?_ fun j hj=>absurd hj (Nat.not_lt_zero _)
 unfold Lib.occAt
 rw[List.drop_zero]
 exact h
theorem piece_raw {t r:List UInt8} {L:List Ev} {x:Ev} {o:List (List UInt8)} (hx:x.kind=0) (hraw:isRawS x.name=true) (h0:t≠[]) (hc:Lib.contains t [60,47]=false) :
  pieceHS ⟨t++60::47::r,L++[x],o⟩ = .ok ⟨60::47::r,L++[x]++[⟨2,[],t,[],0,0⟩],o⟩:=by
 have hi:=index_slash (r:=r) hc
 have hl:t.length≠0:=fun e=>h0 (List.length_eq_zero_iff.1 e)
 have hp:Lib.hasPrefix (t++60::47::r) [60,47]=false:=by
  cases hh:Lib.hasPrefix (t++60::47::r) [60,47]with
  | false=>rfl
  | true=>have:=prefix_index hh;omega
 have hrn:rawNow ⟨t++60::47::r,L++[x],o⟩=true:=by
  have hgl:(L++[x]).getLast?=some x:=by simp
  unfold rawNow
  simp only[hgl,hx,hraw,hp]
  rfl
 unfold pieceHS
 rw[hrn,if_pos rfl]
 simp only[hi]
 rw[if_neg (by omega),Int.toNat_natCast,List.take_left,List.drop_left]
 rfl
theorem piece_end {n rest:List UInt8} {L:List Ev} {o:List (List UInt8)} (hn:isNameS n=true):pieceHS ⟨60::47::(n++62::rest),L,o++[n]⟩ = .ok ⟨rest,L++[⟨1,n,[],[],0,0⟩],o⟩:=by
 have hp:Lib.hasPrefix (60::47::(n++62::rest)) [60,47]=true:=by simp[Lib.hasPrefix,List.isPrefixOf]
 have hr:rawNow ⟨60::47::(n++62::rest),L,o++[n]⟩=false:=by
  unfold rawNow
  split
  ·rfl
  ·simp only[hp];simp
 unfold pieceHS
 rw[hr,end_read rest hn]
 simp[HSt.add]
theorem not_pre {a b c:UInt8} {s p:List UInt8} (h:b≠c):Lib.hasPrefix (a::b::s) (a::c::p)=false:=by
 simp only[Lib.hasPrefix,List.isPrefixOf,beq_self_eq_true,Bool.true_and]
 rw[beq_eq_false_iff_ne.2 (fun e=>h e.symm),Bool.false_and]
theorem piece_comment {t rest:List UInt8} {L:List Ev} {o:List (List UInt8)} (hr:rawNow ⟨60::33::45::45::(t++45::45::62::rest),L,o⟩=false) (h1:Lib.contains t sDash=false) (h2:Lib.hasSuffix t [45]=false) :
  pieceHS ⟨60::33::45::45::(t++45::45::62::rest),L,o⟩ = .ok ⟨rest,L++[⟨3,[],t,[],0,0⟩],o⟩:=by
 unfold pieceHS
 rw[hr,endHS_no (not_pre (by decide)),comment_read rest h1 h2]
 simp[HSt.add]
theorem piece_instr {n t u rest:List UInt8} {L:List Ev} {o:List (List UInt8)} (hr:rawNow ⟨60::63::(n++(u++62::rest)),L,o⟩=false) (hu:u=if t=[]then []else 32::t) (hn:isNameS n=true) (hx:lowS n≠[120,109,108]) (h62:∀x∈t,x≠62) (hw:t≠[]→¬0≤Lib.indexByte [32,9,10,13] (t.getD 0 0)) :
  pieceHS ⟨60::63::(n++(u++62::rest)),L,o⟩ = .ok ⟨rest,L++[⟨4,n,t,[],0,0⟩],o⟩:=by
 unfold pieceHS
 rw[hr,endHS_no (not_pre (by decide)),commentHS_no (not_pre (by decide)),instr_read rest hu hn hx h62 hw]
 simp[HSt.add]
theorem piece_start {n rest:List UInt8} {xs:List (List UInt8 × List UInt8)} {L:List Ev} {o:List (List UInt8)} (hr:rawNow ⟨60::(n++(xs.flatMap atB++62::rest)),L,o⟩=false) (hn:isNameS n=true) (ha:∀a∈xs,isNameS a.1=true) (hd:dupT [] xs=false) :
  pieceHS ⟨60::(n++(xs.flatMap atB++62::rest)),L,o⟩=if isVoidS n=true then .ok ⟨rest,L++[⟨0,n,[],xs,0,0⟩,⟨1,n,[],[],0,0⟩],o⟩else .ok ⟨rest,L++[⟨0,n,[],xs,0,0⟩],o++[n]⟩:=by
 obtain⟨c,m,rfl⟩:∃c m,n=c::m:=by
  have:=nameS_ne hn
  match n,this with
  | c::m,_=>exact⟨c,m,rfl⟩
 obtain⟨_,_,_,_,h47,h33,h63⟩:=name_ok hn
 have g1:=h47 c (by simp)
 have g2:=h33 c (by simp)
 have g3:=h63 c (by simp)
 have hdr:(60::((c::m)++(xs.flatMap atB++62::rest))).drop (1+(c::m).length+(xs.flatMap atB).length+1)=rest:=by
  have e1:(60::((c::m)++(xs.flatMap atB++62::rest)))=(60::(c::m)++xs.flatMap atB++[62])++rest:=by simp[List.append_assoc]
  rw[e1]
  exact List.drop_left' (by simp;omega)
 have hst:=start_read (rest:=rest) hn ha
 have z1:endHS (60::((c::m)++(xs.flatMap atB++62::rest)))=none:=endHS_no (not_pre g1)
 have z2:commentHS (60::((c::m)++(xs.flatMap atB++62::rest)))=none:=commentHS_no (not_pre g2)
 have z3:instrHS (60::((c::m)++(xs.flatMap atB++62::rest)))=none:=instrHS_no (not_pre g3)
 unfold pieceHS
 rw[hr]
 simp only[z1,z2,z3,hst,hd,hdr]
 simp
end Go.Ab
namespace Go.Ab
open Go Go.Lib
def RdN (l:List Nd) (f i:Nat):Prop:=∀(rest:List UInt8) (L:List Ev) (o:List (List UInt8)),NoSt L→((l.getD i nd0).kind=3→rest=[]∨∃r,rest=60::r)→readHL ⟨wrN l f i++rest,L,o⟩=readHL ⟨rest,L++evN l f i,o⟩
theorem NoSt.ev {L M:List Ev} {x:Ev} (hx:x.kind≠0):NoSt (L++(M++[x])):=NoSt.app (.inl hx)
theorem ev_last {l:List Nd} {f i:Nat} (h:(l.getD i nd0).kind=1∨(l.getD i nd0).kind=3∨(l.getD i nd0).kind=4∨(l.getD i nd0).kind=5):∃M x,evN l (f+1) i=M++[x]∧x.kind≠0:=by
 rcases h with h | h | h | h<;>simp only[evN,h]
 ·exact⟨_,_,rfl,Nat.succ_ne_zero _⟩
 ·exact⟨[],_,rfl,Nat.succ_ne_zero _⟩
 ·exact⟨[],_,rfl,Nat.succ_ne_zero _⟩
 ·exact⟨[],_,rfl,Nat.succ_ne_zero _⟩
theorem wr_head {l:List Nd} {f i:Nat} (h:(l.getD i nd0).kind=1∨(l.getD i nd0).kind=4∨(l.getD i nd0).kind=5):∃r,wrN l (f+1) i=60::r:=by
 rcases h with h | h | h<;>simp only[wrN,h]<;>exact⟨_,rfl⟩
theorem read_kids {l:List Nd} {f:Nat}:∀(ks:List Nat) (rest:List UInt8) (L:List Ev) (o:List (List UInt8)),
  (∀k∈ks,RdN l f k∧(∃M x,evN l f k=M++[x]∧x.kind≠0)∧((l.getD k nd0).kind≠3→∃r,wrN l f k=60::r))→noAdj l ks=true→(rest=[]∨∃r,rest=60::r)→NoSt L →
  readHL ⟨ks.flatMap (wrN l f)++rest,L,o⟩=readHL ⟨rest,L++ks.flatMap (evN l f),o⟩
 | [],rest,L,o,_,_,_,_=>by simp
 | k::ks,rest,L,o,h,ha,hr,hL=>by
  obtain⟨h1,⟨M,x,h2,h3⟩,_⟩:=h k (by simp)
  have ha2:noAdj l ks=true:=by
   cases ks with
   | nil=>rfl
   | cons b r=>simp only[noAdj,Bool.and_eq_true]at ha;exact ha.2
  have ih:=read_kids ks rest (L++evN l f k) o (fun b hb=>h b (by simp[hb])) ha2 hr (by rw[h2];exact NoSt.ev h3)
  rw[List.flatMap_cons,List.flatMap_cons,List.append_assoc,h1 _ L o hL fun h3=>?_,ih,List.append_assoc]
  cases ks with
  | nil=>simpa using hr
  | cons b r=>
   simp only[noAdj,Bool.and_eq_true,Bool.not_eq_true',Bool.and_eq_false_iff,beq_eq_false_iff_ne,ne_eq]at ha
   have hb:(l.getD b nd0).kind≠3:=by
    rcases ha.1 with h | h
    ·exact absurd h3 h
    ·exact h
   obtain⟨q,hq⟩:=(h b (by simp)).2.2 hb
   right
   rw[List.flatMap_cons,hq]
   exact⟨_,rfl⟩
theorem any_no {s:List UInt8} {c:UInt8} {cs:List UInt8} (hc:cs.contains c=true) (h:Lib.containsAny s cs=false):∀x∈s,x≠c:=by
 rintro x hx rfl
 induction s with
 | nil=>cases hx
 | cons b s ih=>
  have hge:=Lib.indexAny_ge cs s
  unfold Lib.containsAny Lib.indexAny at h
  split at h
  ·simp at h
  ·rename_i hb
   rcases List.mem_cons.1 hx with rfl | hx
   ·exact hb hc
   ·refine ih ?_ hx
    unfold Lib.containsAny
    refine decide_eq_false fun h0=>?_
    have:=of_decide_eq_false h
    by_cases he:Lib.indexAny s cs = -1
    ·omega
    ·have e2:(Lib.indexAny s cs == -1)=false:=beq_eq_false_iff_ne.2 he
     rw[e2]at this
     simp at this
     omega
theorem voidS_mem (n:List UInt8):isVoidS n=true↔lowS n∈voidsS:=by
 unfold isVoidS
 rw[List.contains_iff_mem]
theorem pi_white {t:List UInt8} (h:Lib.containsAny (t.take (min 1 t.length)) [32,9,13,10]=false) (h0:t≠[]):¬0≤Lib.indexByte [32,9,10,13] (t.getD 0 0):=by
 match t,h0 with
 | c::t,_=>
  have hm:min 1 (c::t).length=1:=by simp
  rw[hm]at h
  have h1:=any_no (c:=32) (by decide) h c (by simp)
  have h2:=any_no (c:=9) (by decide) h c (by simp)
  have h3:=any_no (c:=13) (by decide) h c (by simp)
  have h4:=any_no (c:=10) (by decide) h c (by simp)
  show ¬0≤Lib.indexByte [32,9,10,13] c
  intro hi
  have:=(Lib.contains_iff_indexByte [32,9,10,13] c).trans (decide_eq_true hi)
  simp[h1,h2,h3,h4]at this
theorem read_elem {l:List Nd} (W:WrOk l) {f i:Nat} (h1:1≤i) (h2:i<l.length) (h3:l.length-i≤f+1) (hk:(l.getD i nd0).kind=1)
  (ih:∀k,(1≤k∧k<l.length∧l.length-k≤f∧(l.getD k nd0).kind≠2∧isRawS (l.getD (l.getD k nd0).up.toNat nd0).name=false)→RdN l f k) (rest:List UInt8) (L:List Ev) (o:List (List UInt8)) (hL:NoSt L) :
  readHL ⟨wrN l (f+1) i++rest,L,o⟩=readHL ⟨rest,L++evN l (f+1) i,o⟩:=by
 have hall:=W.v.allowed i h2
 have hbad:=W.bad i h1 h2
 have hdup:=W.dup i h1 h2 hk
 have hadj:=W.adj i h2
 unfold allowedS at hall
 rw[hk]at hall
 simp only[Bool.and_eq_true]at hall
 have hn:=hall.2.1
 unfold badAt badN at hbad
 rw[hk]at hbad
 simp only[Bool.or_eq_false_iff]at hbad
 have hxs:∀a∈(attsOf l i).map (prA l),isNameS a.1=true:=by
  intro a ha
  obtain⟨k,hka,rfl⟩:=List.mem_map.1 ha
  have hka:=attsOf_lt hka
  have:=W.v.allowed k hka.1
  unfold allowedS at this
  rw[hka.2.2.2]at this
  simp only[Bool.and_eq_true]at this
  exact this.2
 have hfm:(attsOf l i).flatMap (atS l)=((attsOf l i).map (prA l)).flatMap atB:=by
  rw[List.flatMap_map]
  rfl
 have hkid:∀k∈kidsOf l i,1≤k∧k<l.length∧l.length-k≤f∧(l.getD k nd0).kind≠2∧(l.getD k nd0).up.toNat=i∧1≤f∧((l.getD k nd0).kind=1∨(l.getD k nd0).kind=3∨(l.getD k nd0).kind=4∨(l.getD k nd0).kind=5):=by
  intro k hkk
  have hk2:=kidsOf_lt hkk
  have hu:=W.v.up k (by omega) hk2.1
  have hkd:=W.v.kind k hk2.1
  have hdoc:=W.v.doc k (by omega) hk2.1
  omega
 simp only[wrN,evN,hk,hfm]
 generalize hks:kidsOf l i=ks at hbad hadj hkid ⊢
 generalize (attsOf l i).map (prA l)=xs at hdup hxs ⊢
 generalize hnm:(l.getD i nd0).name=n at hn hbad ⊢
 have e1:[60]++n++xs.flatMap atB++[62]++(if lowS n∈voidsS then []else ks.flatMap (wrN l f)++([60,47]++n++[62]))++rest=60::(n++(xs.flatMap atB++62::((if lowS n∈voidsS then []else ks.flatMap (wrN l f)++([60,47]++n++[62]))++rest))):=by simp
 rw[e1]
 have hp:=piece_start (rest:=(if lowS n∈voidsS then []else ks.flatMap (wrN l f)++([60,47]++n++[62]))++rest) (o:=o) (rawNow_no (h:=⟨60::(n++(xs.flatMap atB++62::((if lowS n∈voidsS then []else ks.flatMap (wrN l f)++([60,47]++n++[62]))++rest))),L,o⟩) hL) hn hxs hdup
 by_cases hv:lowS n∈voidsS
 ·have hv2:=(voidS_mem n).2 hv
  have hk0:ks=[]:=by
   have:=hbad.1
   rw[decide_eq_true hv,Bool.true_and]at this
   have:=of_decide_eq_false this
   exact List.length_eq_zero_iff.1 (by omega)
  rw[if_pos hv,if_pos hv2]at hp
  rw[if_pos hv]
  rw[read_piece (by simp) hp,hk0]
  simp
 ·have hv2:isVoidS n=false:=by
   cases hh:isVoidS n with
   | false=>rfl
   | true=>exact absurd ((voidS_mem n).1 hh) hv
  rw[if_neg hv,if_neg (by rw[hv2];simp)]at hp
  rw[if_neg hv]
  rw[read_piece (by simp) hp]
  have e2:ks.flatMap (wrN l f)++([60,47]++n++[62])++rest=ks.flatMap (wrN l f)++60::47::(n++62::rest):=by simp
  rw[e2]
  have hend:∀M:List Ev,readHL ⟨60::47::(n++62::rest),M,o++[n]⟩=readHL ⟨rest,M++[⟨1,n,[],[],0,0⟩],o⟩:=fun M=>read_piece (by simp) (piece_end hn)
  cases hraw:isRawS n with
  | false=>
   have hks2:∀k∈ks,RdN l f k∧(∃M x,evN l f k=M++[x]∧x.kind≠0)∧((l.getD k nd0).kind≠3→∃r,wrN l f k=60::r):=by
    intro k hkk
    obtain⟨a1,a2,a3,a4,a5,a6,a7⟩:=hkid k hkk
    obtain⟨f',rfl⟩:∃f',f=f'+1:=⟨f-1,by omega⟩
    exact⟨ih k ⟨a1,a2,a3,a4,by rw[a5,hnm];exact hraw⟩,ev_last a7,fun h3=>wr_head (by omega)⟩
   rw[read_kids ks _ _ _ hks2 hadj (.inr ⟨_,rfl⟩) (fun x hx=>by simp at hx;rw[←hx];exact .inr hraw),hend]
   simp[List.append_assoc]
  | true=>
   have h3:∀k∈ks,(l.getD k nd0).kind=3∧Lib.contains (l.getD k nd0).text [60,47]=false∧(l.getD k nd0).text≠[]∧wrN l f k=(l.getD k nd0).text∧evN l f k=[⟨2,[],(l.getD k nd0).text,[],0,0⟩]:=by
    intro k hkk
    obtain⟨a1,a2,a3,a4,a5,a6,a7⟩:=hkid k hkk
    obtain⟨f',rfl⟩:∃f',f=f'+1:=⟨f-1,by omega⟩
    have hb:=W.bad k a1 a2
    have hal:=W.v.allowed k a2
    unfold badAt badN at hb
    rw[a5,hnm,hraw]at hb
    rcases a7 with h | h | h | h
    ·rw[h]at hb;simp at hb
    ·rw[h]at hb
     simp only[Bool.true_and,Bool.or_eq_false_iff]at hb
     unfold allowedS at hal
     rw[h]at hal
     simp only[Bool.and_eq_true,bne_iff_ne,ne_eq]at hal
     refine⟨h,hb.1.1,hal.2.2,?_,?_⟩
     ·simp only[wrN,h,a5,hnm,hraw,if_true]
     ·simp only[evN,h]
    ·rw[h]at hb;simp at hb
    ·rw[h]at hb;simp at hb
   match ks,h3,hadj with
   | [],_,_=>
    rw[List.flatMap_nil,List.nil_append,hend]
    simp
   | [k],h3,_=>
    obtain⟨b1,b2,b3,b4,b5⟩:=h3 k (by simp)
    have hp2:=piece_raw (r:=n++62::rest) (L:=L) (x:=⟨0,n,[],xs,0,0⟩) (o:=o++[n]) rfl hraw b3 b2
    simp only[List.flatMap_cons,List.flatMap_nil,List.append_nil,b4,b5]
    rw[read_piece (by simp) hp2,hend]
    simp
   | k::k2::ks,h3,hadj=>
    have b1:=(h3 k (by simp)).1
    have b2:=(h3 k2 (by simp)).1
    have hz:noAdj l (k::k2::ks)=false:=by
     unfold noAdj
     rw[b1,b2]
     rfl
    rw[hz]at hadj
    cases hadj
theorem read_node {l:List Nd} (W:WrOk l):∀(f i:Nat),1≤i→i<l.length→l.length-i≤f→(l.getD i nd0).kind≠2→isRawS (l.getD (l.getD i nd0).up.toNat nd0).name=false→RdN l f i
 | 0,i,h1,h2,h3,_,_=>by omega
 | f+1,i,h1,h2,h3,hk2,hraw=>by
  intro rest L o hL hrest
  have hkd:=W.v.kind i h2
  have hdoc:=W.v.doc i (by omega) h2
  have hall:=W.v.allowed i h2
  have hbad:=W.bad i h1 h2
  have hrn:∀s,rawNow ⟨s,L,o⟩=false:=fun s=>rawNow_no hL
  rcases(by omega:(l.getD i nd0).kind=1∨(l.getD i nd0).kind=3∨(l.getD i nd0).kind=4∨(l.getD i nd0).kind=5)with hk | hk | hk | hk
  ·exact read_elem W h1 h2 h3 hk (fun k hk0=>read_node W f k hk0.1 hk0.2.1 hk0.2.2.1 hk0.2.2.2.1 hk0.2.2.2.2) rest L o hL
  ·unfold allowedS at hall
   rw[hk]at hall
   simp only[Bool.and_eq_true,bne_iff_ne,ne_eq,beq_iff_eq]at hall
   simp only[wrN,evN,hk,hraw,Bool.false_eq_true,if_false]
   have hp:=piece_text (t:=(l.getD i nd0).text) (rest:=rest) (L:=L) (o:=o) (hrn _) hall.2.2 (hrest hk)
   exact read_piece (by
    have:=hp
    intro he
    rw[show(escS false (l.getD i nd0).text++rest)=[]from he]at this
    have h5:escS false (l.getD i nd0).text=[]:=(List.append_eq_nil_iff.1 he).1
    have h6:=unesc_esc false (l.getD i nd0).text
    rw[h5]at h6
    exact hall.2.2 (congrArg (·.1) h6).symm) hp
  ·unfold allowedS at hall
   rw[hk]at hall
   simp only[Bool.and_eq_true,Bool.not_eq_true',beq_iff_eq]at hall
   simp only[wrN,evN,hk]
   have hp:=piece_comment (t:=(l.getD i nd0).text) (rest:=rest) (L:=L) (o:=o) (hrn _) hall.2.1.2 hall.2.2
   have e:[60,33,45,45]++(l.getD i nd0).text++[45,45,62]++rest=60::33::45::45::((l.getD i nd0).text++45::45::62::rest):=by simp
   rw[e]
   exact read_piece (by simp) hp
  ·unfold allowedS at hall
   rw[hk]at hall
   simp only[Bool.and_eq_true,Bool.not_eq_true',bne_iff_ne,ne_eq]at hall
   unfold badAt badN at hbad
   rw[hk]at hbad
   simp only[Bool.or_eq_false_iff]at hbad
   simp only[wrN,evN,hk]
   have hx:lowS (l.getD i nd0).name≠[120,109,108]:=fun e=>hall.2.1.1.2 ((xml_low _).2 e)
   have hp:=piece_instr (n:=(l.getD i nd0).name) (t:=(l.getD i nd0).text) (u:=if(l.getD i nd0).text=[]then []else 32::(l.getD i nd0).text) (rest:=rest) (L:=L) (o:=o) (hrn _) rfl hall.2.1.1.1 hx (any_no (by decide) hbad.1.1) (pi_white hall.2.2)
   have e:[60,63]++(l.getD i nd0).name++(if(l.getD i nd0).text=[]then []else [32]++(l.getD i nd0).text)++[62]++rest=60::63::((l.getD i nd0).name++((if(l.getD i nd0).text=[]then []else 32::(l.getD i nd0).text)++62::rest)):=by simp
   rw[e]
   exact read_piece (by simp) hp
end Go.Ab
namespace Go.Ab
open Go Go.Lib
structure SubE (l:List Nd) (i e:Nat):Prop where
 lt:i<e
 le:e≤l.length
 inn:∀m,i<m→m<e→(i:Int)≤(l.getD m nd0).up
 out:e<l.length→(l.getD e nd0).up<(i:Int)
theorem SubE.from {l:List Nd} {i:Nat}:∀(n j:Nat),l.length-j≤n→i<j→j≤l.length→(∀m,i<m→m<j→(i:Int)≤(l.getD m nd0).up)→∃e,SubE l i e
 | 0,j,h,h1,h2,h3=>⟨j,h1,h2,h3,fun h4=>by omega⟩
 | n+1,j,h,h1,h2,h3=>by
  by_cases hj:j<l.length
  ·by_cases hu:(l.getD j nd0).up<(i:Int)
   ·exact⟨j,h1,h2,h3,fun _=>hu⟩
   ·exact SubE.from n (j+1) (by omega) (by omega) (by omega) fun m m1 m2=>by
     rcases(by omega:m<j∨m=j)with hm | hm
     ·exact h3 m m1 hm
     ·rw[hm];omega
  ·exact⟨j,h1,h2,h3,fun h4=>absurd h4 hj⟩
theorem SubE.ex {l:List Nd} {i:Nat} (hi:i<l.length):∃e,SubE l i e:=SubE.from l.length (i+1) (by omega) (by omega) (by omega) fun m m1 m2=>by omega
section
variable {l:List Nd} (v:ValidN l)
include v
theorem SubE.anc {i e:Nat} (h:SubE l i e):∀(n m:Nat),m≤n→i≤m→m<e→aboveN l i m=true
 | n,m,hn,h1,h2=>by
  rcases Nat.eq_or_lt_of_le h1 with rfl | hlt
  ·exact aboveN_self _ _
  ·have hle:=h.le
   have hu:=v.up m (by omega) (by omega)
   have hin:=h.inn m hlt h2
   rw[aboveN_step (v.upOk (by omega)) hlt]
   match n with
   | 0=>omega
   | n+1=>exact SubE.anc h n _ (by omega) (by omega) (by omega)
theorem above_low {a i:Nat} (hai:a≤i):∀(n m:Nat),m≤n→m<l.length→aboveN l a m=true→aboveN l i m=true→aboveN l a i=true
 | n,m,hn,hm,h1,h2=>by
  have him:=aboveN_le (v.upOk hm) h2
  rcases Nat.eq_or_lt_of_le him with rfl | hlt
  ·exact h1
  ·have hu:=v.up m (by omega) hm
   rw[aboveN_step (v.upOk hm) hlt]at h2
   rw[aboveN_step (v.upOk hm) (by omega)]at h1
   match n with
   | 0=>omega
   | n+1=>exact above_low hai n _ (by omega) (by omega) h1 h2
theorem SubE.not_anc {i e:Nat} (h:SubE l i e):∀(n m:Nat),m≤n→e≤m→m<l.length→aboveN l i m=false
 | n,m,hn,h1,h2=>by
  have hlt:=h.lt
  have hu:=v.up m (by omega) h2
  cases hb:aboveN l i m with
  | false=>rfl
  | true=>
   exfalso
   have hb0:=hb
   rw[aboveN_step (v.upOk h2) (by omega)]at hb
   have hle:=aboveN_le (v.upOk (by omega)) hb
   rcases Nat.eq_or_lt_of_le h1 with he | hgt
   ·have:=h.out (by omega)
    rw[he]at this
    omega
   ·have hab:=v.above m (by omega) h2
    have h3:aboveN l i (m-1)=true:=aboveN_trans _ _ (Nat.le_refl _) (v.upOk (by omega)) hb hab
    match n with
    | 0=>omega
    | n+1=>
     rw[SubE.not_anc h n (m-1) (by omega) (by omega) (by omega)]at h3
     cases h3
theorem SubE.kid {i e k:Nat} (h:SubE l i e) (h0:1≤k) (hk:k<l.length) (hu:(l.getD k nd0).up=(i:Int)):i<k∧k<e:=by
 have h1:=v.up k (by omega) hk
 refine⟨by omega,?_⟩
 rcases Nat.lt_or_ge k e with h2 | h2
 ·exact h2
 ·have:=h.not_anc v k k (Nat.le_refl _) h2 hk
  have h3:=aboveN_up (v.upOk hk) (by omega)
  rw[hu,Int.toNat_natCast,this]at h3
  cases h3
theorem par_kind {k:Nat} (h0:1≤k) (hk:k<l.length):((l.getD (l.getD k nd0).up.toNat nd0).kind=1∨(l.getD (l.getD k nd0).up.toNat nd0).kind=0)∧((l.getD k nd0).kind=2→(l.getD (l.getD k nd0).up.toNat nd0).kind=1):=by
 have h:=v.placed k (by omega) hk
 unfold placedN at h
 split at h
 ·cases h
 ·rename_i hh
  omega
theorem child_of {i:Nat}:∀(n m:Nat),m≤n→i<m→m<l.length→aboveN l i m=true→∃c,i<c∧c≤m∧(l.getD c nd0).up=(i:Int)∧aboveN l c m=true
 | n,m,hn,him,hm,h=>by
  have hu:=v.up m (by omega) hm
  rw[aboveN_step (v.upOk hm) him]at h
  have hle:=aboveN_le (v.upOk (by omega)) h
  rcases Nat.eq_or_lt_of_le hle with he | hlt
  ·exact⟨m,him,Nat.le_refl _,by omega,aboveN_self _ _⟩
  ·match n with
   | 0=>omega
   | n+1=>
    obtain⟨c,c1,c2,c3,c4⟩:=child_of n _ (by omega) hlt (by omega) h
    refine⟨c,c1,by omega,c3,?_⟩
    rw[aboveN_step (v.upOk hm) (by omega)]
    exact c4
omit v in
theorem lastN_max {u c:Nat}:∀(k:Nat),1≤c→c<k→(l.getD c nd0).up=(u:Int)→c≤lastN l u k
 | 0,_,h,_=>absurd h (Nat.not_lt_zero _)
 | k+1,h1,h2,h3=>by
  rw[lastN]
  split
  ·omega
  ·rename_i hn
   rcases(by omega:c=k∨c<k)with h | h
   ·subst h;exact absurd ⟨h1,h3⟩ hn
   ·exact lastN_max k h1 h h3
theorem att_prev {k:Nat} (h0:1≤k) (hk:k<l.length) (h2:(l.getD k nd0).kind=2):(l.getD k nd0).up=((k-1:Nat):Int)∨(1≤k-1∧(l.getD (k-1) nd0).kind=2∧(l.getD (k-1) nd0).up=(l.getD k nd0).up):=by
 have hu:=v.up k (by omega) hk
 obtain⟨i,hi⟩:∃i:Nat,(l.getD k nd0).up=i:=⟨(l.getD k nd0).up.toNat,by omega⟩
 have hab:=v.above k (by omega) hk
 have hp:=v.placed k (by omega) hk
 rw[hi,Int.toNat_natCast]at hab hp
 rcases(by omega:i=k-1∨i<k-1)with h | h
 ·left;rw[hi];omega
 ·right
  obtain⟨c,c1,c2,c3,c4⟩:=child_of v (k-1) (k-1) (Nat.le_refl _) h (by omega) hab
  have hcb:=lastN_max (l:=l) k (by omega) (by omega:c<k) c3
  have hbl:=lastN_lt l i k
  have hbu:=lastN_up (l:=l) (u:=i) k (by omega)
  unfold placedN at hp
  rw[hi,Int.toNat_natCast,h2]at hp
  generalize lastN l i k=b at hcb hbl hbu hp
  split at hp
  ·cases hp
  rw[if_neg (by omega),if_pos rfl,Bool.and_eq_true,beq_iff_eq]at hp
  have hbk:=hp.1
  have hcb2:c=b:=by
   rcases Nat.eq_or_lt_of_le hcb with h | h
   ·exact h
   ·exfalso
    obtain⟨e,he⟩:=SubE.ex (l:=l) (i:=c) (by omega)
    have:k-1<e:=by
     rcases Nat.lt_or_ge (k-1) e with h1 | h1
     ·exact h1
     ·rw[he.not_anc v _ _ (Nat.le_refl _) h1 (by omega)]at c4
      cases c4
    have:=he.inn b h (by omega)
    omega
  subst hcb2
  rcases Nat.eq_or_lt_of_le c2 with h3 | h3
  ·rw[←h3,hi];exact⟨by omega,hbk,c3⟩
  ·exfalso
   obtain⟨d,d1,d2,d3,_⟩:=child_of v (k-1) (k-1) (Nat.le_refl _) h3 (by omega) c4
   have:=(par_kind v (k:=d) (by omega) (by omega)).1
   rw[d3,Int.toNat_natCast,hbk]at this
   omega
omit v in
theorem atts_run {i:Nat}:∀(n p:Nat),l.length-p≤n→p≤l.length→∃m,p+m≤l.length∧(∀j,p≤j→j<p+m→(l.getD j nd0).kind=2∧(l.getD j nd0).up=(i:Int))∧¬(p+m<l.length∧(l.getD (p+m) nd0).kind=2∧(l.getD (p+m) nd0).up=(i:Int))
 | 0,p,h,hp=>⟨0,by omega,fun j j1 j2=>by omega,fun h1=>by omega⟩
 | n+1,p,h,hp=>by
  by_cases hh:p<l.length∧(l.getD p nd0).kind=2∧(l.getD p nd0).up=(i:Int)
  ·obtain⟨m,m1,m2,m3⟩:=atts_run n (p+1) (by omega) (by omega)
   refine⟨m+1,by omega,fun j j1 j2=>?_,fun h1=>m3 ?_⟩
   ·rcases(by omega:j=p∨p+1≤j)with hj | hj
    ·rw[hj];exact hh.2
    ·exact m2 j hj (by omega)
   ·rw[show p+1+m=p+(m+1) by omega];exact h1
  ·exact⟨0,by omega,fun j j1 j2=>by omega,hh⟩
structure Bd2 (l:List Nd) (i p e:Nat):Prop where
 lt:i<p
 le:p≤e
 at_:p<e→(l.getD p nd0).up=(i:Int)∧(l.getD p nd0).kind≠2
omit v in
theorem filter_none {p:Nat→Bool} {s n:Nat} (h:∀k,s≤k→k<s+n→p k=false):(List.range' s n).filter p=[]:=by
 rw[List.filter_eq_nil_iff]
 intro k hk
 rw[List.mem_range'_1]at hk
 rw[h k hk.1 hk.2]
 simp
omit v in
theorem filter_all {p:Nat→Bool} {s n:Nat} (h:∀k,s≤k→k<s+n→p k=true):(List.range' s n).filter p=List.range' s n:=by
 rw[List.filter_eq_self]
 intro k hk
 rw[List.mem_range'_1]at hk
 exact h k hk.1 hk.2
omit v in
theorem rsplit {a b c:Nat} (h1:a≤b) (h2:b≤c):List.range' a (c-a)=List.range' a (b-a)++List.range' b (c-b):=by
 have:=@List.range'_append_1 a (b-a) (c-b)
 rw[show a+(b-a)=b by omega,show b-a+(c-b)=c-a by omega]at this
 exact this.symm
theorem atts_lie {i e:Nat} (hi:i<l.length) (h:SubE l i e):∃m,attsOf l i=List.range' (i+1) m∧i+1+m≤e∧(∀j,i+1≤j→j<i+1+m→(l.getD j nd0).kind=2∧(l.getD j nd0).up=(i:Int))∧Bd2 l i (i+1+m) e:=by
 obtain⟨m,m1,m2,m3⟩:=atts_run (l:=l) (i:=i) l.length (i+1) (by omega) (by omega)
 have hlt:=h.lt
 have hle:=h.le
 have hme:i+1+m≤e:=by
  rcases(by omega:m=0∨1≤m)with h0 | h0
  ·omega
  ·have:=(h.kid v (k:=i+m) (by omega) (by omega) (m2 (i+m) (by omega) (by omega)).2).2
   omega
 have out:∀k,i+1+m≤k→k<l.length→(l.getD k nd0).kind=2→(l.getD k nd0).up≠(i:Int):=by
  intro k
  induction k with
  | zero=>intro h1;omega
  | succ k ih=>
   intro h1 h2 h3 h4
   rcases(by omega:k+1=i+1+m∨i+1+m≤k)with h5 | h5
   ·exact m3 ⟨by omega,by rw[←h5];exact h3,by rw[←h5];exact h4⟩
   ·rcases att_prev v (by omega) h2 h3 with h6 | ⟨h6,h7,h8⟩
    ·rw[h4]at h6;omega
    ·exact ih h5 (by omega) h7 (h8.trans h4)
 have lowp:∀k,k<i+1→(decide (1≤k)&&(l.getD k nd0).up==(i:Int))=false:=by
  intro k hk
  rcases(by omega:k=0∨1≤k)with h0 | h0
  ·subst h0;rfl
  ·have:=v.up k (by omega) (by omega)
   have:((l.getD k nd0).up==(i:Int))=false:=beq_eq_false_iff_ne.2 (by omega)
   rw[this,Bool.and_false]
 refine⟨m,?_,hme,m2,by omega,hme,fun hp=>?_⟩
 ·unfold attsOf
  rw[List.range_eq_range',show List.range' 0 l.length=List.range' 0 (l.length-0)from rfl,rsplit (b:=i+1) (by omega) (by omega),rsplit (a:=i+1) (b:=i+1+m) (by omega) (by omega),List.filter_append,List.filter_append]
  rw[filter_none (s:=0) fun k k1 k2=>by rw[lowp k (by omega)];rfl]
  rw[filter_all (s:=i+1) fun k k1 k2=>by
   have:=m2 k k1 (by omega)
   rw[this.1,this.2,decide_eq_true (by omega:1≤k)];simp]
  rw[filter_none (s:=i+1+m) fun k k1 k2=>by
   by_cases h2:(l.getD k nd0).kind=2
   ·have:=out k k1 (by omega) h2
    have:((l.getD k nd0).up==(i:Int))=false:=beq_eq_false_iff_ne.2 this
    rw[this];simp
   ·rw[beq_eq_false_iff_ne.2 h2];simp]
  rw[List.nil_append,List.append_nil,show i+1+m-(i+1)=m by omega]
 ·have hpl:i+1+m<l.length:=by omega
  have hu:=v.up (i+1+m) (by omega) hpl
  have hab:=v.above (i+1+m) (by omega) hpl
  have hin:=h.inn (i+1+m) (by omega) hp
  have hup:(l.getD (i+1+m) nd0).up=(i:Int):=by
   rcases(by omega:m=0∨1≤m)with h0 | h0
   ·subst h0
    have:=aboveN_le (v.upOk (by omega)) hab
    omega
   ·have hat:=m2 (i+m) (by omega) (by omega)
    have hpr:=(par_kind v (k:=i+1+m) (by omega) hpl).1
    rw[show i+1+m-1=i+m by omega]at hab
    have hle2:=aboveN_le (v.upOk (by omega)) hab
    rcases Nat.eq_or_lt_of_le hle2 with h5 | h5
    ·rw[h5,hat.1]at hpr;omega
    ·rw[aboveN_step (v.upOk (by omega)) h5,hat.2,Int.toNat_natCast]at hab
     have:=aboveN_le (v.upOk (by omega)) hab
     omega
  exact⟨hup,fun h2=>out _ (Nat.le_refl _) hpl h2 hup⟩
theorem Bd2.next {i p e e2:Nat} (h:SubE l i e) (hb:Bd2 l i p e) (hp:p<e) (h2:SubE l p e2):e2≤e∧Bd2 l i e2 e:=by
 have a1:=h.lt
 have a2:=h.le
 have b1:=h2.lt
 have b2:=h2.le
 have c1:=hb.lt
 have c2:=hb.at_ hp
 have hle:e2≤e:=by
  rcases Nat.lt_or_ge e e2 with h3 | h3
  ·have:=h2.inn e hp h3
   have:=h.out (by omega)
   omega
  ·exact h3
 refine⟨hle,by omega,hle,fun h3=>?_⟩
 have hin:=h.inn e2 (by omega) h3
 have hou:=h2.out (by omega)
 have hab:=v.above e2 (by omega) (by omega)
 have han:=h2.anc v (e2-1) (e2-1) (Nat.le_refl _) (by omega) (by omega)
 have hlo:=above_low v (a:=(l.getD e2 nd0).up.toNat) (i:=p) (by omega) (e2-1) (e2-1) (Nat.le_refl _) (by omega) hab han
 rw[aboveN_step (v.upOk (by omega)) (by omega),c2.1,Int.toNat_natCast]at hlo
 have hle2:=aboveN_le (v.upOk (by omega)) hlo
 have hup:(l.getD e2 nd0).up=(i:Int):=by omega
 refine⟨hup,fun hk=>?_⟩
 rcases att_prev v (k:=e2) (by omega) (by omega) hk with h6 | ⟨h6,h7,h8⟩
 ·rw[hup]at h6;omega
 ·rcases(by omega:e2-1=p∨p<e2-1)with h9 | h9
  ·rw[h9]at h7;exact c2.2 h7
  ·have:=h2.inn (e2-1) h9 (by omega)
   rw[h8,hup]at this
   omega
def kidsFrom (l:List Nd) (i p:Nat):List Nat:=(List.range' p (l.length-p)).filter fun k=>decide (1≤k)&&(l.getD k nd0).up==(i:Int)&&(l.getD k nd0).kind != 2
theorem kidsFrom_end {i e:Nat} (h:SubE l i e):kidsFrom l i e=[]:=filter_none fun k k1 k2=>by
 by_cases hu:(l.getD k nd0).up=(i:Int)
 ·have h1:=h.lt
  have:=(h.kid v (k:=k) (by omega) (by omega) hu).2
  omega
 ·rw[beq_eq_false_iff_ne.2 hu];simp
theorem kidsFrom_step {i p e e2:Nat} (h:SubE l i e) (hb:Bd2 l i p e) (hp:p<e) (h2:SubE l p e2):kidsFrom l i p=p::kidsFrom l i e2:=by
 have a1:=h.lt
 have a2:=h.le
 have b1:=h2.lt
 have b2:=h2.le
 have c1:=hb.lt
 have c2:=hb.at_ hp
 unfold kidsFrom
 rw[rsplit (a:=p) (b:=p+1) (c:=l.length) (by omega) (by omega),rsplit (a:=p+1) (b:=e2) (by omega) (by omega),List.filter_append,List.filter_append]
 rw[filter_all (s:=p) fun k k1 k2=>by
  have:k=p:=by omega
  subst this
  have hk:((l.getD k nd0).kind != 2)=true:=bne_iff_ne.2 c2.2
  rw[c2.1,decide_eq_true (by omega:1≤k),hk];simp]
 rw[filter_none (s:=p+1) fun k k1 k2=>by
  have:=h2.inn k (by omega) (by omega)
  have:((l.getD k nd0).up==(i:Int))=false:=beq_eq_false_iff_ne.2 (by omega)
  rw[this];simp]
 rw[show p+1-p=1 by omega]
 rfl
theorem kidsOf_from {i e m:Nat} (hi:i<l.length) (h:SubE l i e) (hm:attsOf l i=List.range' (i+1) m) (hme:i+1+m≤e) (ha:∀j,i+1≤j→j<i+1+m→(l.getD j nd0).kind=2∧(l.getD j nd0).up=(i:Int)):kidsOf l i=kidsFrom l i (i+1+m):=by
 have hle:=h.le
 unfold kidsOf kidsFrom
 rw[List.range_eq_range',show List.range' 0 l.length=List.range' 0 (l.length-0)from rfl,rsplit (b:=i+1) (by omega) (by omega),rsplit (a:=i+1) (b:=i+1+m) (by omega) (by omega),List.filter_append,List.filter_append]
 rw[filter_none (s:=0) fun k k1 k2=>by
  rcases(by omega:k=0∨1≤k)with h0 | h0
  ·subst h0;rfl
  ·have:=v.up k (by omega) (by omega)
   have:((l.getD k nd0).up==(i:Int))=false:=beq_eq_false_iff_ne.2 (by omega)
   rw[this];simp]
 rw[filter_none (s:=i+1) fun k k1 k2=>by
  rw[(ha k k1 (by omega)).1];simp]
 rfl
theorem leaf_end {p e2:Nat} (hp:p<l.length) (h1:(l.getD p nd0).kind≠1) (h0:(l.getD p nd0).kind≠0) (h2:SubE l p e2):e2=p+1:=by
 have b1:=h2.lt
 have b2:=h2.le
 rcases(by omega:e2=p+1∨p+1<e2)with h | h
 ·exact h
 ·exfalso
  have hpl:p+1<l.length:=by omega
  have hin:=h2.inn (p+1) (by omega) h
  have hu:=v.up (p+1) (by omega) hpl
  have hpr:=(par_kind v (k:=p+1) (by omega) hpl).1
  rw[show(l.getD (p+1) nd0).up.toNat=p by omega]at hpr
  omega
end
end Go.Ab
namespace Go.Ab
open Go Go.Lib
theorem kids_ind {l:List Nd} (v:ValidN l) {i e:Nat} (h:SubE l i e) {P:Nat→Prop} (h0:P e) (hs:∀p e2,Bd2 l i p e→p<e→SubE l p e2→e2≤e→Bd2 l i e2 e→P e2→P p):∀(n p:Nat),e-p≤n→Bd2 l i p e→P p
 | 0,p,hn,hb=>by
  have:=hb.le
  have:p=e:=by omega
  rw[this];exact h0
 | n+1,p,hn,hb=>by
  have:=hb.le
  rcases Nat.eq_or_lt_of_le hb.le with he | hlt
  ·rw[he];exact h0
  ·have hle:=h.le
   obtain⟨e2,h2⟩:=SubE.ex (l:=l) (i:=p) (by omega)
   obtain⟨a1,a2⟩:=hb.next v h hlt h2
   have:=h2.lt
   exact hs p e2 hb hlt h2 a1 a2 (kids_ind v h h0 hs n e2 (by omega) a2)
theorem noAdj_from {l:List Nd} (v:ValidN l) {i e:Nat} (h:SubE l i e) {p:Nat} (hb:Bd2 l i p e):noAdj l (kidsFrom l i p)=true:=by
 refine kids_ind v h (P:=fun p=>noAdj l (kidsFrom l i p)=true) ?_ ?_ e p (by omega) hb
 ·rw[kidsFrom_end v h];rfl
 ·intro p e2 hb hp h2 hle hb2 ih
  rw[kidsFrom_step v h hb hp h2]
  rcases Nat.eq_or_lt_of_le hle with he | hlt
  ·rw[he,kidsFrom_end v h];rfl
  ·have he:=h.le
   obtain⟨e3,h3⟩:=SubE.ex (l:=l) (i:=e2) (by omega)
   rw[kidsFrom_step v h hb2 hlt h3]at ih ⊢
   simp only[noAdj,Bool.and_eq_true]
   refine⟨?_,ih⟩
   rw[Bool.not_eq_true',Bool.and_eq_false_iff,beq_eq_false_iff_ne,beq_eq_false_iff_ne]
   by_cases hk:(l.getD p nd0).kind=3
   ·right
    intro hk2
    have hpl:p<l.length:=by omega
    have:=leaf_end v hpl (by omega) (by omega) h2
    subst this
    have hu:=(hb2.at_ hlt).1
    have hpl2:=v.placed (p+1) (by omega) (by omega)
    have hup:=(hb.at_ hp).1
    have hlt2:=hb.lt
    rw[hu,Int.toNat_natCast]at hpl2
    have hla:lastN l i (p+1)=p:=by rw[lastN,if_pos ⟨by omega,hup⟩]
    rw[hla]at hpl2
    unfold placedN at hpl2
    split at hpl2
    ·cases hpl2
    ·rw[if_neg (by omega),if_neg (by omega),hk,hk2]at hpl2
     cases hpl2
   ·exact .inl hk
theorem att_names {l:List Nd} (v:ValidN l) {i m:Nat} (hm:i+1+m≤l.length) (ha:∀j,i+1≤j→j<i+1+m→(l.getD j nd0).kind=2∧(l.getD j nd0).up=(i:Int)) {a b:Nat} (h1:i+1≤a) (h2:a<b) (h3:b<i+1+m):(l.getD a nd0).name≠(l.getD b nd0).name:=by
 have hp:=v.placed b (by omega) (by omega)
 have hb:=ha b (by omega) h3
 have haa:=ha a h1 (by omega)
 rw[hb.2,Int.toNat_natCast]at hp
 have hla:=lastN_max (l:=l) (u:=i) b (by omega) h2 haa.2
 unfold placedN at hp
 rw[hb.2,Int.toNat_natCast,hb.1]at hp
 split at hp
 ·cases hp
 rw[if_neg (by omega),if_pos rfl,Bool.and_eq_true,Bool.not_eq_true',List.any_eq_false]at hp
 intro he
 refine hp.2 (l.getD a nd0) ?_ (by rw[he];simp)
 have hal:a<l.length:=by omega
 rw[List.mem_drop_iff_getElem]
 refine⟨a-(i+1),?_,?_⟩
 ·simp only[List.length_take];omega
 ·rw[List.getElem_take]
  rw[nd_getD hal]
  congr 1
  omega
theorem dup_atts {l:List Nd} (v:ValidN l) {i m:Nat} (hm:i+1+m≤l.length) (ha:∀j,i+1≤j→j<i+1+m→(l.getD j nd0).kind=2∧(l.getD j nd0).up=(i:Int)):dupT [] ((List.range' (i+1) m).map (prA l))=false:=by
 rw[dupT_nodup]
 refine⟨?_,fun a _ b hb=>by cases hb⟩
 rw[List.map_map,List.Nodup,List.pairwise_map]
 refine List.Pairwise.imp_of_mem ?_ (List.pairwise_lt_range' (s:=i+1) (n:=m))
 intro a b h1 h2 hab
 rw[List.mem_range'_1]at h1 h2
 exact att_names v hm ha h1.1 hab (by omega)
theorem wrOk {l:List Nd} (v:ValidN l) (hb:∀i,1≤i→i<l.length→badAt l i=false):WrOk l:=by
 refine⟨v,hb,fun i h1 h2 hk=>?_,fun i hi=>?_⟩
 ·obtain⟨e,he⟩:=SubE.ex (l:=l) (i:=i) h2
  obtain⟨m,m1,m2,m3,m4⟩:=atts_lie v h2 he
  have:=he.le
  rw[m1]
  exact dup_atts v (by omega) m3
 ·obtain⟨e,he⟩:=SubE.ex (l:=l) (i:=i) hi
  obtain⟨m,m1,m2,m3,m4⟩:=atts_lie v hi he
  rw[kidsOf_from v hi he m1 m2 m3]
  exact noAdj_from v he m4
def stT (l:List Nd) (p o:Nat):TSt:=⟨l.take p,o,(depN l o o:Int),textSum (l.take p)⟩
theorem take_getD {l:List Nd} {p:Nat} (hp:p<l.length):l.take (p+1)=l.take p++[l.getD p nd0]:=by
 rw[List.take_succ,List.getElem?_eq_getElem hp,nd_getD hp];rfl
theorem sum_take (l:List Nd) (p:Nat):textSum (l.take p)≤textSum l:=by
 conv=>rhs;rw[←List.take_append_drop p l,textSum_app]
 omega
theorem add_st {l:List Nd} (hn:l.length≤65536) (hs:textSum l≤1048576) {p o kind:Nat} {name text:List UInt8} (hp:p<l.length) (hx:l.getD p nd0=⟨kind,name,text,o⟩) (hd:kind≠2→depN l o o<200) :
  (stT l p o).add kind name text = .ok (stT l (p+1) o):=by
 have hst:=sum_take l (p+1)
 rw[take_getD hp,textSum_app,hx]at hst
 simp only[textSum]at hst
 unfold TSt.add stT
 simp only
 rw[if_neg,take_getD hp,hx,textSum_app]
 ·simp[textSum]
 ·rintro(h | ⟨h,h'⟩ | h)
  ·rw[List.length_take]at h;omega
  ·have:=hd h;omega
  ·omega
theorem attrs_st {l:List Nd} (hn:l.length≤65536) (hs:textSum l≤1048576) {o:Nat}:∀(m p:Nat),p+m≤l.length→(∀j,p≤j→j<p+m→(l.getD j nd0).kind=2∧(l.getD j nd0).up=(o:Int)) →
  attrsT ((List.range' p m).map (prA l)) (stT l p o) = .ok (stT l (p+m) o)
 | 0,p,_,_=>rfl
 | m+1,p,h1,h2=>by
  have hp:=h2 p (Nat.le_refl _) (by omega)
  rw[List.range'_succ,List.map_cons,attrsT]
  have hx:l.getD p nd0=⟨2,(prA l p).1,(prA l p).2,(o:Int)⟩:=by rw[←hp.1,←hp.2];rfl
  rw[add_st hn hs (by omega) hx (fun h=>absurd rfl h)]
  have:=attrs_st hn hs m (p+1) (by omega) fun j j1 j2=>h2 j (by omega) (by omega)
  rw[show p+1+m=p+(m+1) by omega]at this
  exact this
theorem fold_kids {l:List Nd} (v:ValidN l) {f i e:Nat} (h:SubE l i e) (ih:∀p e2,Bd2 l i p e→p<e→SubE l p e2→foldT (evN l f p) (stT l p i) = .ok (stT l e2 i)) {p:Nat} (hb:Bd2 l i p e):foldT ((kidsFrom l i p).flatMap (evN l f)) (stT l p i) = .ok (stT l e i):=by
 refine kids_ind v h (P:=fun p=>foldT ((kidsFrom l i p).flatMap (evN l f)) (stT l p i) = .ok (stT l e i)) ?_ ?_ e p (by omega) hb
 ·rw[kidsFrom_end v h];rfl
 ·intro p e2 hb hp h2 hle hb2 ih2
  rw[kidsFrom_step v h hb hp h2,List.flatMap_cons,foldT_app,ih p e2 hb hp h2]
  exact ih2
theorem fold_node {l:List Nd} (W:WrOk l) (hs:textSum l≤1048576):∀(f i e:Nat),1≤i→i<l.length→l.length-i≤f→(l.getD i nd0).kind≠2→SubE l i e→foldT (evN l f i) (stT l i (l.getD i nd0).up.toNat) = .ok (stT l e (l.getD i nd0).up.toNat)
 | 0,i,e,h1,h2,h3,_,_=>by omega
 | f+1,i,e,h1,h2,h3,hk2,he=>by
  have v:=W.v
  have hn:=v.len
  have hkd:=v.kind i h2
  have hdoc:=v.doc i (by omega) h2
  have hall:=v.allowed i h2
  have hall0:=hall
  have hu:=v.up i (by omega) h2
  have hdp:=v.deep i (by omega) h2 hk2
  rw[depN_step (v.upOk h2) (by omega)]at hdp
  have hpr:=(par_kind v h1 h2).1
  obtain⟨o,ho⟩:∃o:Nat,(l.getD i nd0).up=o:=⟨(l.getD i nd0).up.toNat,by omega⟩
  rw[ho,Int.toNat_natCast]at hdp hpr ⊢
  have hx:∀k n t,(l.getD i nd0).kind=k→(l.getD i nd0).name=n→(l.getD i nd0).text=t→l.getD i nd0=⟨k,n,t,(o:Int)⟩:=fun k n t h1 h2 h3=>by rw[←h1,←h2,←h3,←ho]
  unfold allowedS at hall
  rcases(by omega:(l.getD i nd0).kind=1∨(l.getD i nd0).kind=3∨(l.getD i nd0).kind=4∨(l.getD i nd0).kind=5)with hk | hk | hk | hk
  ·obtain⟨m,m1,m2,m3,m4⟩:=atts_lie v h2 he
   have hle:=he.le
   have hdup:=W.dup i h1 h2 hk
   rw[hk]at hall hall0
   simp only[Bool.and_eq_true,beq_iff_eq]at hall
   rw[hall.2.2]at hall0
   have hal:(((attsOf l i).map (prA l)).all fun a=>allowedS 2 a.1 a.2)=true:=by
    rw[List.all_eq_true]
    intro a ha
    obtain⟨k,hka,rfl⟩:=List.mem_map.1 ha
    have hka:=attsOf_lt hka
    have:=v.allowed k hka.1
    rw[hka.2.2.2]at this
    exact this
   have hstart:eventT (stT l i o) ⟨0,(l.getD i nd0).name,[],(attsOf l i).map (prA l),0,0⟩ = .ok (stT l (i+1+m) i):=by
    have hi:(stT l i o).l.length=i:=by unfold stT;simp only[List.length_take];omega
    have hd2:depN l i i=depN l o o+1:=by rw[depN_step (v.upOk h2) (by omega),ho,Int.toNat_natCast]
    show startT _ _=_
    unfold startT
    simp only
    rw[if_neg (by rw[hall0];simp),if_neg (by rw[hal];simp),if_neg (by rw[hdup];simp),add_st hn hs h2 (hx 1 _ [] hk rfl hall.2.2) (fun _=>by omega),m1]
    have:=attrs_st hn hs (o:=i) m (i+1) (by omega) m3
    rw[←this]
    congr 1
    unfold stT at hi ⊢
    simp only at hi ⊢
    rw[hi,hd2]
    simp
   have hend:∀x:Ev,x=⟨1,(l.getD i nd0).name,[],[],0,0⟩→eventT (stT l e i) x = .ok (stT l e o):=by
    rintro x rfl
    have hcur:(stT l e i).cur=l.getD i nd0:=by
     unfold TSt.cur stT
     simp only
     rw[List.getD_eq_getElem?_getD,List.getD_eq_getElem?_getD,List.getElem?_take,if_pos (by have:=he.lt;omega)]
    show endT _ _=_
    unfold endT
    simp only[hcur]
    rw[if_neg (by rw[hall.2.1];simp),if_neg (by rintro(h | h);exact h hk;exact h rfl),ho,Int.toNat_natCast]
    unfold stT
    simp only
    rw[depN_step (v.upOk h2) (by omega),ho,Int.toNat_natCast]
    congr 2
    omega
   simp only[evN,hk]
   rw[foldT_app,foldT_app,foldT,hstart]
   simp only[foldT]
   rw[kidsOf_from v h2 he m1 m2 m3,fold_kids v he (fun p e2 hb hp h2'=>?_) m4]
   ·simp only[hend _ rfl]
   ·have hup:=hb.at_ hp
    have hlt:=hb.lt
    have:=fold_node W hs f p e2 (by omega) (by omega) (by omega) hup.2 h2'
    rw[hup.1,Int.toNat_natCast]at this
    exact this
  ·have:=leaf_end v h2 (by omega) (by omega) he
   subst this
   rw[hk]at hall
   simp only[Bool.and_eq_true,bne_iff_ne,ne_eq,beq_iff_eq]at hall
   simp only[evN,hk,foldT,eventT,textT]
   rw[if_neg (by rw[hall.1];simp),if_neg hall.2.2,if_neg,add_st hn hs h2 (hx 3 [] _ hk hall.2.1 rfl) (fun _=>by omega)]
   rintro⟨a1,a2⟩
   have hl:(stT l i o).last=l.getD (i-1) nd0:=by
    unfold TSt.last stT
    simp only
    rw[List.length_take,Nat.min_eq_left (by omega)]
    rw[List.getD_eq_getElem?_getD,List.getD_eq_getElem?_getD,List.getElem?_take,if_pos (by omega)]
   rw[hl]at a1 a2
   have a2:(l.getD (i-1) nd0).up=(o:Int):=a2
   have hpl:=v.placed i (by omega) h2
   rw[ho,Int.toNat_natCast]at hpl
   have h01:1≤i-1:=by
    rcases(by omega:i-1=0∨1≤i-1)with h | h
    ·rw[h,v.up0]at a2;omega
    ·exact h
   have hla:lastN l o i=i-1:=by
    obtain⟨j,rfl⟩:∃j,i=j+1:=⟨i-1,by omega⟩
    rw[lastN,if_pos ⟨h01,a2⟩];rfl
   rw[hla]at hpl
   unfold placedN at hpl
   split at hpl
   ·cases hpl
   ·rw[if_neg (by omega:¬(i-1=0)),hk,a1]at hpl
    simp at hpl
  ·have:=leaf_end v h2 (by omega) (by omega) he
   subst this
   rw[hk]at hall hall0
   simp only[Bool.and_eq_true,beq_iff_eq]at hall
   simp only[evN,hk,foldT,eventT,otherT]
   rw[hall.2.1.1]at hall0
   rw[if_neg (by rw[hall0];simp),add_st hn hs h2 (hx 4 [] _ hk hall.2.1.1 rfl) (fun _=>by omega)]
  ·have:=leaf_end v h2 (by omega) (by omega) he
   subst this
   rw[hk]at hall0
   simp only[evN,hk,foldT,eventT,otherT]
   rw[if_neg (by rw[hall0];simp),add_st hn hs h2 (hx 5 _ _ hk rfl rfl) (fun _=>by omega)]
theorem fold_doc {l:List Nd} (W:WrOk l) (hs:textSum l≤1048576) (hroot:l.getD 0 nd0=nd0):foldT ((kidsOf l 0).flatMap (evN l l.length)) t0T = .ok (stT l l.length 0):=by
 have v:=W.v
 have hl:=v.len0
 obtain⟨e,he⟩:=SubE.ex (l:=l) (i:=0) (by omega)
 have hel:e=l.length:=by
  have:=he.le
  rcases Nat.eq_or_lt_of_le this with h | h
  ·exact h
  ·have:=he.out h
   have:=v.up e (by have:=he.lt;omega) h
   omega
 subst hel
 obtain⟨m,m1,m2,m3,m4⟩:=atts_lie v (by omega) he
 have hm0:m=0:=by
  rcases(by omega:m=0∨1≤m)with h | h
  ·exact h
  ·have h3:=m3 1 (by omega) (by omega)
   have h4:=(par_kind v (k:=1) (by omega) (by omega)).2 h3.1
   rw[h3.2,Int.toNat_natCast,hroot]at h4
   cases h4
 subst hm0
 have h1:t0T=stT l 1 0:=by
  unfold t0T stT
  have:l.take 1=[nd0]:=by rw[take_getD (by omega),hroot];rfl
  rw[this]
  rfl
 rw[kidsOf_from v (by omega) he m1 m2 m3,h1]
 refine fold_kids v he (fun p e2 hb hp h2=>?_) m4
 have hup:=hb.at_ hp
 have hlt:=hb.lt
 have:=fold_node W hs l.length p e2 (by omega) (by omega) (by omega) hup.2 h2
 rw[hup.1]at this
 exact this
end Go.Ab
namespace Go.Ab
open Go Go.Lib
def nmSum (l:List Nd):Nat:=(l.map fun x=>x.name.length).sum
def ndC (x:Nd):Nat:=2*x.name.length+6*x.text.length+12
def costN (l:List Nd) (p:Nat):Nat:=((l.take p).map ndC).sum
theorem cost_step {l:List Nd} {p:Nat} (hp:p<l.length):costN l (p+1)=costN l p+ndC (l.getD p nd0):=by
 unfold costN
 rw[take_getD hp,List.map_append,List.sum_append]
 simp
theorem cost_all:∀(l:List Nd),(l.map ndC).sum=2*nmSum l+6*textSum l+12*l.length
 | []=>rfl
 | x::l=>by
  rw[List.map_cons,List.sum_cons,cost_all l]
  simp only[nmSum,List.map_cons,List.sum_cons,textSum,List.length_cons,ndC]
  omega
theorem esc_len (attr:Bool):∀s:List UInt8,(escS attr s).length≤6*s.length
 | []=>Nat.le_refl _
 | b::s=>by
  have ih:=esc_len attr s
  have h:(escB attr b).length≤6:=by
   unfold escB
   repeat' split
   all_goals simp
  have:escS attr (b::s)=escB attr b++escS attr s:=rfl
  rw[this,List.length_append,List.length_cons]
  omega
theorem cost_atts {l:List Nd}:∀(m p:Nat),p+m≤l.length→((List.range' p m).flatMap (atS l)).length+costN l p≤costN l (p+m)
 | 0,p,_=>by simp
 | m+1,p,h=>by
  have ih:=cost_atts (l:=l) m (p+1) (by omega)
  rw[show p+1+m=p+(m+1) by omega,cost_step (by omega)]at ih
  rw[List.range'_succ,List.flatMap_cons,List.length_append]
  have he:=esc_len true (l.getD p nd0).text
  have:(atS l p).length≤ndC (l.getD p nd0):=by
   unfold atS ndC
   simp only[List.length_append]
   split
   ·simp only[List.length_cons,List.length_nil];omega
   ·simp only[List.length_append,List.length_cons,List.length_nil];omega
  omega
theorem cost_kids {l:List Nd} (v:ValidN l) {f i e:Nat} (h:SubE l i e) (ih:∀p e2,Bd2 l i p e→p<e→SubE l p e2→(wrN l f p).length+costN l p≤costN l e2) {p:Nat} (hb:Bd2 l i p e):((kidsFrom l i p).flatMap (wrN l f)).length+costN l p≤costN l e:=by
 refine kids_ind v h (P:=fun p=>((kidsFrom l i p).flatMap (wrN l f)).length+costN l p≤costN l e) ?_ ?_ e p (by omega) hb
 ·rw[kidsFrom_end v h];simp
 ·intro p e2 hb hp h2 hle hb2 ih2
  have:=ih p e2 hb hp h2
  rw[kidsFrom_step v h hb hp h2,List.flatMap_cons,List.length_append]
  omega
theorem cost_node {l:List Nd} (v:ValidN l):∀(f i e:Nat),1≤i→i<l.length→l.length-i≤f→(l.getD i nd0).kind≠2→SubE l i e→(wrN l f i).length+costN l i≤costN l e
 | 0,i,e,h1,h2,h3,_,_=>by omega
 | f+1,i,e,h1,h2,h3,hk2,he=>by
  have hkd:=v.kind i h2
  have hdoc:=v.doc i (by omega) h2
  have hst:=cost_step h2
  rcases(by omega:(l.getD i nd0).kind=1∨(l.getD i nd0).kind=3∨(l.getD i nd0).kind=4∨(l.getD i nd0).kind=5)with hk | hk | hk | hk
  ·obtain⟨m,m1,m2,m3,m4⟩:=atts_lie v h2 he
   have hle:=he.le
   have ha:=cost_atts (l:=l) m (i+1) (by omega)
   have hkk:=cost_kids v he (f:=f) (fun p e2 hb hp h2'=>by
    have hup:=hb.at_ hp
    have hlt:=hb.lt
    exact cost_node v f p e2 (by omega) (by omega) (by omega) hup.2 h2') m4
   simp only[wrN,hk,m1,kidsOf_from v h2 he m1 m2 m3]
   unfold ndC at hst
   simp only[List.length_append,List.length_cons,List.length_nil]
   split
   ·simp only[List.length_nil];omega
   ·simp only[List.length_append,List.length_cons,List.length_nil];omega
  all_goals
   have:=leaf_end v h2 (by omega) (by omega) he
   subst this
   have h6:=esc_len false (l.getD i nd0).text
   unfold ndC at hst
   simp only[wrN,hk]
  ·split<;>omega
  ·simp only[List.length_append,List.length_cons,List.length_nil];omega
  ·simp only[List.length_append,List.length_cons,List.length_nil]
   split
   ·simp only[List.length_nil];omega
   ·simp only[List.length_append,List.length_cons,List.length_nil];omega
end Go.Ab
