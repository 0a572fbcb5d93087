/- strings.ContainsAny of a text and two bytes of ASCII, walked where the shelf has no contract. The start, with strings' table of white space. -/
import Derived.Test.YtojncnpmlhhccaaGreatDoorXC
import Derived.Test.YtojncnpmlhhccaaGreatDoorSWC
import Derived.Test.YtojncnpmlhhccaaGreatDoorShelfT
set_option linter.all false
namespace Go.Ab
open Go Go.Lib Go.Proofs Go.RowKit
theorem validRune_ok (G:Nat→Option (List AV)) {c:Nat} (h:c<55296∨57343<c∧c≤1114111):PureCall Tryz.prog G 166 [.int .i32 c] (.bool true):=by
 intro H
 refine ACalls.keep (ACalls.of Tryz.func166 S166_eq R166 N166 rfl rfl ?_)
 have d0:decide ((0:Int)≤(c:Int))=true:=decide_eq_true (by omega)
 rcases h with h | h
 ·have d1:decide ((c:Int)<55296)=true:=decide_eq_true (by omega)
  simp (maxSteps:=400000) only[wF,storeA,reduceCtorEq,Nat.reduceAdd,Nat.reduceSub,Nat.reduceEqDiff,Nat.reduceLeDiff,Int.reduceToNat,Int.reduceLE,Int.reduceLT,Int.reduceAdd,Int.reduceNeg,Nat.reduceMul,S166,N166,R166,T166,d0,d1]
  first | exact⟨rfl,Nat.le_refl _,fun _ _=>rfl⟩ | exact⟨Nat.le_refl _,fun _ _=>trivial⟩
 ·have d1:decide ((c:Int)<55296)=false:=decide_eq_false (by omega)
  have d2:decide ((57343:Int)<(c:Int))=true:=decide_eq_true (by omega)
  have d3:decide ((c:Int)≤1114111)=true:=decide_eq_true (by omega)
  simp (maxSteps:=400000) only[wF,storeA,reduceCtorEq,Nat.reduceAdd,Nat.reduceSub,Nat.reduceEqDiff,Nat.reduceLeDiff,Int.reduceToNat,Int.reduceLE,Int.reduceLT,Int.reduceAdd,Int.reduceNeg,Nat.reduceMul,S166,N166,R166,T166,d0,d1,d2,d3]
  first | exact⟨rfl,Nat.le_refl _,fun _ _=>rfl⟩ | exact⟨Nat.le_refl _,fun _ _=>trivial⟩
def wsB:List UInt8:=[13,62]
theorem enc_hi {c:Nat} (h:128≤c) (hc:c<55296∨57343<c∧c≤1114111):(∃x y,(Utf8.encode (c:Int)).data.toList=[x,y]∧128≤y.toNat)∨(3≤(Utf8.encode (c:Int)).data.toList.length∧(Utf8.encode (c:Int)).data.toList.length≤4):=by
 have hv:Utf8.valid (c:Int)=true:=by
  unfold Utf8.valid
  rcases hc with hc | hc
  ·rw[decide_eq_true (show(0:Int)≤c by omega),decide_eq_true (show(c:Int)<0xD800 by omega)];rfl
  ·rw[decide_eq_true (show(0xE000:Int)≤c by omega),decide_eq_true (show(c:Int)≤0x10FFFF by omega)];simp
 unfold Utf8.encode
 simp only[hv,if_true,Int.toNat_natCast]
 by_cases h1:c<2048
 ·refine .inl ⟨_,UInt8.ofNat (128+c % 64),by rw[if_neg (by omega),if_pos h1],?_⟩
  rw[UInt8.toNat_ofNat']
  omega
 ·rw[if_neg (by omega),if_neg h1]
  by_cases h2:c<65536
  ·rw[if_pos h2];exact .inr ⟨by simp,by simp⟩
  ·rw[if_neg h2];exact .inr ⟨by simp,by simp⟩
theorem dec_wsB:∀i:Fin 2,Utf8.decode ⟨wsB.toArray⟩ i.val=((wsB.getD i.val 0).toNat,1):=by decide
theorem wsB_ne:∀i:Fin 2,(((wsB.getD i.val 0).toNat:Int)==65533)=false:=by decide
theorem indexRuneB_lo (G:Nat→Option (List AV)) {b:UInt8} (h:b.toNat<128):PureCall Tryz.prog G 149 [.str wsB,.int .i32 b.toNat] (.int .i64 (Lib.indexByte wsB b)):=
 PureCall.shelf (vs:=[.string ⟨wsB.toArray⟩,.int .i32 b.toNat]) rfl (fun C => .int _ _) fun C w R=>
  (Tryz.strings_IndexRune_ascii ⟨wsB.toArray⟩ b.toNat w (by omega) (by omega)).mono fun e w' ⟨h1,h2⟩=>⟨by simpa using h1,h2▸Below.refl _ _⟩
set_option maxHeartbeats 4000000 in
set_option maxRecDepth 100000 in
theorem indexRuneB_bad (G:Nat→Option (List AV)):PureCall Tryz.prog G 149 [.str wsB,.int .i32 65533] (.int .i64 (-1)):=by
 intro H
 refine ACalls.keep (ACalls.of Tryz.func149 S149_eq R149 N149 rfl rfl ?_)
 have d0:decide ((0:Int)≤65533)=true:=by decide
 have d1:decide ((65533:Int)<128)=false:=by decide
 have e0:((65533:Int)==65533)=true:=rfl
 simp (maxSteps:=400000) only[wF,storeA,reduceCtorEq,Nat.reduceAdd,Nat.reduceSub,Nat.reduceEqDiff,Nat.reduceLeDiff,Int.reduceToNat,Int.reduceLE,Int.reduceLT,Int.reduceAdd,Int.reduceNeg,Nat.reduceMul,S149,N149,R149,T149,d0,d1,e0]
 refine ATrS.loopK (κ:=Nat) (fun i=>List.replicate 175 .und++[.ptr H.next 0]++List.replicate 11 .und) (fun i=>H.allocAt H.next (.iter wsB i))
  (fun i=>i≤2) (fun i=>2-i) ⟨0,Nat.zero_le _,by simp[Fg],HW.refl _⟩ ?_
 intro i hi
 have hg:(H.allocAt H.next (AObj.iter wsB i)).get H.next=some (.iter wsB i):=AHeap.get_allocAt_same _ _ _
 have hs:∀k,(H.allocAt H.next (AObj.iter wsB i)).set H.next (.iter wsB k)=H.allocAt H.next (.iter wsB k):=fun k=>by
  simp only[AHeap.set,AHeap.allocAt,AHeap.mk.injEq,true_and]
  funext j
  split<;>rfl
 have hl:wsB.length=2:=rfl
 by_cases hlt:i<2
 ·have hd:=dec_wsB ⟨i,hlt⟩
  have hn:=wsB_ne ⟨i,hlt⟩
  have q:(i<wsB.length)=True:=by simp[hl,hlt]
  simp only at hd hn
  simp (maxSteps:=400000) only[wF,storeA,reduceCtorEq,Nat.reduceAdd,Nat.reduceSub,Nat.reduceEqDiff,Nat.reduceLeDiff,Int.reduceToNat,Int.reduceLE,Int.reduceLT,Int.reduceAdd,Int.reduceNeg,Nat.reduceMul,T149,nextA,hg,q,hd,hn,hs]
  exact⟨i+1,hlt,by omega,by simp[Fg],HW.refl _⟩
 ·have q:(i<wsB.length)=False:=by simp[hl];omega
  simp (maxSteps:=400000) only[wF,storeA,reduceCtorEq,Nat.reduceAdd,Nat.reduceSub,Nat.reduceEqDiff,Nat.reduceLeDiff,Int.reduceToNat,Int.reduceLE,Int.reduceLT,Int.reduceAdd,Int.reduceNeg,Nat.reduceMul,T149,nextA,hg,q]
  exact⟨by omega,fun j hj=>by rw[if_neg (by omega)]⟩
set_option maxHeartbeats 4000000 in
set_option maxRecDepth 100000 in
theorem indexRuneB_hi {G:Nat→Option (List AV)} (E:Env G) {c:Nat} (h0:128≤c) (h:c<55296∨57343<c∧c≤1114111):PureCall Tryz.prog G 149 [.str wsB,.int .i32 c] (.int .i64 (-1)):=by
 by_cases hb:c=65533
 ·subst hb;exact indexRuneB_bad G
 intro H
 refine ACalls.keep (ACalls.of Tryz.func149 S149_eq R149 N149 rfl rfl ?_)
 have d0:decide ((0:Int)≤(c:Int))=true:=decide_eq_true (by omega)
 have d1:decide ((c:Int)<128)=false:=decide_eq_false (by omega)
 have e0:((c:Int)==65533)=false:=by rw[beq_eq_false_iff_ne];omega
 simp (maxSteps:=400000) only[wF,storeA,reduceCtorEq,Nat.reduceAdd,Nat.reduceSub,Nat.reduceEqDiff,Nat.reduceLeDiff,Int.reduceToNat,Int.reduceLE,Int.reduceLT,Int.reduceAdd,Int.reduceNeg,Nat.reduceMul,S149,N149,R149,T149,d0,d1,e0]
 refine AInv.pureK B166 (validRune_ok G h) fun H1 h1=>?_
 simp (maxSteps:=400000) only[wF,storeA,reduceCtorEq,Nat.reduceAdd,Nat.reduceSub,Nat.reduceEqDiff,Nat.reduceLeDiff,Int.reduceToNat,Int.reduceLE,Int.reduceLT,Int.reduceAdd,Int.reduceNeg,Nat.reduceMul,T149,Bool.not_true]
 have hE:=enc_hi h0 h
 generalize hrs:(Utf8.encode (c:Int)).data.toList=rs at hE
 have t9:intT Tryz.prog 9=none:=by kernel_rfl
 rcases hE with ⟨x,y,rfl,hy⟩ | ⟨g1,g2⟩
 ·have e1:IntKind.i64.wrap (((2:Nat):Int)-1)=1:=by decide
  have l2:decide ((1:Int)<((wsB.length:Nat):Int))=true:=by decide
  simp (maxSteps:=400000) only[wF,storeA,reduceCtorEq,Nat.reduceAdd,Nat.reduceSub,Nat.reduceEqDiff,Nat.reduceLeDiff,Int.reduceToNat,Int.reduceLE,Int.reduceLT,Int.reduceAdd,Int.reduceNeg,Nat.reduceMul,T149,convA,hrs,t9,e1]
  refine ATrS.loop0 ?_
  simp (maxSteps:=400000) only[wF,storeA,reduceCtorEq,Nat.reduceAdd,Nat.reduceSub,Nat.reduceEqDiff,Nat.reduceLeDiff,Int.reduceToNat,Int.reduceLE,Int.reduceLT,Int.reduceAdd,Int.reduceNeg,Nat.reduceMul,T149,l2]
  refine drawW_fixed mixedOrders L149_6_eq P149_6_eq ?_
  have w1:wsB[1]?=some 62:=rfl
  have n1:((((62:UInt8).toNat:Nat):Int) != (y.toNat:Int))=true:=by
   have:(62:UInt8).toNat=62:=rfl
   rw[bne_iff_ne,this];omega
  have e2:IntKind.i64.wrap 2=2:=by decide
  have z2:((2:Int)).toNat=2:=rfl
  have q2:((2:Int)≤((wsB.length:Nat):Int))=True:=eq_true (by decide)
  have hd2:wsB.drop 2=[]:=rfl
  have hib:Lib.indexByte [] y = -1:=rfl
  have d2:decide ((-1:Int)<0)=true:=by decide
  simp (maxSteps:=400000) only[wF,storeA,reduceCtorEq,Nat.reduceAdd,Nat.reduceSub,Nat.reduceEqDiff,Nat.reduceLeDiff,Int.reduceToNat,Int.reduceLE,Int.reduceLT,Int.reduceAdd,Int.reduceNeg,Nat.reduceMul,L149_6,T149,w1,n1]
  refine drawW_ok (ex:=false) mixedOrders L149_7_eq P149_7_eq ?_
  simp (maxSteps:=400000) only[wF,storeA,reduceCtorEq,Nat.reduceAdd,Nat.reduceSub,Nat.reduceEqDiff,Nat.reduceLeDiff,Int.reduceToNat,Int.reduceLE,Int.reduceLT,Int.reduceAdd,Int.reduceNeg,Nat.reduceMul,L149_7,T149,e2,q2,z2,hd2]
  refine callW.pure E.indexByteB (E.indexByte [] y) ?_
  rw[hib]
  simp (maxSteps:=400000) only[wF,storeA,reduceCtorEq,Nat.reduceAdd,Nat.reduceSub,Nat.reduceEqDiff,Nat.reduceLeDiff,Int.reduceToNat,Int.reduceLE,Int.reduceLT,Int.reduceAdd,Int.reduceNeg,Nat.reduceMul,T149,d2]
  have hp:=h1.post
  exact fun m hm=>⟨by omega,hp.2⟩
 ·have e1:IntKind.i64.wrap (((rs.length:Nat):Int)-1)=((rs.length-1:Nat):Int):=by rw[wrap64]<;>omega
  have l2:decide (((rs.length-1:Nat):Int)<((wsB.length:Nat):Int))=false:=decide_eq_false (by show ¬_<((2:Nat):Int);omega)
  simp (maxSteps:=400000) only[wF,storeA,reduceCtorEq,Nat.reduceAdd,Nat.reduceSub,Nat.reduceEqDiff,Nat.reduceLeDiff,Int.reduceToNat,Int.reduceLE,Int.reduceLT,Int.reduceAdd,Int.reduceNeg,Nat.reduceMul,T149,convA,hrs,t9,e1]
  refine ATrS.loop0 ?_
  simp (maxSteps:=400000) only[wF,storeA,reduceCtorEq,Nat.reduceAdd,Nat.reduceSub,Nat.reduceEqDiff,Nat.reduceLeDiff,Int.reduceToNat,Int.reduceLE,Int.reduceLT,Int.reduceAdd,Int.reduceNeg,Nat.reduceMul,T149,l2]
  first | exact⟨rfl,h1.post⟩ | exact h1.post
def AnyAt (s:List UInt8) (k:Nat) (H:AHeap) (x:Nat × AHeap):Prop:=x.1≤s.length∧x.2.get k=some (.iter s x.1)∧H.next≤x.2.next∧(∀j,j<H.next→x.2.get j=H.get j)∧Lib.NoAny s wsB x.1∧isTextS (s.drop x.1)=true
set_option maxHeartbeats 4000000 in
set_option maxRecDepth 100000 in
theorem indexAnyB_ok {G:Nat→Option (List AV)} (E:Env G) {s:List UInt8} (hs:s.length≤8) (ht:isTextS s=true):PureCall Tryz.prog G 125 [.str s,.str wsB] (.int .i64 (Lib.indexAny s wsB)):=by
 intro H
 refine ACalls.keep (ACalls.of Tryz.func125 S125_eq R125 N125 rfl rfl ?_)
 have e0:(wsB==[])=false:=by decide
 have e1:(((wsB.length:Nat):Int)==1)=false:=by decide
 simp (maxSteps:=400000) only[wF,storeA,reduceCtorEq,Nat.reduceAdd,Nat.reduceSub,Nat.reduceEqDiff,Nat.reduceLeDiff,Int.reduceToNat,Int.reduceLE,Int.reduceLT,Int.reduceAdd,Int.reduceNeg,Nat.reduceMul,S125,N125,R125,T125,e0,e1]
 refine AInv.pureK B150 (useSet_ok G s.length hs) fun H1 h1=>?_
 have p1:=h1.1
 simp (maxSteps:=400000) only[wF,storeA,reduceCtorEq,Nat.reduceAdd,Nat.reduceSub,Nat.reduceEqDiff,Nat.reduceLeDiff,Int.reduceToNat,Int.reduceLE,Int.reduceLT,Int.reduceAdd,Int.reduceNeg,Nat.reduceMul,T125]
 refine ATrS.loopK (κ:=Nat × AHeap) (fun x=>[.str s,.str wsB]++List.replicate 43 .und++[.ptr H1.next 0]++List.replicate 9 .und) (fun x=>x.2)
  (AnyAt s H1.next H) (fun x=>s.length-x.1) ⟨(0,_),⟨Nat.zero_le _,AHeap.get_allocAt_same _ _ _,by simp only[AHeap.next_allocAt];omega,fun j hj=>by show(if j=H1.next then _ else H1.get j)=_;rw[if_neg (by omega),h1.2],Lib.NoAny.zero _ _,ht⟩,by simp[Fg],HW.refl _⟩ ?_
 rintro⟨i,J⟩ ⟨hi,hg,hn,hJ,hno,htx⟩
 simp only at hi hg hn hJ hno htx
 by_cases hlt:i<s.length
 case neg=>
  have q:(i<s.length)=False:=by simp;omega
  have hie:i=s.length:=by omega
  subst hie
  have hr:=Lib.indexAny_none hno
  simp (maxSteps:=400000) only[wF,storeA,reduceCtorEq,Nat.reduceAdd,Nat.reduceSub,Nat.reduceEqDiff,Nat.reduceLeDiff,Int.reduceToNat,Int.reduceLE,Int.reduceLT,Int.reduceAdd,Int.reduceNeg,Nat.reduceMul,T125,nextA,hg,q]
  rw[hr]
  first | exact⟨rfl,hn,hJ⟩ | exact⟨hn,hJ⟩
 have q:(i<s.length)=True:=by simp;omega
 have hne:s.drop i≠[]:=by simp;omega
 have hcons:=List.drop_eq_getElem_cons hlt
 have hgi:s[i]?=some s[i]:=List.getElem?_eq_getElem hlt
 rw[isTextS_step hne,Bool.and_eq_true]at htx
 rw[hcons]at htx
 generalize hb:s[i]=b at htx hcons hgi
 by_cases hlo:b.toNat<128
 ·have hd:dec (b::s.drop (i+1))=(b.toNat,1):=dec_ascii hlo
  rw[hd]at htx
  have hd0:decide ((-1:Int)≥0)=false:=by decide
  simp (maxSteps:=400000) only[wF,storeA,reduceCtorEq,Nat.reduceAdd,Nat.reduceSub,Nat.reduceEqDiff,Nat.reduceLeDiff,Int.reduceToNat,Int.reduceLE,Int.reduceLT,Int.reduceAdd,Int.reduceNeg,Nat.reduceMul,T125,nextA,hg,q,dec_at,hcons,hd]
  refine AInv.pureK B149 (indexRuneB_lo G hlo) fun J1 j1=>?_
  have p2:=j1.1
  by_cases hm:wsB.contains b=true
  ·have hge:decide (Lib.indexByte wsB b≥0)=true:=decide_eq_true (by
    rcases(by simpa[wsB]using hm:b=13∨b=62)with rfl | rfl<;>decide)
   simp (maxSteps:=400000) only[wF,storeA,reduceCtorEq,Nat.reduceAdd,Nat.reduceSub,Nat.reduceEqDiff,Nat.reduceLeDiff,Int.reduceToNat,Int.reduceLE,Int.reduceLT,Int.reduceAdd,Int.reduceNeg,Nat.reduceMul,T125,hge]
   rw[Lib.indexAny_hit hno hgi hm]
   have fin:H.next≤J1.next∧∀k,k<H.next→J1.get k=H.get k:=⟨by simp only[AHeap.next_set]at p2;omega,fun k hk=>by rw[j1.2,AHeap.get_set_ne _ _ (by omega)];exact hJ k hk⟩
   first | exact⟨rfl,fin⟩ | exact fin
  ·have hm:wsB.contains b=false:=Bool.eq_false_iff.2 hm
   have hge:Lib.indexByte wsB b = -1:=by
    have h13:b≠13:=fun e=>by subst e;exact absurd hm (by decide)
    have h62:b≠62:=fun e=>by subst e;exact absurd hm (by decide)
    simp[Lib.indexByte,wsB,h13.symm,h62.symm,h13,h62]
   rw[hge]
   simp (maxSteps:=400000) only[wF,storeA,reduceCtorEq,Nat.reduceAdd,Nat.reduceSub,Nat.reduceEqDiff,Nat.reduceLeDiff,Int.reduceToNat,Int.reduceLE,Int.reduceLT,Int.reduceAdd,Int.reduceNeg,Nat.reduceMul,T125,hd0]
   refine⟨(i+1,J1),⟨by simp only;omega,by simp only;rw[j1.2,AHeap.get_set_same],by simp only[AHeap.next_set]at p2 ⊢;omega,fun k hk=>by simp only;rw[j1.2,AHeap.get_set_ne _ _ (by omega)];exact hJ k hk,hno.succ hgi hm,?_⟩,by simp only;omega,by simp[Fg],HW.refl _⟩
   simpa using htx.2
 ·have hhi:128≤b.toNat:=by omega
  have hd0:decide ((-1:Int)≥0)=false:=by decide
  have hge:128≤(dec (b::s.drop (i+1))).1:=by
   have hN:=Lib.decodeL_N (b::s.drop (i+1))
   simp only[List.getD_cons_zero]at hN
   rw[show dec (b::s.drop (i+1))=Lib.decodeL (b::s.drop (i+1))from rfl,hN]
   exact decN_hi _ _ _ _ _ hhi
  have hch:isCharS ((dec (b::s.drop (i+1))).1:Int)=true:=by
   have:=htx.1
   unfold headTextS at this
   simp only[Bool.and_eq_true]at this
   exact this.1
  rw[isCharS_iff]at hch
  have hval:(dec (b::s.drop (i+1))).1<55296∨57343<(dec (b::s.drop (i+1))).1∧(dec (b::s.drop (i+1))).1≤1114111:=by omega
  have hsplit:=dec_split (s.drop (i+1)) hhi
  have hbytes:∀j x,i≤j→j<i+(dec (b::s.drop (i+1))).2→s[j]?=some x→128≤x.toNat:=by
   intro j x hj1 hj2 hx
   rcases hsplit with h1 | ⟨c,m,h2,h3,h4,h5,h6⟩
   ·rw[h1]at hj2
    have:j=i:=by simp only at hj2;omega
    subst this
    rw[hgi]at hx;cases hx;exact hhi
   ·rw[h5]at hj2
    by_cases hji:j=i
    ·subst hji;rw[hgi]at hx;cases hx;exact hhi
    ·have hx2:(s.drop (i+1))[j-(i+1)]?=some x:=by rw[List.getElem?_drop,←hx];congr 1;omega
     rw[h2,List.getElem?_append_left (by omega)]at hx2
     exact h4 x (List.mem_of_getElem? hx2)
  have hlen:i+(dec (b::s.drop (i+1))).2≤s.length:=by
   have:=dec_le (l:=b::s.drop (i+1)) (by simp)
   simp only[List.length_cons,List.length_drop]at this
   omega
  have hpos:=dec_pos (l:=b::s.drop (i+1)) (by simp)
  simp (maxSteps:=400000) only[wF,storeA,reduceCtorEq,Nat.reduceAdd,Nat.reduceSub,Nat.reduceEqDiff,Nat.reduceLeDiff,Int.reduceToNat,Int.reduceLE,Int.reduceLT,Int.reduceAdd,Int.reduceNeg,Nat.reduceMul,T125,nextA,hg,q,dec_at,hcons]
  generalize hdd:dec (b::s.drop (i+1))=r at *
  refine AInv.pureK B149 (indexRuneB_hi E hge hval) fun J1 j1=>?_
  have p2:=j1.1
  simp (maxSteps:=400000) only[wF,storeA,reduceCtorEq,Nat.reduceAdd,Nat.reduceSub,Nat.reduceEqDiff,Nat.reduceLeDiff,Int.reduceToNat,Int.reduceLE,Int.reduceLT,Int.reduceAdd,Int.reduceNeg,Nat.reduceMul,T125,hd0]
  refine⟨(i+r.2,J1),⟨by simp only;omega,by simp only;rw[j1.2,AHeap.get_set_same],by simp only[AHeap.next_set]at p2 ⊢;omega,fun k hk=>by simp only;rw[j1.2,AHeap.get_set_ne _ _ (by omega)];exact hJ k hk,fun j x hj hx=>?_,?_⟩,by simp only;omega,by simp[Fg],HW.refl _⟩
  ·by_cases hji:j<i
   ·exact hno j x hji hx
   ·have h128:=hbytes j x (by omega) hj hx
    refine Bool.eq_false_iff.2 fun hm=>?_
    rcases(by simpa[wsB]using hm:x=13∨x=62)with rfl | rfl<;>exact absurd h128 (by decide)
  ·have:=htx.2
   simp only
   rw[show s.drop (i+r.2)=(b::s.drop (i+1)).drop r.2 by rw[←hcons,List.drop_drop]]
   exact this
theorem indexAnyB_all {G:Nat→Option (List AV)} (E:Env G) {s:List UInt8} (hs:s.length≤1000000000) (ht:isTextS s=true):PureCall Tryz.prog G 125 [.str s,.str wsB] (.int .i64 (Lib.indexAny s wsB)):=by
 by_cases h8:s.length≤8
 ·exact indexAnyB_ok E h8 ht
 ·refine PureCall.shelf (vs:=[.string ⟨s.toArray⟩,.string ⟨wsB.toArray⟩]) rfl (fun C => .int _ _) fun C w R=>?_
  have hw:∀b∈wsB,b.toNat<128:=by decide
  refine(Tryz.strings_IndexAny_long (zero_of_info (t:=191) (v := .agg (Array.replicate 256 (.bool false))) (n:=256) (by kernel_rfl)).1 ⟨s.toArray⟩ ⟨wsB.toArray⟩ w (by decide) (by rw[size_of];omega) (by rw[size_of];omega) (by decide) (fun j b hb=>hw b (List.mem_of_getElem? (by simpa using hb)))).mono ?_
  rintro e w' ⟨h1,h2⟩
  refine⟨by simpa using h1,?_⟩
  rw[h2]
  exact((Below.refl _ _).alloc (Nat.le_refl _) _).alloc (by simp) _
theorem anyOk {G:Nat→Option (List AV)} (E:Env G):AnyOk G:=by
 intro s hs ht H
 refine ACalls.keep (ACalls.of Tryz.func85 S85_eq R85 N85 rfl rfl ?_)
 simp (maxSteps:=400000) only[wF,storeA,reduceCtorEq,Nat.reduceAdd,Nat.reduceSub,Nat.reduceEqDiff,Nat.reduceLeDiff,Int.reduceToNat,Int.reduceLE,Int.reduceLT,Int.reduceAdd,Int.reduceNeg,Nat.reduceMul,S85,N85,R85,T85]
 refine AInv.pureK B125 (indexAnyB_all E hs ht) fun H1 h1=>?_
 simp (maxSteps:=400000) only[wF,storeA,reduceCtorEq,Nat.reduceAdd,Nat.reduceSub,Nat.reduceEqDiff,Nat.reduceLeDiff,Int.reduceToNat,Int.reduceLE,Int.reduceLT,Int.reduceAdd,Int.reduceNeg,Nat.reduceMul,T85]
 first | exact⟨rfl,h1.post⟩ | exact h1.post
end Go.Ab
namespace Go.Ab
open Go Go.Lib Go.Proofs Go.RowKit
theorem spaceTab_eq:(tabData .u8 Lib.asciiSpaceTab:DataW Unit)=Go.Proofs.YtojncnpmlhhccaaGreatDoor.Rows.laid_strings_asciiSpace:=by kernel_rfl
theorem ints_vrs {C:Ctx} {k:IntKind}:∀{l:List Int} {a:List Value},VRs C ((l.map fun z=>Value.int k z).map absV) a→a=l.map fun z=>Value.int k z
 | [],a,h=>List.eq_nil_of_length_eq_zero (by rw[←h.1];rfl)
 | z::l,[],h=>by have:=h.1;simp at this
 | z::l,y::a,h=>by
  have h0:=h.2 0 _ y rfl rfl
  cases h0
  have:=ints_vrs (C:=C) (k:=k) (l:=l) (a:=a) ⟨by have:=h.1;simpa using this,fun i x y hx hy=>h.2 (i+1) x y (by simpa using hx) (by simpa using hy)⟩
  rw[this,List.map_cons]
theorem space_later {W:World} (h:laidMet Tryz.prog laidAll W):SpaceG (startG2 W):=fun C w R0=>by
 have R:=rel2_rel h R0
 obtain⟨g,t,cs,fuel,p,hg,hty,hvar,hd⟩:=Lib.laidMet.reads h (n:= "strings.asciiSpace") (d:=tabData .u8 Lib.asciiSpaceTab) (by rw[spaceTab_eq];simp[laidAll,Go.Proofs.YtojncnpmlhhccaaGreatDoor.Rows.reparseAgainRow])
 have hgn:Tryz.prog.globalNamed "strings.asciiSpace"=some 0:=by kernel_rfl
 obtain rfl:=Option.some.inj (hgn.symm.trans hg)
 obtain rfl:=Option.some.inj ((show(Tryz.prog.globals[0]?).map (·.type)=some 170 by kernel_rfl).symm.trans hty)
 have hcs:=cells_of_tab (n:=256) Tryz.underlying170 Tryz.underlying5 (by kernel_rfl) (by kernel_rfl) hd
 have hstart:startI W 0=some cs.toList:=by
  unfold World.var? at hvar
  rw[hg]at hvar
  simp only[Option.bind_some]at hvar
  unfold startI
  rw[if_pos (by decide)]
  split at hvar
  ·rename_i arr e fz h1
   rw[h1]
   cases hvar
   rfl
  ·cases hvar
 obtain⟨a,ha,hv⟩:=R.glob 0 (cs.toList.map absV) (by unfold startG;rw[hstart];rfl)
 obtain⟨_,arr,e,fz,h2,h3⟩:=R.imm _ a ha
 rw[hcs]at hv
 have hae:=ints_vrs hv
 unfold TabIs World.var?
 rw[hgn]
 simp only[Option.bind_some]
 rw[h2]
 simp only[Option.some.injEq]
 rw[←hae,←h3]
end Go.Ab
