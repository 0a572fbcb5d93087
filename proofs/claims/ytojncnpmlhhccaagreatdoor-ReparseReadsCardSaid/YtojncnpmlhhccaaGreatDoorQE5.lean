/- The reference of tree: text, walked. -/
import Derived.Test.YtojncnpmlhhccaaGreatDoorQE4
set_option linter.all false
namespace Go.Ab
open Go Go.Lib Go.Proofs
theorem EPo.more {p:Nat × TSt} {m:Nat} {H J:AHeap} {r:ARes} {H':AHeap} (h:EPo p m J r H') (hn:H.next≤J.next) (ho:∀j,j<H.next→j≠m→J.get j=H.get j):EPo p m H r H':=by
 obtain⟨m',h1,h2,h3,h4,h5,h6⟩:=h
 exact⟨m',h1,h2,by omega,h4,by omega,fun j hj hjm=>(h6 j (by omega) hjm).trans (ho j hj hjm)⟩
theorem DOk.tok {t:TSt} (h:DOk t):TOk t:={
 op:=h.op
 len:=h.len
 bytes:=h.bytes
 up i n hi hk:=by
  have hil:i<t.l.length:=(List.getElem?_eq_some_iff.1 hi).1
  have hg:t.l.getD i nd0=n:=by rw[List.getD_eq_getElem?_getD,hi];rfl
  rcases Nat.eq_zero_or_pos i with h0 | h0
  ·subst h0
   rw[h.root]at hg
   subst hg
   cases hk
  ·have:=h.up i h0 hil
   rw[hg]at this
   omega }
theorem ndsH_all (l:List Nd):(ndsH l).all AV.one=true:=by
 induction l with
 | nil=>rfl
 | cons x l ih=>
  have:ndsH (x::l)=ndH x++ndsH l:=by simp[ndsH]
  rw[this,List.all_append,ih]
  rfl
set_option maxHeartbeats 8000000 in
set_option maxRecDepth 100000 in
theorem e_text_ok (G:Nat→Option (List AV)) {t:TSt} {text:List UInt8} {m:Nat} {H:AHeap} (hd:DOk t) (htx:TxOk t) (ht:text.length≤100000000) (hm:H.get m=some (.row 36 4 (ndsH t.l))) (hmn:m<H.next) :
  ACalls Tryz.prog G 113 [stV m t,.str text] H (EPo (txtR t text) m H):=by
 refine ACalls.of Tryz.func113 S113_eq R113 N113 rfl rfl ?_
 have u1:(H.next=H.next+1)=False:=by simp
 have u2:(H.next+1=H.next)=False:=by simp
 have hok:=hd.tok
 have hne:=hd.op
 have hlen:=hd.len
 have hby:=hd.bytes
 have hlt2:=htx.last hok
 obtain⟨i,hi⟩:∃i,t.l.length=i+1:=⟨t.l.length-1,by omega⟩
 have hlt:i<t.l.length:=by omega
 have hla:t.l[i]=t.last:=by
  have h:=hok.lastE
  rw[show t.l.length-1=i by omega,List.getElem?_eq_getElem hlt]at h
  exact Option.some.inj h
 have e0:IntKind.i64.wrap ((t.l.length:Int)-1)=(i:Int):=by rw[hi,wrap64]<;>omega
 simp (maxSteps:=400000) only[wF,storeA,reduceCtorEq,Nat.reduceAdd,Nat.reduceSub,Nat.reduceEqDiff,Nat.reduceLeDiff,Int.reduceToNat,Int.reduceLE,Int.reduceLT,Int.reduceAdd,Int.reduceNeg,Nat.reduceMul,S113,N113,R113,T113,stV,AV.boxable,u1,u2]
 generalize hX0:AHeap.allocAt _ (H.next+1) _=X
 have x0:X.get H.next=some (.cells 119 [.slc m t.l.length,.int .i64 t.op,.int .i64 t.bytes]):=by
  rw[←hX0,AHeap.get_allocAt_ne _ _ (by omega),AHeap.get_allocAt_same]
 have x1:X.get (H.next+1)=some (.cells 119 [.nils,.int .i64 0,.int .i64 0]):=by
  rw[←hX0,AHeap.get_allocAt_same]
 have xn:H.next+2≤X.next:=by rw[←hX0];simp only[AHeap.next_allocAt];omega
 have xo:∀j,j<H.next→X.get j=H.get j:=fun j hj=>by rw[←hX0,AHeap.get_allocAt_ne _ _ (by omega),AHeap.get_allocAt_ne _ _ (by omega)]
 have xm:=(xo m hmn).trans hm
 clear hX0
 refine AInv.pureK B26 (r_isText_ok G (by omega)) fun J k1=>?_
 have p1:=k1.1
 replace x0:=(congrFun k1.2 _).trans x0
 replace x1:=(congrFun k1.2 _).trans x1
 replace xm:=(congrFun k1.2 _).trans xm
 replace xo:∀j,j<H.next→J.get j=H.get j:=fun j hj=>(congrFun k1.2 _).trans (xo j hj)
 replace xn:H.next+2≤J.next:=by omega
 clear k1 p1
 have stay:∀(e:Nat) (J:AHeap) (o:AObj),J.get m=some (.row 36 4 (ndsH t.l))→H.next+2≤J.next→(∀j,j<H.next→J.get j=H.get j)→EPo (e,t) m H (.ret (.tup [stV m t,.int .i64 e])) (J.set (H.next+1) o):=fun e J o a b c=>
  ⟨m,rfl,by rw[AHeap.get_set_ne _ _ (by omega)];exact a,.inl rfl,by simp only[AHeap.next_set];omega,by simp only[AHeap.next_set];omega,fun j hj _=>by rw[AHeap.get_set_ne _ _ (by omega)];exact c j hj⟩
 unfold txtR
 cases hT:isTextS text with
 | false=>
  rw[if_pos rfl]
  simp (maxSteps:=400000) only[wF,storeA,reduceCtorEq,Nat.reduceAdd,Nat.reduceSub,Nat.reduceEqDiff,Nat.reduceLeDiff,Int.reduceToNat,Int.reduceLE,Int.reduceLT,Int.reduceAdd,Int.reduceNeg,Nat.reduceMul,T113,Bool.not_false,x0,x1,u1,u2]
  exact stay 1 J _ xm xn xo
 | true=>
 rw[if_neg (by simp)]
 by_cases hem:text=[]
 ·have he:(text==[])=true:=by rw[hem];rfl
  rw[if_pos hem]
  simp (maxSteps:=400000) only[wF,storeA,reduceCtorEq,Nat.reduceAdd,Nat.reduceSub,Nat.reduceEqDiff,Nat.reduceLeDiff,Int.reduceToNat,Int.reduceLE,Int.reduceLT,Int.reduceAdd,Int.reduceNeg,Nat.reduceMul,T113,Bool.not_true,x0,x1,u1,u2,e0,he]
  exact stay 0 J _ xm xn xo
 have he:(text==[])=false:=by simp[hem]
 rw[if_neg hem]
 simp (maxSteps:=400000) only[wF,storeA,reduceCtorEq,Nat.reduceAdd,Nat.reduceSub,Nat.reduceEqDiff,Nat.reduceLeDiff,Int.reduceToNat,Int.reduceLE,Int.reduceLT,Int.reduceAdd,Int.reduceNeg,Nat.reduceMul,T113,Bool.not_true,x0,e0,he]
 have hle:(i*4+4≤(ndsH t.l).length)=True:=by rw[ndsH_len];simp;omega
 have q0:((0:Int)≤(i:Int))=True:=by simp
 have q1:((i:Int)<(t.l.length:Int))=True:=by simp;omega
 have g0:=ndsH_get t.l i 0 hlt (by omega)
 have g3:=ndsH_get t.l i 3 hlt (by omega)
 have g2:=ndsH_get t.l i 2 hlt (by omega)
 rw[hla]at g0 g2 g3
 simp only[ndH,List.getElem?_cons_zero,List.getElem?_cons_succ,Nat.add_zero]at g0 g2 g3
 have e1:IntKind.i64.wrap (1048576-(t.bytes:Int))=1048576-(t.bytes:Int):=by rw[wrap64]<;>omega
 have hadd:=fun(c:¬(t.last.kind=3∧t.last.up=(t.op:Int)))=>c
 by_cases c3:t.last.kind=3∧t.last.up=(t.op:Int)
 case neg=>
  rw[if_neg c3]
  have hb3:((t.last.kind:Int)==3)=false∨(((t.last.kind:Int)==3)=true∧(t.last.up==(t.op:Int))=false):=by
   by_cases h:t.last.kind=3
   ·exact .inr ⟨by rw[h];rfl,by rw[beq_eq_false_iff_ne];exact fun e=>c3 ⟨h,e⟩⟩
   ·exact .inl (by rw[beq_eq_false_iff_ne];omega)
  rcases hb3 with b3 | ⟨b3,b4⟩
  case' inl=>
   refine drawW_fixed mixedOrders L113_6_eq P113_6_eq ?_
   simp (maxSteps:=400000) only[wF,storeA,reduceCtorEq,Nat.reduceAdd,Nat.reduceSub,Nat.reduceEqDiff,Nat.reduceLeDiff,Int.reduceToNat,Int.reduceLE,Int.reduceLT,Int.reduceAdd,Int.reduceNeg,Nat.reduceMul,L113_6,T113,x0,xm,q0,q1,indexAddrA,g0,g3,b3]
  case' inr=>
   refine drawW_fixed mixedOrders L113_6_eq P113_6_eq ?_
   simp (maxSteps:=400000) only[wF,storeA,reduceCtorEq,Nat.reduceAdd,Nat.reduceSub,Nat.reduceEqDiff,Nat.reduceLeDiff,Int.reduceToNat,Int.reduceLE,Int.reduceLT,Int.reduceAdd,Int.reduceNeg,Nat.reduceMul,L113_6,T113,x0,xm,q0,q1,indexAddrA,g0,g3,b3,b4]
  all_goals
   refine AInv.call B115 (e_add_ok G (kind:=3) (m:=m) hd (by omega) xm (by omega)) fun r J2 h2=>?_
   obtain⟨m1,rfl,hm1,hmm,hml,hn1,hf1⟩:=h2
   have y1:=(hf1 (H.next+1) (by omega) (by omega)).trans x1
   simp (maxSteps:=400000) only[wF,storeA,reduceCtorEq,Nat.reduceAdd,Nat.reduceSub,Nat.reduceEqDiff,Nat.reduceLeDiff,Int.reduceToNat,Int.reduceLE,Int.reduceLT,Int.reduceAdd,Int.reduceNeg,Nat.reduceMul,T113,stV,y1]
   refine⟨m1,rfl,?_,by omega,?_,?_,fun j hj hjm=>?_⟩
   ·rw[AHeap.get_set_ne _ _ (by omega)];exact hm1
   ·simp only[AHeap.next_set];omega
   ·simp only[AHeap.next_set];omega
   ·rw[AHeap.get_set_ne _ _ (by omega)];exact(hf1 j (by omega) hjm).trans (xo j hj)
 rw[if_pos c3]
 have b3:((t.last.kind:Int)==3)=true:=by rw[c3.1];rfl
 have b4:(t.last.up==(t.op:Int))=true:=by rw[c3.2];simp
 refine drawW_fixed mixedOrders L113_6_eq P113_6_eq ?_
 by_cases hb:1048576<t.bytes+text.length
 ·have d3:decide ((text.length:Int)>1048576-(t.bytes:Int))=true:=by simp;omega
  rw[if_pos hb]
  simp (maxSteps:=400000) only[wF,storeA,reduceCtorEq,Nat.reduceAdd,Nat.reduceSub,Nat.reduceEqDiff,Nat.reduceLeDiff,Int.reduceToNat,Int.reduceLE,Int.reduceLT,Int.reduceAdd,Int.reduceNeg,Nat.reduceMul,L113_6,T113,x0,x1,xm,q0,q1,indexAddrA,g0,g3,b3,b4,e1,d3,u1,u2]
  exact stay 2 J _ xm xn xo
 ·have d3:decide ((text.length:Int)>1048576-(t.bytes:Int))=false:=by simp;omega
  rw[if_neg hb]
  have e2:IntKind.i64.wrap ((t.bytes:Int)+(text.length:Int))=((t.bytes+text.length:Nat):Int):=by rw[wrap64]<;>omega
  have v1:(m=H.next)=False:=eq_false (by omega)
  have w1:(m=J.next)=False:=eq_false (by omega)
  have w1':(m=J.next+1)=False:=eq_false (by omega)
  have w2:(J.next==m)=false:=by rw[beq_eq_false_iff_ne];omega
  have w3:(H.next=J.next)=False:=eq_false (by omega)
  have w4:(H.next=J.next+1)=False:=eq_false (by omega)
  have w6:(H.next+1=J.next)=False:=eq_false (by omega)
  have w7:(H.next+1=J.next+1)=False:=eq_false (by omega)
  have w8:(J.next+1=H.next)=False:=eq_false (by omega)
  have w9:(m==J.next)=false:=by rw[beq_eq_false_iff_ne];omega
  have hle2:(0+t.l.length≤maxApp)=True:=eq_true (by simp only[maxApp];omega)
  have hle3:(t.l.length≤maxApp)=True:=eq_true (by simp only[maxApp];omega)
  have htk:List.take (t.l.length*4) (ndsH t.l)=ndsH t.l:=List.take_of_length_le (by rw[ndsH_len];exact Nat.le_refl _)
  have hal:=ndsH_all t.l
  simp (maxSteps:=400000) only[wF,storeA,reduceCtorEq,Nat.reduceAdd,Nat.reduceSub,Nat.reduceEqDiff,Nat.reduceLeDiff,Int.reduceToNat,Int.reduceLE,Int.reduceLT,Int.reduceAdd,Int.reduceNeg,Nat.reduceMul,L113_6,T113,x0,x1,xm,q0,q1,indexAddrA,g0,g3,b3,b4,e1,e2,d3,htk,hal,List.nil_append,u1,u2,v1,w1,w1',w2,w3,w4,w6,w7,w8,w9,hle2,hle3,buildA,appendA,appSrc,AV.isSlc,sliceLit,fillA,zerosA,srcCells,AV.boxable,Nat.le_refl,Nat.reduceLT,ndsH_len,g2]
  have hD:t.l=t.l.dropLast++[t.last]∧t.l.dropLast.length=i:=by
   rcases List.eq_nil_or_concat t.l with h0 | ⟨D,x0,h0⟩
   ·rw[h0]at hne;simp at hne
   ·rw[List.concat_eq_append]at h0
    have hl:t.last=x0:=by unfold TSt.last;rw[h0];simp
    rw[hl,h0,List.dropLast_concat]
    refine⟨rfl,?_⟩
    rw[h0]at hi
    simpa using hi
  have hset:=ndsH_set t.l.dropLast t.last i hD.2 (t.last.text++text)
  rw[←hD.1]at hset
  have hll:(t.l.dropLast++[{ t.last with text:=t.last.text++text }]).length=t.l.length:=by
   rw[List.length_append,hD.2,hi];rfl
  refine⟨by simp only[maxStr];omega,by omega,J.next+1,by simp only[stV,hll];rfl,?_,.inr (by omega),?_,?_,fun j hj hjm=>?_⟩
  ·rw[AHeap.get_set_ne _ _ (by omega),AHeap.get_set_ne _ _ (by omega),AHeap.get_set_same]
   rw[←hset]
  ·simp only[AHeap.next_set,AHeap.next_allocAt,AHeap.next_del];omega
  ·simp only[AHeap.next_set,AHeap.next_allocAt,AHeap.next_del];omega
  ·rw[AHeap.get_set_ne _ _ (by omega),AHeap.get_set_ne _ _ (by omega),AHeap.get_set_ne _ _ (by omega),AHeap.get_allocAt_ne _ _ (by omega),AHeap.get_del_ne _ (by omega),AHeap.get_allocAt_ne _ _ (by omega),AHeap.get_set_ne _ _ (by omega)]
   exact xo j hj
end Go.Ab
