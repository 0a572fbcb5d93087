/- tree's builder: text, walked. -/
import Derived.Test.YtojncnpmlhhccaaGreatDoorHT2
set_option linter.all false
namespace Go.Ab
open Go Go.Lib Go.Proofs
def TxOk (t:TSt):Prop:=∀n∈t.l,n.text.length≤t.bytes
theorem TxOk.init:TxOk t0T:=fun n hn=>by simp[t0T]at hn;subst hn;decide
theorem TxOk.add {t t':TSt} {kind:Nat} {name text:List UInt8} (h:TxOk t) (e:t.add kind name text = .ok t'):TxOk t':=by
 unfold TSt.add at e
 split at e
 ·cases e
 ·cases e
  intro n hn
  simp only[List.mem_append,List.mem_singleton]at hn ⊢
  rcases hn with hn | hn
  ·have:=h n hn;omega
  ·subst hn;simp only;omega
theorem TxOk.attrs:∀(l:List (List UInt8 × List UInt8)) {t t':TSt},TxOk t→attrsT l t = .ok t'→TxOk t'
 | [],t,t',h,e=>by cases e;exact h
 | a::l,t,t',h,e=>by
  simp only[attrsT]at e
  split at e
  ·cases e
  ·rename_i t1 h1
   exact TxOk.attrs l (h.add h1) e
theorem TxOk.last {t:TSt} (h:TxOk t) (hok:TOk t):t.last.text.length≤t.bytes:=h _ (List.mem_of_getElem? hok.lastE)
theorem TxOk.event {t t':TSt} {x:Ev} (h:TxOk t) (hok:TOk t) (e:eventT t x = .ok t'):TxOk t':=by
 unfold eventT startT endT textT otherT at e
 split at e
 ·split at e
  ·cases e
  split at e
  ·cases e
  split at e
  ·cases e
  split at e
  ·cases e
  ·rename_i t1 h1
   have h2:TxOk t1:=h.add h1
   exact TxOk.attrs (t:={ t1 with op:=t.l.length,deep:=t.deep+1 }) _ h2 e
 ·split at e
  ·cases e
  split at e
  ·cases e
  ·cases e;exact h
 ·split at e
  ·cases e
  split at e
  ·cases e;exact h
  split at e
  ·split at e
   ·cases e
   ·cases e
    have hl:=h.last hok
    intro n hn
    simp only[List.mem_append,List.mem_singleton]at hn ⊢
    rcases hn with hn | hn
    ·have:=h n (List.dropLast_subset _ hn);omega
    ·subst hn;simp only[List.length_append];omega
  ·exact h.add e
 ·split at e
  ·cases e
  ·exact h.add e
 ·split at e
  ·cases e
  ·exact h.add e
 ·cases e
theorem ndsH_set (D:List Nd) (x:Nd) (i:Nat) (hi:D.length=i) (v:List UInt8):(ndsH (D++[x])).set (i*4+2) (.str v)=ndsH (D++[{ x with text:=v }]):=by
 have:=ndsH_len D
 rw[ndsH_app,ndsH_app,List.set_append_right _ _ (by omega),show i*4+2-(ndsH D).length=2 by omega]
 rfl
set_option maxHeartbeats 4000000 in
set_option maxRecDepth 100000 in
theorem t_text_ok {G:Nat→Option (List AV)} (E:Env G) {H:AHeap} {bid kl:Nat} {t:TSt} (hb:BAt H bid kl t) (hok:TOk t) (htx:TxOk t) {x:Ev} (hx:EvB 10000000 x) :
  ACalls Tryz.prog G 45 [.ptr bid 0,.agg (evH x)] H (BPost H bid kl (textT t x)):=by
 refine ACalls.of Tryz.func45 S45_eq R45 N45 rfl rfl ?_
 have hb0:=hb
 obtain⟨a1,a2,a3,a4,a5⟩:=hb
 have hne:=hok.op
 have hlen:=hok.len
 have hby:=hok.bytes
 obtain⟨i,hi⟩:∃i,t.l.length=i+1:=⟨t.l.length-1,by omega⟩
 have hlt:i<t.l.length:=by omega
 have hla:t.l[i]=t.last:=by
  have h:=hok.lastE
  rw[show t.l.length-1=i by omega,List.getElem?_eq_getElem hlt]at h
  exact Option.some.inj h
 have ht:=hx.2.1
 have e0:IntKind.i64.wrap ((t.l.length:Int)-1)=(i:Int):=by rw[hi,wrap64]<;>omega
 have u1:(bid=H.next)=False:=by simp;omega
 have u2:(kl=H.next)=False:=by simp;omega
 simp (maxSteps:=400000) only[wF,storeA,reduceCtorEq,Nat.reduceAdd,Nat.reduceSub,Nat.reduceEqDiff,Nat.reduceLeDiff,Int.reduceToNat,Int.reduceLE,Int.reduceLT,Int.reduceAdd,Int.reduceNeg,Nat.reduceMul,S45,N45,R45,T45,AV.boxable,evH,u1,u2,a1,e0]
 generalize hX0:AHeap.allocAt H H.next _=X
 have x0:X.get H.next=some (.cells 88 [.int .i64 x.kind,.str x.name,.str x.text,atH x.attrs,.int .i64 x.line,.int .i64 x.col]):=by rw[←hX0,AHeap.get_allocAt_same]
 have xn:X.next=H.next+1:=by rw[←hX0];simp only[AHeap.next_allocAt];omega
 have xo:∀j,j<H.next→X.get j=H.get j:=fun j hj=>by rw[←hX0,AHeap.get_allocAt_ne _ _ (by omega)]
 clear hX0
 refine AInv.pureK B23 (isText_ok E (by omega)) fun H1 h1=>?_
 have p1:=h1.1
 have y0:=(congrFun h1.2 _).trans x0
 have y1:=(congrFun h1.2 _).trans ((xo _ a4).trans a1)
 have y2:=(congrFun h1.2 _).trans ((xo _ a5).trans a2)
 have yo:∀j,j<H.next→H1.get j=H.get j:=fun j hj=>(congrFun h1.2 _).trans (xo j hj)
 unfold textT
 cases hT:isTextS x.text with
 | false=>
  simp (maxSteps:=400000) only[wF,storeA,reduceCtorEq,Nat.reduceAdd,Nat.reduceSub,Nat.reduceEqDiff,Nat.reduceLeDiff,Int.reduceToNat,Int.reduceLE,Int.reduceLT,Int.reduceAdd,Int.reduceNeg,Nat.reduceMul,Bool.not_false,T45]
  exact⟨rfl,by omega,fun j j1 _ _=>yo j j1⟩
 | true=>
 rw[if_neg (by simp)]
 by_cases hem:x.text=[]
 ·have he:(x.text==[])=true:=by rw[hem];rfl
  simp (maxSteps:=400000) only[wF,storeA,reduceCtorEq,Nat.reduceAdd,Nat.reduceSub,Nat.reduceEqDiff,Nat.reduceLeDiff,Int.reduceToNat,Int.reduceLE,Int.reduceLT,Int.reduceAdd,Int.reduceNeg,Nat.reduceMul,Bool.not_true,T45,y0,he]
  rw[if_pos hem]
  exact⟨rfl,kl,(hb0.keep ⟨by omega,yo⟩)⟩
 have he:(x.text==[])=false:=by simp[hem]
 rw[if_neg hem]
 simp (maxSteps:=400000) only[wF,storeA,reduceCtorEq,Nat.reduceAdd,Nat.reduceSub,Nat.reduceEqDiff,Nat.reduceLeDiff,Int.reduceToNat,Int.reduceLE,Int.reduceLT,Int.reduceAdd,Int.reduceNeg,Nat.reduceMul,Bool.not_true,T45,y0,he]
 have hle:(i*4+4≤(ndsH t.l).length)=True:=by rw[ndsH_len];simp;omega
 have q0:((0:Int)≤(i:Int))=True:=by simp
 have q1:((i:Int)<(t.l.length:Int))=True:=by simp;omega
 have g0:=ndsH_get t.l i 0 hlt (by omega)
 have g3:=ndsH_get t.l i 3 hlt (by omega)
 have g2:=ndsH_get t.l i 2 hlt (by omega)
 rw[hla]at g0 g2 g3
 simp only[ndH,List.getElem?_cons_zero,List.getElem?_cons_succ,Nat.add_zero]at g0 g2 g3
 have e1:IntKind.i64.wrap (1048576-(t.bytes:Int))=1048576-(t.bytes:Int):=by rw[wrap64]<;>omega
 have e2:IntKind.i64.wrap ((t.bytes:Int)+(x.text.length:Int))=((t.bytes+x.text.length:Nat):Int):=by rw[wrap64]<;>omega
 obtain⟨b1,k1⟩:=hb0.keep (show Kept H H1 from ⟨by omega,yo⟩)
 have more:∀{r:ARes} {J:AHeap},BPost H1 bid kl (t.add 3 [] x.text) r J→BPost H bid kl (t.add 3 [] x.text) r J:=fun {r J} h2=>by
  cases ho:t.add 3 [] x.text with
  | error e=>
   rw[ho]at h2
   obtain⟨h3,n2,f2⟩:=h2
   exact⟨h3,by omega,fun j j1 j2 j3=>by rw[f2 j (by omega) j2 j3];exact yo j j1⟩
  | ok t'=>
   rw[ho]at h2
   obtain⟨h3,kl',b2,k2⟩:=h2
   exact⟨h3,kl',b2,k1.trans k2⟩
 by_cases c3:t.last.kind=3
 case neg=>
  have b3:((t.last.kind:Int)==3)=false:=by simp;omega
  rw[if_neg (fun h=>c3 h.1)]
  refine drawW_fixed mixedOrders L45_6_eq P45_6_eq ?_
  simp (maxSteps:=400000) only[wF,storeA,reduceCtorEq,Nat.reduceAdd,Nat.reduceSub,Nat.reduceEqDiff,Nat.reduceLeDiff,Int.reduceToNat,Int.reduceLE,Int.reduceLT,Int.reduceAdd,Int.reduceNeg,Nat.reduceMul,L45_6,T45,y0,y1,y2,q0,q1,indexAddrA,g0,g3,b3]
  refine AInv.call B79 (t_add_ok G b1 (kind:=3) hlen hby (by omega)) fun r J2 h2=>?_
  replace h2:=more h2
  cases ho:t.add 3 [] x.text with
  | error e=>
   rw[ho]at h2
   obtain⟨rfl,h2⟩:=h2
   simp (maxSteps:=400000) only[wF,storeA,reduceCtorEq,Nat.reduceAdd,Nat.reduceSub,Nat.reduceEqDiff,Nat.reduceLeDiff,Int.reduceToNat,Int.reduceLE,Int.reduceLT,Int.reduceAdd,Int.reduceNeg,Nat.reduceMul,]
   exact⟨rfl,h2⟩
  | ok t'=>
   rw[ho]at h2
   obtain⟨rfl,h2⟩:=h2
   simp (maxSteps:=400000) only[wF,storeA,reduceCtorEq,Nat.reduceAdd,Nat.reduceSub,Nat.reduceEqDiff,Nat.reduceLeDiff,Int.reduceToNat,Int.reduceLE,Int.reduceLT,Int.reduceAdd,Int.reduceNeg,Nat.reduceMul,]
   exact⟨rfl,h2⟩
 have b3:((t.last.kind:Int)==3)=true:=by rw[c3];rfl
 by_cases c4:t.last.up=t.op
 case neg=>
  have b4:(t.last.up==(t.op:Int))=false:=by simp[c4]
  rw[if_neg (fun h=>c4 h.2)]
  refine drawW_fixed mixedOrders L45_6_eq P45_6_eq ?_
  simp (maxSteps:=400000) only[wF,storeA,reduceCtorEq,Nat.reduceAdd,Nat.reduceSub,Nat.reduceEqDiff,Nat.reduceLeDiff,Int.reduceToNat,Int.reduceLE,Int.reduceLT,Int.reduceAdd,Int.reduceNeg,Nat.reduceMul,L45_6,T45,y0,y1,y2,q0,q1,indexAddrA,g0,g3,b3,b4]
  refine AInv.call B79 (t_add_ok G b1 (kind:=3) hlen hby (by omega)) fun r J2 h2=>?_
  replace h2:=more h2
  cases ho:t.add 3 [] x.text with
  | error e=>
   rw[ho]at h2
   obtain⟨rfl,h2⟩:=h2
   simp (maxSteps:=400000) only[wF,storeA,reduceCtorEq,Nat.reduceAdd,Nat.reduceSub,Nat.reduceEqDiff,Nat.reduceLeDiff,Int.reduceToNat,Int.reduceLE,Int.reduceLT,Int.reduceAdd,Int.reduceNeg,Nat.reduceMul,]
   exact⟨rfl,h2⟩
  | ok t'=>
   rw[ho]at h2
   obtain⟨rfl,h2⟩:=h2
   simp (maxSteps:=400000) only[wF,storeA,reduceCtorEq,Nat.reduceAdd,Nat.reduceSub,Nat.reduceEqDiff,Nat.reduceLeDiff,Int.reduceToNat,Int.reduceLE,Int.reduceLT,Int.reduceAdd,Int.reduceNeg,Nat.reduceMul,]
   exact⟨rfl,h2⟩
 have b4:(t.last.up==(t.op:Int))=true:=by simp[c4]
 rw[if_pos ⟨c3,c4⟩]
 refine drawW_fixed mixedOrders L45_6_eq P45_6_eq ?_
 simp (maxSteps:=400000) only[wF,storeA,reduceCtorEq,Nat.reduceAdd,Nat.reduceSub,Nat.reduceEqDiff,Nat.reduceLeDiff,Int.reduceToNat,Int.reduceLE,Int.reduceLT,Int.reduceAdd,Int.reduceNeg,Nat.reduceMul,L45_6,T45,y0,y1,y2,q0,q1,indexAddrA,g0,g3,b3,b4]
 refine drawW_fixed mixedOrders L45_7_eq P45_7_eq ?_
 by_cases c5:1048576<t.bytes+x.text.length
 ·have d5:decide ((x.text.length:Int)>1048576-(t.bytes:Int))=true:=by simp;omega
  simp (maxSteps:=400000) only[wF,storeA,reduceCtorEq,Nat.reduceAdd,Nat.reduceSub,Nat.reduceEqDiff,Nat.reduceLeDiff,Int.reduceToNat,Int.reduceLE,Int.reduceLT,Int.reduceAdd,Int.reduceNeg,Nat.reduceMul,L45_7,T45,y0,y1,y2,e1,d5]
  rw[if_pos c5]
  exact⟨rfl,by omega,fun j j1 _ _=>yo j j1⟩
 have d5:decide ((x.text.length:Int)>1048576-(t.bytes:Int))=false:=by simp;omega
 rw[if_neg c5]
 simp (maxSteps:=400000) only[wF,storeA,reduceCtorEq,Nat.reduceAdd,Nat.reduceSub,Nat.reduceEqDiff,Nat.reduceLeDiff,Int.reduceToNat,Int.reduceLE,Int.reduceLT,Int.reduceAdd,Int.reduceNeg,Nat.reduceMul,L45_7,T45,y0,y1,y2,e1,d5]
 have v1:(bid=kl)=False:=by simp;omega
 have v2:(kl=bid)=False:=by simp;omega
 have v3:(H.next=bid)=False:=by simp;omega
 have v4:(H.next=kl)=False:=by simp;omega
 refine drawW_fixed mixedOrders L45_9_eq P45_9_eq ?_
 simp (maxSteps:=400000) only[wF,storeA,reduceCtorEq,Nat.reduceAdd,Nat.reduceSub,Nat.reduceEqDiff,Nat.reduceLeDiff,Int.reduceToNat,Int.reduceLE,Int.reduceLT,Int.reduceAdd,Int.reduceNeg,Nat.reduceMul,L45_9,T45,y0,y1,y2,e2,u1,u2,v1,v2,v3,v4]
 refine drawW_fixed mixedOrders L45_10_eq P45_10_eq ?_
 simp (maxSteps:=400000) only[wF,storeA,reduceCtorEq,Nat.reduceAdd,Nat.reduceSub,Nat.reduceEqDiff,Nat.reduceLeDiff,Int.reduceToNat,Int.reduceLE,Int.reduceLT,Int.reduceAdd,Int.reduceNeg,Nat.reduceMul,L45_10,T45,y0,y1,y2,u1,u2,v1,v2,v3,v4,q0,q1,indexAddrA,g2]
 have hll:=htx.last hok
 refine⟨by unfold maxStr;omega,by rw[ndsH_len];omega,rfl,kl,⟨?_,?_,a3,?_,?_⟩,?_,.inl rfl,fun j j1 j2 j3=>?_⟩
 ·rw[AHeap.get_set_ne _ _ (by omega),AHeap.get_set_same]
  simp;omega
 ·have hsp:t.l=t.l.dropLast++[t.last]:=by
   have h0:t.l≠[]:=by intro h;rw[h]at hi;simp at hi
   have h1:=List.dropLast_concat_getLast h0
   have h2:t.l.getLast h0=t.last:=by rw[List.getLast_eq_getElem];rw[←hla];congr 1;omega
   rw[h2]at h1
   exact h1.symm
  have hset:=ndsH_set t.l.dropLast t.last i (by rw[List.length_dropLast];omega) (t.last.text++x.text)
  rw[←hsp]at hset
  rw[AHeap.get_set_same,hset]
 ·simp only[AHeap.next_set];omega
 ·simp only[AHeap.next_set];omega
 ·simp only[AHeap.next_set];omega
 ·rw[AHeap.get_set_ne _ _ j3,AHeap.get_set_ne _ _ j2];exact yo j j1
end Go.Ab
