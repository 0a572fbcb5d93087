/- The reference's list of events: walked. The reference's element: walked. The reference's piece of a document: walked. What the reference reads: as functions, with their bounds. The reference's Read: walked. The reference's All: walked. -/
import Derived.Test.YtebgjmoihhbjjaaGreatDoorRC
import Derived.Test.YtebgjmoihhbjjaaGreatDoorE1
set_option linter.all false
namespace Go.Ab
open Go Go.Lib Go.Proofs
structure RSt where
 l:List Ev
 ends:List Nat
 opens:List (List UInt8)
 any:Bool
def natsA (l:List Nat):List AV:=l.map fun(n:Nat)=>AV.int .i64 (n:Int)
theorem natsA_len (l:List Nat):(natsA l).length=l.length:=by simp[natsA]
def RAt (J:AHeap) (tid kl ke ko:Nat) (t:RSt) (a e:Int):Prop:=
 J.get tid=some (.cells 67 [.slc kl t.l.length,.slc ke t.ends.length,.int .i64 a,.int .i64 e,.slc ko t.opens.length,.bool t.any]) ∧
 J.get kl=some (.row 39 6 (evsA t.l))∧J.get ke=some (.row 3 1 (natsA t.ends))∧J.get ko=some (.row 9 1 (strsA t.opens)) ∧
 tid<J.next∧kl<J.next∧ke<J.next∧ko<J.next∧kl≠tid∧ke≠tid∧ko≠tid∧kl≠ke∧kl≠ko∧ke≠ko
def RKeep (J:AHeap) (tid kl ke ko:Nat) (J':AHeap) (kl' ke' ko':Nat):Prop:=
 J.next≤J'.next∧(kl'=kl∨J.next≤kl')∧(ke'=ke∨J.next≤ke')∧(ko'=ko∨J.next≤ko')∧∀j,j<J.next→j≠tid→j≠kl→j≠ke→j≠ko→J'.get j=J.get j
def RSt.add (t:RSt) (s:List UInt8) (x:Ev) (from_ end_:Nat):RSt:={ t with l:=t.l++[{ x with line:=(placeS s from_).1,col:=(placeS s from_).2 }],ends:=t.ends++[end_] }
set_option maxHeartbeats 8000000 in
set_option maxRecDepth 100000 in
theorem r_add_ok (G:Nat→Option (List AV)) {s:List UInt8} {x:Ev} {i e:Nat} (hi:i≤s.length) (hs:s.length≤900000000) {H:AHeap} {tid kl ke ko:Nat} {t:RSt} {a er:Int} (h:RAt H tid kl ke ko t a er) (hl:t.l.length<1000000) (hn:t.ends.length<1000000) :
  ACalls Tryz.prog G 29 [.ptr tid 0,.str s,.agg (evC x),.int .i64 i,.int .i64 e] H fun r H'=>(∃v,r = .ret v)∧∃kl' ke',RAt H' tid kl' ke' ko (t.add s x i e) a er∧RKeep H tid kl ke ko H' kl' ke' ko:=by
 refine ACalls.of Tryz.func29 S29_eq R29 N29 rfl rfl ?_
 obtain⟨x0,x1,x2,x3,x4,x5,x6,x7,x8,x9,x10,x11,x12,x13⟩:=h
 simp (maxSteps:=400000) only[wF,storeA,reduceCtorEq,Nat.reduceAdd,Nat.reduceSub,Nat.reduceEqDiff,Nat.reduceLeDiff,Int.reduceToNat,Int.reduceLE,Int.reduceLT,Int.reduceAdd,Int.reduceNeg,Nat.reduceMul,S29,N29,R29,T29,AV.boxable,evC]
 generalize hA:AHeap.allocAt H H.next _=A
 have an:A.next=H.next+1:=by rw[←hA];simp only[AHeap.next_allocAt];omega
 have aa:A.get H.next=some (.cells 39 [.int .i64 x.kind,.str x.name,.str x.text,.lst x.attrs.length (attrsA x.attrs),.int .i64 x.line,.int .i64 x.col]):=by rw[←hA,AHeap.get_allocAt_same]
 have ao:∀j,j<H.next→A.get j=H.get j:=fun j hj=>by rw[←hA,AHeap.get_allocAt_ne _ _ (by omega)]
 clear hA
 refine AInv.pureK B20 (r_place_ok G hi (by omega)) fun H1 h1=>?_
 generalize hpl:placeS s i=pl
 have a1:=aa
 rw[←h1.2]at a1
 have n1:=h1.1
 have o1:∀j,j<H.next→H1.get j=H.get j:=fun j hj=>by rw[h1.2];exact ao j hj
 simp (maxSteps:=400000) only[wF,storeA,reduceCtorEq,Nat.reduceAdd,Nat.reduceSub,Nat.reduceEqDiff,Nat.reduceLeDiff,Int.reduceToNat,Int.reduceLE,Int.reduceLT,Int.reduceAdd,Int.reduceNeg,Nat.reduceMul,T29,AV.boxable,a1,AHeap.set_set]
 generalize hX:AHeap.set H1 H.next _=X
 have xn:X.next=H1.next:=by rw[←hX];rfl
 have xx:X.get H.next=some (.cells 39 [.int .i64 x.kind,.str x.name,.str x.text,.lst x.attrs.length (attrsA x.attrs),.int .i64 pl.1,.int .i64 pl.2]):=by rw[←hX,AHeap.get_set_same]
 have xo:∀j,j<H.next→X.get j=H.get j:=fun j hj=>by rw[←hX,AHeap.get_set_ne _ _ (by omega)];exact o1 j hj
 clear hX
 have y0:=(xo _ x4).trans x0
 have y1:=(xo _ x5).trans x1
 have y2:=(xo _ x6).trans x2
 have y3:=(xo _ x7).trans x3
 have u1:(X.next==kl)=false:=by simp;omega
 have u2:(t.l.length+1≤maxApp)=True:=by simp[maxApp];omega
 have u3:(kl=X.next)=False:=by simp;omega
 have u4:(kl=X.next+1)=False:=by simp;omega
 have u5:(tid=X.next)=False:=by simp;omega
 have u6:(tid=X.next+1)=False:=by simp;omega
 have u7:(tid=kl)=False:=by simp;omega
 have u8:(tid=ke)=False:=by simp;omega
 have u9:(ke=X.next)=False:=by simp;omega
 have v1:(ke=X.next+1)=False:=by simp;omega
 have v2:(ke=kl)=False:=by simp;omega
 have v3:(ke=tid)=False:=by simp;omega
 have v4:(tid=X.next+1+1)=False:=by simp;omega
 have v5:(ke=X.next+1+1)=False:=by simp;omega
 have v6:(tid=X.next+1+1+1)=False:=by simp;omega
 have v7:(X.next+1+1==ke)=false:=by simp;omega
 have v8:(t.ends.length+1≤maxApp)=True:=by simp[maxApp];omega
 refine drawW_fixed mixedOrders L29_2_eq P29_2_eq ?_
 simp (maxSteps:=400000) only[wF,storeA,reduceCtorEq,Nat.reduceAdd,Nat.reduceSub,Nat.reduceEqDiff,Nat.reduceLeDiff,Int.reduceToNat,Int.reduceLE,Int.reduceLT,Int.reduceAdd,Int.reduceNeg,Nat.reduceMul,L29_2,T29,y0,y1,y2,xx,u1,u2,u3,u4,u5,u6,u7,u8,u9,v1,v2,v3,v4,v5,v6,v7,v8,AHeap.set_set,appendA,appSrc,AV.isSlc,sliceLit,fillA,zerosA,srcCells,AV.boxable,Nat.le_refl,Nat.reduceLT,evsA_len,natsA_len,Nat.mul_one]
 have p1:(ko=X.next)=False:=by simp;omega
 have p2:(ko=X.next+1)=False:=by simp;omega
 have p3:(ko=X.next+1+1)=False:=by simp;omega
 have p4:(ko=X.next+1+1+1)=False:=by simp;omega
 have p5:(ko=kl)=False:=by simp;omega
 have p6:(ko=ke)=False:=by simp;omega
 have p7:(ko=tid)=False:=by simp;omega
 have p8:(X.next+1=tid)=False:=by simp;omega
 have p9:(X.next+1=ke)=False:=by simp;omega
 have w1:(X.next+1+1+1=tid)=False:=by simp;omega
 have w2:(X.next+1=X.next+1+1+1)=False:=by simp
 have w3:(X.next+1=X.next+1+1)=False:=by simp
 refine⟨⟨fun l hl=>by simp at hl,fun l hl=>by simp at hl;subst hl;simp;omega⟩,⟨_,rfl⟩,X.next+1,X.next+1+1+1,⟨?_,?_,?_,?_,?_,?_,?_,?_,?_,?_,?_,?_,?_,?_⟩,?_,.inr (by omega),.inr (by omega),.inl rfl,fun j hj h1 h2 h3 h4=>?_⟩
 ·simp only[AHeap.get_set,if_true,RSt.add,List.length_append,List.length_singleton]
 ·simp only[AHeap.get_set,AHeap.get_allocAt,AHeap.get_del,p8,p9,w2,w3,if_true,if_false,RSt.add]
  simp[evsA,evC,hpl]
 ·simp only[AHeap.get_set,AHeap.get_allocAt,AHeap.get_del,w1,if_true,if_false,RSt.add]
  simp[natsA]
 ·simp only[AHeap.get_set,AHeap.get_allocAt,AHeap.get_del,p1,p2,p3,p4,p5,p6,p7,if_false]
  exact y3
 all_goals try (simp only[AHeap.next_set,AHeap.next_allocAt,AHeap.next_del];omega)
 all_goals try omega
 have q1:(j=X.next)=False:=by simp;omega
 have q2:(j=X.next+1)=False:=by simp;omega
 have q3:(j=X.next+1+1)=False:=by simp;omega
 have q4:(j=X.next+1+1+1)=False:=by simp;omega
 simp only[AHeap.get_set,AHeap.get_allocAt,AHeap.get_del,q1,q2,q3,q4,h1,h2,h3,if_false]
 exact xo j hj
end Go.Ab
namespace Go.Ab
open Go Go.Lib Go.Proofs
theorem RKeep.trans {J J1 J2:AHeap} {tid kl ke ko kl1 ke1 ko1 kl2 ke2 ko2:Nat} (h:RKeep J tid kl ke ko J1 kl1 ke1 ko1) (h':RKeep J1 tid kl1 ke1 ko1 J2 kl2 ke2 ko2):RKeep J tid kl ke ko J2 kl2 ke2 ko2:=by
 obtain⟨a,b,c,d,e⟩:=h
 obtain⟨a',b',c',d',e'⟩:=h'
 exact⟨by omega,by omega,by omega,by omega,fun j hj h1 h2 h3 h4=>(e' j (by omega) h1 (by omega) (by omega) (by omega)).trans (e j hj h1 h2 h3 h4)⟩
def DupB (l:List (List UInt8 × List UInt8)) (k:Nat):Prop:=∀i j (hi:i<k) (hj:j<i) (hk:k≤l.length),l[i].1≠l[j].1
theorem twiceF_true:∀(l:List (List UInt8 × List UInt8)) (seen:List (List UInt8)),twiceF seen l=true↔(∃x∈l,x.1∈seen)∨¬(l.map (·.1)).Nodup
 | [],seen=>by simp[twiceF]
 | a::l,seen=>by
  simp only[twiceF,Bool.or_eq_true,List.contains_iff_mem,twiceF_true l (a.1::seen),List.mem_cons,List.map_cons,List.nodup_cons,List.mem_map,exists_eq_or_imp]
  constructor
  ·rintro(h | ⟨x,hx,h | h⟩ | h)
   ·exact .inl (.inl h)
   ·exact .inr fun hh=>hh.1 ⟨x,hx,h⟩
   ·exact .inl (.inr ⟨x,hx,h⟩)
   ·exact .inr fun hh=>h hh.2
  ·rintro((h | ⟨x,hx,h⟩) | h)
   ·exact .inl h
   ·exact .inr (.inl ⟨x,hx,.inr h⟩)
   ·by_cases g:(l.map (·.1)).Nodup
    ·by_cases m:∃x,x∈l∧x.1=a.1
     ·obtain⟨x,hx,h⟩:=m
      exact .inr (.inl ⟨x,hx,.inl h⟩)
     ·exact absurd ⟨m,g⟩ h
    ·exact .inr (.inr g)
theorem dup_no {l:List (List UInt8 × List UInt8)} (h:DupB l l.length):twiceF [] l=false:=by
 rw[Bool.eq_false_iff]
 intro ht
 rw[twiceF_true]at ht
 rcases ht with ⟨x,_,h'⟩ | h'
 ·cases h'
 ·apply h'
  rw[List.nodup_iff_pairwise_ne,List.pairwise_iff_getElem]
  intro i j hi hj hij
  simp only[List.length_map]at hi hj
  simp only[List.getElem_map]
  exact fun he=>h j i hj hij (Nat.le_refl _) he.symm
theorem dup_yes {l:List (List UInt8 × List UInt8)} {i j:Nat} (hi:i<l.length) (hj:j<i) (h:l[i].1=l[j].1):twiceF [] l=true:=by
 rw[twiceF_true]
 right
 intro hn
 rw[List.nodup_iff_pairwise_ne,List.pairwise_iff_getElem]at hn
 have:=hn j i (by simp;omega) (by simpa using hi) hj
 simp only[List.getElem_map]at this
 exact this h.symm
def elementP (s:List UInt8) (t:RSt) (p:Pc) (i:Nat):Nat × RSt:=
 if t.opens=[]∧t.any=true then(5,t)
 else if twiceF [] p.x.attrs=true then(4,t)
 else if t.opens.length=200 then(2,t)
 else
  let u:=RSt.add { t with any:=true } s p.x i p.fin
  (0,if p.empty=true then u.add s ⟨1,p.x.name,[],[],0,0⟩ i p.fin else { u with opens:=u.opens++[p.x.name] })
theorem Weak.addNil (G:Nat→Option (List AV)) (tid:Nat) (s:List UInt8) (k:Int) (a b:List UInt8) (i e:Int) (J:AHeap) :
  Weak G [.ptr tid 0,.str s,.agg [.int .i64 k,.str a,.str b,.nils,.int .i64 0,.int .i64 0],.int .i64 i,.int .i64 e] J [.ptr tid 0,.str s,.agg [.int .i64 k,.str a,.str b,.lst 0 [],.int .i64 0,.int .i64 0],.int .i64 i,.int .i64 e] J:=
 Weak.nilLst ⟨.same _,.same _,.agg' ⟨.same _,.same _,.same _,.nil _ rfl,.same _,.same _,trivial⟩,.same _,.same _,trivial⟩
theorem attrsA_name:∀(l:List (List UInt8 × List UInt8)) (i:Nat) (h:i<l.length),(attrsA l)[i*2]?=some (.str l[i].1)
 | [],i,h=>by simp at h
 | a::l,0,_=>rfl
 | a::l,i+1,h=>by
  rw[show(i+1)*2=i*2+1+1 by omega]
  exact attrsA_name l i (by simpa using h)
set_option maxHeartbeats 8000000 in
set_option maxRecDepth 100000 in
theorem r_element_ok (G:Nat→Option (List AV)) {s:List UInt8} {p:Pc} {i:Nat} (hi:i≤s.length) (hs:s.length≤900000000) {H:AHeap} {tid kl ke ko:Nat} {t:RSt} {a er:Int} (h:RAt H tid kl ke ko t a er) (hl:t.l.length<900000) (hn:t.ends.length<900000) (ho:t.opens.length≤200) (hp:p.x.attrs.length≤900000000) :
  ACalls Tryz.prog G 59 [.ptr tid 0,.str s,.agg (pcC p),.int .i64 i] H fun r H'=>r = .ret (.int .i64 (elementP s t p i).1)∧∃kl' ke' ko',RAt H' tid kl' ke' ko' (elementP s t p i).2 a er∧RKeep H tid kl ke ko H' kl' ke' ko':=by
 refine ACalls.of Tryz.func59 S59_eq R59 N59 rfl rfl ?_
 obtain⟨x0,x1,x2,x3,x4,x5,x6,x7,x8,x9,x10,x11,x12,x13⟩:=h
 have u1:(tid=H.next)=False:=by simp;omega
 simp (maxSteps:=400000) only[wF,storeA,reduceCtorEq,Nat.reduceAdd,Nat.reduceSub,Nat.reduceEqDiff,Nat.reduceLeDiff,Int.reduceToNat,Int.reduceLE,Int.reduceLT,Int.reduceAdd,Int.reduceNeg,Nat.reduceMul,S59,N59,R59,T59,AV.boxable,pcC,evC,x0,u1,List.cons_append,List.nil_append]
 generalize hA:AHeap.allocAt H H.next _=A
 have an:A.next=H.next+1:=by rw[←hA];simp only[AHeap.next_allocAt];omega
 have aa:A.get H.next=some (.cells 69 (pcC p)):=by rw[←hA,AHeap.get_allocAt_same];rfl
 have ao:∀j,j<H.next→A.get j=H.get j:=fun j hj=>by rw[←hA,AHeap.get_allocAt_ne _ _ (by omega)]
 clear hA
 simp only[pcC,evC,List.cons_append,List.nil_append]at aa
 have y0:=(ao _ x4).trans x0
 have AtA:RAt A tid kl ke ko t a er:=⟨y0,(ao _ x5).trans x1,(ao _ x6).trans x2,(ao _ x7).trans x3,by omega,by omega,by omega,by omega,x8,x9,x10,x11,x12,x13⟩
 have KpA:RKeep H tid kl ke ko A kl ke ko:=⟨by omega,.inl rfl,.inl rfl,.inl rfl,fun j hj _ _ _ _=>ao j hj⟩
 by_cases hoa:t.opens=[]∧t.any=true
 ·have d:((t.opens.length:Int)==0)=true:=by rw[hoa.1];rfl
  simp (maxSteps:=400000) only[wF,storeA,reduceCtorEq,Nat.reduceAdd,Nat.reduceSub,Nat.reduceEqDiff,Nat.reduceLeDiff,Int.reduceToNat,Int.reduceLE,Int.reduceLT,Int.reduceAdd,Int.reduceNeg,Nat.reduceMul,T59,d,hoa.2,y0]
  have he:elementP s t p i=(5,t):=by unfold elementP;rw[if_pos hoa]
  rw[he]
  exact⟨rfl,kl,ke,ko,AtA,KpA⟩
 have hc:((t.opens.length:Int)==0)=false∨(((t.opens.length:Int)==0)=true∧t.any=false):=by
  cases ho:t.opens with
  | nil=>right;refine⟨rfl,?_⟩;rw[ho]at hoa;simpa using hoa
  | cons x l=>left;simp;omega
 have hel:elementP s t p i=if twiceF [] p.x.attrs=true then(4,t)
   else if t.opens.length=200 then(2,t)
   else
    (0,if p.empty=true then(RSt.add { t with any:=true } s p.x i p.fin).add s ⟨1,p.x.name,[],[],0,0⟩ i p.fin else { RSt.add { t with any:=true } s p.x i p.fin with opens:=t.opens++[p.x.name] }):=by unfold elementP;rw[if_neg hoa];rfl
 rw[hel]
 clear hel hoa
 generalize hat:p.x.attrs=at_ at aa hp
 rcases hc with d | ⟨d,da⟩
 all_goals
  first | simp (maxSteps:=400000) only[wF,storeA,reduceCtorEq,Nat.reduceAdd,Nat.reduceSub,Nat.reduceEqDiff,Nat.reduceLeDiff,Int.reduceToNat,Int.reduceLE,Int.reduceLT,Int.reduceAdd,Int.reduceNeg,Nat.reduceMul,T59,d,da,y0,aa] | simp (maxSteps:=400000) only[wF,storeA,reduceCtorEq,Nat.reduceAdd,Nat.reduceSub,Nat.reduceEqDiff,Nat.reduceLeDiff,Int.reduceToNat,Int.reduceLE,Int.reduceLT,Int.reduceAdd,Int.reduceNeg,Nat.reduceMul,T59,d,y0,aa]
  refine ATrS.loopK (κ:=Nat × AHeap) (fun x=>[.ptr tid 0,.str s,.agg [.int .i64 p.x.kind,.str p.x.name,.str p.x.text,.lst at_.length (attrsA at_),.int .i64 p.x.line,.int .i64 p.x.col,.int .i64 p.fin,.bool p.empty,.bool p.text,.bool p.data,.bool p.decl],.int .i64 i,.und,.und,.ptr H.next 0,.und,.int .i64 0,.lst at_.length (attrsA at_),.int .i64 x.1]++List.replicate 79 .und) (fun x=>x.2)
   (fun x=>x.1≤at_.length∧DupB at_ x.1∧Keeps A x.2) (fun x=>at_.length-x.1) ⟨(0,A),⟨Nat.zero_le _,(fun i j hi=>absurd hi (by omega)),Keeps.refl A⟩,by simp[Fg],HW.refl _⟩ ?_
  rintro⟨k,J⟩ ⟨k1,k2,hH⟩
  simp only at k1 k2 hH
  by_cases hlt:k<at_.length
  case pos=>
   have d1:decide ((k:Int)<(at_.length:Int))=true:=by simp;omega
   simp (maxSteps:=400000) only[wF,storeA,reduceCtorEq,Nat.reduceAdd,Nat.reduceSub,Nat.reduceEqDiff,Nat.reduceLeDiff,Int.reduceToNat,Int.reduceLE,Int.reduceLT,Int.reduceAdd,Int.reduceNeg,Nat.reduceMul,T59,d1]
   refine ATrS.loopK (κ:=Nat × AHeap) (fun x=>[.ptr tid 0,.str s,.agg [.int .i64 p.x.kind,.str p.x.name,.str p.x.text,.lst at_.length (attrsA at_),.int .i64 p.x.line,.int .i64 p.x.col,.int .i64 p.fin,.bool p.empty,.bool p.text,.bool p.data,.bool p.decl],.int .i64 i,.und,.und,.ptr H.next 0,.und,.int .i64 0,.lst at_.length (attrsA at_),.int .i64 k,.int .i64 x.1]++List.replicate 78 .und) (fun x=>x.2)
    (fun x=>x.1≤k∧(∀j (hj:j<x.1) (hk:x.1≤k),at_[k].1≠at_[j].1)∧Keeps A x.2) (fun x=>k-x.1) ⟨(0,J),⟨Nat.zero_le _,(fun j hj=>absurd hj (by omega)),hH⟩,by simp[Fg],HW.refl _⟩ ?_
   rintro⟨m,L⟩ ⟨m1,m2,hL⟩
   simp only at m1 m2 hL
   by_cases hm:m<k
   case neg=>
    have d2:decide ((m:Int)<(k:Int))=false:=by simp;omega
    have ek:IntKind.i64.wrap ((k:Int)+1)=((k+1:Nat):Int):=by rw[wrap64]<;>omega
    simp (maxSteps:=400000) only[wF,storeA,reduceCtorEq,Nat.reduceAdd,Nat.reduceSub,Nat.reduceEqDiff,Nat.reduceLeDiff,Int.reduceToNat,Int.reduceLE,Int.reduceLT,Int.reduceAdd,Int.reduceNeg,Nat.reduceMul,T59,d2,ek]
    refine⟨(k+1,L),⟨hlt,fun i' j hi hj hk=>?_,hL⟩,by simp only;omega,by simp[Fg],HW.refl _⟩
    by_cases e:i'=k
    ·subst e
     exact m2 j (by omega) m1
    ·exact k2 i' j (by omega) hj k1
   have d2:decide ((m:Int)<(k:Int))=true:=by simp;omega
   simp (maxSteps:=400000) only[wF,storeA,reduceCtorEq,Nat.reduceAdd,Nat.reduceSub,Nat.reduceEqDiff,Nat.reduceLeDiff,Int.reduceToNat,Int.reduceLE,Int.reduceLT,Int.reduceAdd,Int.reduceNeg,Nat.reduceMul,T59,d2]
   have ga:=attrsA_name at_ k hlt
   have gm:=attrsA_name at_ m (by omega)
   have rk:(0≤(k:Int)∧(k:Int)<(at_.length:Int))=True:=by simp;omega
   have rm:(0≤(m:Int)∧(m:Int)<(at_.length:Int))=True:=by simp;omega
   refine drawW_fixed mixedOrders L59_10_eq P59_10_eq ?_
   simp (maxSteps:=400000) only[wF,storeA,reduceCtorEq,Nat.reduceAdd,Nat.reduceSub,Nat.reduceEqDiff,Nat.reduceLeDiff,Int.reduceToNat,Int.reduceLE,Int.reduceLT,Int.reduceAdd,Int.reduceNeg,Nat.reduceMul,L59_10,T59,ga,gm,rk,rm,indexAddrA,Int.toNat_natCast,Nat.add_zero]
   refine⟨by omega,by omega,?_⟩
   by_cases e:at_[k].1=at_[m].1
   ·have z:(at_[k].1==at_[m].1)=true:=by simpa using e
    rw[dup_yes hlt hm e]
    simp (maxSteps:=400000) only[wF,storeA,reduceCtorEq,Nat.reduceAdd,Nat.reduceSub,Nat.reduceEqDiff,Nat.reduceLeDiff,Int.reduceToNat,Int.reduceLE,Int.reduceLT,Int.reduceAdd,Int.reduceNeg,Nat.reduceMul,z]
    obtain⟨b0,b1,b2,b3,b4,b5,b6,b7,_⟩:=AtA
    rw[←hL.2]at b0 b1 b2 b3
    have ln:=hL.1
    exact⟨rfl,kl,ke,ko,⟨b0,b1,b2,b3,by omega,by omega,by omega,by omega,x8,x9,x10,x11,x12,x13⟩,KpA.trans ⟨ln,.inl rfl,.inl rfl,.inl rfl,fun j _ _ _ _ _=>by rw[hL.2]⟩⟩
   ·have z:(at_[k].1==at_[m].1)=false:=by simpa using e
    have em:IntKind.i64.wrap ((m:Int)+1)=((m+1:Nat):Int):=by rw[wrap64]<;>omega
    simp (maxSteps:=400000) only[wF,storeA,reduceCtorEq,Nat.reduceAdd,Nat.reduceSub,Nat.reduceEqDiff,Nat.reduceLeDiff,Int.reduceToNat,Int.reduceLE,Int.reduceLT,Int.reduceAdd,Int.reduceNeg,Nat.reduceMul,z,T59,em]
    refine⟨(m+1,L),⟨hm,fun j hj hk=>?_,hL⟩,by simp only;omega,by simp[Fg],HW.refl _⟩
    by_cases e':j=m
    ·subst e'
     exact e
    ·exact m2 j (by omega) m1
  case neg=>
   have d1:decide ((k:Int)<(at_.length:Int))=false:=by simp;omega
   have hke:k=at_.length:=by omega
   subst hke
   rw[dup_no k2]
   simp only[Bool.false_eq_true,if_false]
   have y0':=y0
   rw[←hH.2]at y0'
   have aa':=aa
   rw[←hH.2]at aa'
   have jn:=hH.1
   have AtJ:RAt J tid kl ke ko t a er:=by
    obtain⟨b0,b1,b2,b3,b4,b5,b6,b7,_⟩:=AtA
    rw[←hH.2]at b0 b1 b2 b3
    exact⟨b0,b1,b2,b3,by omega,by omega,by omega,by omega,x8,x9,x10,x11,x12,x13⟩
   have KpJ:RKeep H tid kl ke ko J kl ke ko:=KpA.trans ⟨jn,.inl rfl,.inl rfl,.inl rfl,fun j _ _ _ _ _=>by rw[hH.2]⟩
   by_cases h200:t.opens.length=200
   ·have d2:((t.opens.length:Int)==200)=true:=by rw[h200];rfl
    rw[if_pos h200]
    simp (maxSteps:=400000) only[wF,storeA,reduceCtorEq,Nat.reduceAdd,Nat.reduceSub,Nat.reduceEqDiff,Nat.reduceLeDiff,Int.reduceToNat,Int.reduceLE,Int.reduceLT,Int.reduceAdd,Int.reduceNeg,Nat.reduceMul,T59,d1,y0',d2]
    exact⟨rfl,kl,ke,ko,AtJ,KpJ⟩
   ·have d2:((t.opens.length:Int)==200)=false:=by simp;omega
    have u2:(H.next=tid)=False:=by simp;omega
    rw[if_neg h200]
    simp (maxSteps:=400000) only[wF,storeA,reduceCtorEq,Nat.reduceAdd,Nat.reduceSub,Nat.reduceEqDiff,Nat.reduceLeDiff,Int.reduceToNat,Int.reduceLE,Int.reduceLT,Int.reduceAdd,Int.reduceNeg,Nat.reduceMul,T59,d1,y0',d2,aa',u1,u2]
    generalize hY:AHeap.set J tid _=Y
    have yn:Y.next=J.next:=by rw[←hY];rfl
    have yo:∀j,j≠tid→Y.get j=J.get j:=fun j hj=>by rw[←hY,AHeap.get_set_ne _ _ hj]
    have AtY:RAt Y tid kl ke ko { t with any:=true } a er:=by
     obtain⟨b0,b1,b2,b3,b4,b5,b6,b7,_⟩:=AtJ
     exact⟨by rw[←hY,AHeap.get_set_same],by rw[yo _ x8];exact b1,by rw[yo _ x9];exact b2,by rw[yo _ x10];exact b3,by omega,by omega,by omega,by omega,x8,x9,x10,x11,x12,x13⟩
    have KpY:RKeep H tid kl ke ko Y kl ke ko:=KpJ.trans ⟨by omega,.inl rfl,.inl rfl,.inl rfl,fun j _ hj _ _ _=>yo j hj⟩
    have yb:=aa'
    rw[←yo _ (by omega)]at yb
    clear hY
    have hadd:=r_add_ok G (x:=p.x) (e:=p.fin) hi hs AtY (by simp only;omega) (by simp only;omega)
    simp only[evC,hat]at hadd
    refine AInv.call B29 hadd fun r1 J1 h1=>?_
    obtain⟨⟨v1,rfl⟩,kl1,ke1,At1,Kp1⟩:=h1
    have At1':=At1
    obtain⟨b0,b1,b2,b3,b4,b5,b6,b7,b8,b9,b10,b11,b12,b13⟩:=At1
    have kn1:=Kp1.1
    have jb:=yb
    rw[←Kp1.2.2.2.2 H.next (by omega) (by omega) (by omega) (by omega) (by omega)]at jb
    have hlen:(RSt.add { t with any:=true } s p.x i p.fin).l.length=t.l.length+1:=by simp[RSt.add]
    have hlen2:(RSt.add { t with any:=true } s p.x i p.fin).ends.length=t.ends.length+1:=by simp[RSt.add]
    have hop:(RSt.add { t with any:=true } s p.x i p.fin).opens=t.opens:=rfl
    generalize RSt.add { t with any:=true } s p.x i p.fin=u at *
    cases hemp:p.empty with
    | true=>
     simp only[hemp]at jb
     simp (maxSteps:=400000) only[wF,storeA,reduceCtorEq,Nat.reduceAdd,Nat.reduceSub,Nat.reduceEqDiff,Nat.reduceLeDiff,Int.reduceToNat,Int.reduceLE,Int.reduceLT,Int.reduceAdd,Int.reduceNeg,Nat.reduceMul,T59,jb,buildA,fillA,AV.boxable]
     have hadd2:=r_add_ok G (x:=⟨1,p.x.name,[],[],0,0⟩) (e:=p.fin) hi hs At1' (by omega) (by omega)
     refine AInv.call B29 (ACalls.weak (Weak.addNil G _ _ _ _ _ _ _ _) hadd2) fun r2 J2 h2=>?_
     obtain⟨⟨v2,rfl⟩,kl2,ke2,At2,Kp2⟩:=h2
     simp (maxSteps:=400000) only[wF,storeA,reduceCtorEq,Nat.reduceAdd,Nat.reduceSub,Nat.reduceEqDiff,Nat.reduceLeDiff,Int.reduceToNat,Int.reduceLE,Int.reduceLT,Int.reduceAdd,Int.reduceNeg,Nat.reduceMul,]
     exact⟨rfl,kl2,ke2,ko,At2,KpY.trans (Kp1.trans Kp2)⟩
    | false=>
     simp only[hemp]at jb
     simp (maxSteps:=400000) only[wF,storeA,reduceCtorEq,Nat.reduceAdd,Nat.reduceSub,Nat.reduceEqDiff,Nat.reduceLeDiff,Int.reduceToNat,Int.reduceLE,Int.reduceLT,Int.reduceAdd,Int.reduceNeg,Nat.reduceMul,T59,jb]
     refine drawW_fixed mixedOrders L59_18_eq P59_18_eq ?_
     have e1:(J1.next==ko)=false:=by simp;omega
     have e2:(t.opens.length+1≤maxApp)=True:=by simp[maxApp];omega
     have e3:(ko=J1.next)=False:=by simp;omega
     have e4:(tid=J1.next)=False:=by simp;omega
     have e5:(tid=J1.next+1)=False:=by simp;omega
     have e6:(tid=ko)=False:=by simp;omega
     rw[hop]at b3 b0
     simp (maxSteps:=400000) only[wF,storeA,reduceCtorEq,Nat.reduceAdd,Nat.reduceSub,Nat.reduceEqDiff,Nat.reduceLeDiff,Int.reduceToNat,Int.reduceLE,Int.reduceLT,Int.reduceAdd,Int.reduceNeg,Nat.reduceMul,L59_18,T59,jb,b0,b3,e1,e2,e3,e4,e5,e6,AHeap.set_set,appendA,appSrc,AV.isSlc,sliceLit,fillA,zerosA,srcCells,AV.boxable,Nat.le_refl,Nat.reduceLT,strsA_len,Nat.mul_one]
     have f1:(kl1=J1.next)=False:=by simp;omega
     have f2:(kl1=J1.next+1)=False:=by simp;omega
     have f3:(ke1=J1.next)=False:=by simp;omega
     have f4:(ke1=J1.next+1)=False:=by simp;omega
     have f5:(kl1=ko)=False:=by simp;omega
     have f6:(ke1=ko)=False:=by simp;omega
     have f7:(kl1=tid)=False:=by simp;omega
     have f8:(ke1=tid)=False:=by simp;omega
     have f9:(J1.next+1=tid)=False:=by simp;omega
     refine⟨⟨fun l hl=>by simp at hl,fun l hl=>by simp at hl;subst hl;simp;omega⟩,rfl,kl1,ke1,J1.next+1,⟨?_,?_,?_,?_,?_,?_,?_,?_,?_,?_,?_,?_,?_,?_⟩,KpY.trans (Kp1.trans ⟨?_,.inl rfl,.inl rfl,.inr (by omega),fun j hj h1 h2 h3 h4=>?_⟩)⟩
     ·simp only[AHeap.get_set,if_true,List.length_append,List.length_singleton]
     ·simp only[AHeap.get_set,AHeap.get_allocAt,AHeap.get_del,f1,f2,f5,f7,if_false]
      exact b1
     ·simp only[AHeap.get_set,AHeap.get_allocAt,AHeap.get_del,f3,f4,f6,f8,if_false]
      exact b2
     ·simp only[AHeap.get_set,AHeap.get_allocAt,AHeap.get_del,f9,if_true,if_false]
      simp[strsA]
     all_goals try (simp only[AHeap.next_set,AHeap.next_allocAt,AHeap.next_del];omega)
     all_goals try omega
     have q1:(j=J1.next)=False:=by simp;omega
     have q2:(j=J1.next+1)=False:=by simp;omega
     simp only[AHeap.get_set,AHeap.get_allocAt,AHeap.get_del,q1,q2,h1,h4,if_false]
end Go.Ab
namespace Go.Ab
open Go Go.Lib Go.Proofs
theorem Weak.popState (G:Nat→Option (List AV)) {H:AHeap} {tid kl ke ko:Nat} {e re:TypeId} {cs:List AV} {k n m:Nat} {x2 x3 x5:AV} (hpid:H.get tid=some (.cells e [.slc kl n,.slc ke m,x2,x3,.slc ko k,x5])) (hrow:H.get ko=some (.row re 1 cs)) (hk:k≤cs.length) (hpn:tid<H.next) (hkn:ko<H.next) (a:List AV) :
  ∃H',Weak G a H a H'∧H'.get tid=some (.cells e [.slc kl n,.slc ke m,x2,x3,.slc H.next k,x5])∧H'.get H.next=some (.row re 1 (cs.take k))∧H'.next=H.next+1∧∀j,j<H.next→j≠tid→j≠ko→H'.get j=H.get j:=by
 have hne:tid≠ko:=by
  intro h
  subst h
  rw[hpid]at hrow
  cases hrow
 refine⟨⟨H.next+1,fun j=>if j=H.next then some (.row re 1 (cs.take k))else if j=ko then none else if j=tid then some (.cells e [.slc kl n,.slc ke m,x2,x3,.slc H.next k,x5])else H.get j⟩,
  Weak.rename hrow (by omega) H.next k (by omega) (Nat.le_refl _) (Nat.lt_succ_self _) ?_ (by simp) (fun j=>?_) (Tzs.refl _),?_,by simp,rfl,fun j h1 h2 h3=>?_⟩
 ·simp
  omega
 ·by_cases h1:j=H.next
  ·exact .inl h1
  ·by_cases h2:j=ko
   ·exact .inr (.inl (by subst h2;simp[h1]))
   ·by_cases h3:j=tid
    ·subst h3
     exact .inr (.inr ⟨_,.cells e [.slc kl n,.slc ke m,x2,x3,.slc H.next k,x5],hpid,by simp[h1,h2],.cells _ _ _ (show Tzs _ _ _ _ _ from ⟨.same _,.same _,.same _,.same _,.slc _ _ (by simp),.same _,trivial⟩)⟩)
    ·cases hg:H.get j with
     | none=>exact .inr (.inl (by simp[h1,h2,h3,hg]))
     | some o=>exact .inr (.inr ⟨o,o,rfl,by simp[h1,h2,h3,hg],.same o⟩)
 ·have:tid≠H.next:=by omega
  simp[this,hne]
 ·have:j≠H.next:=by omega
  simp[this,h2,h3]
def pieceP (s:List UInt8) (t:RSt) (p:Pc) (i:Nat):Nat × RSt:=
 if p.decl=true then(0,t)
 else if p.x.kind=0 then elementP s t p i
 else if p.x.kind=1 then(if t.opens.getLast?=some p.x.name then(0,RSt.add { t with opens:=t.opens.dropLast } s p.x i p.fin)else(110,t))
 else(0,t.add s p.x i p.fin)
set_option maxHeartbeats 8000000 in
set_option maxRecDepth 100000 in
theorem r_piece_ok (G:Nat→Option (List AV)) {s:List UInt8} {p:Pc} {i:Nat} (hi:i≤s.length) (hs:s.length≤900000000) {H:AHeap} {tid kl ke ko:Nat} {t:RSt} {a er:Int} (h:RAt H tid kl ke ko t a er) (hl:t.l.length<900000) (hn:t.ends.length<900000) (ho:t.opens.length≤200) (hp:p.x.attrs.length≤900000000) (hk:p.x.kind≤9) :
  ACalls Tryz.prog G 32 [.ptr tid 0,.str s,.agg (pcC p),.int .i64 i] H fun r H'=>r = .ret (.int .i64 (pieceP s t p i).1)∧∃kl' ke' ko',RAt H' tid kl' ke' ko' (pieceP s t p i).2 a er∧RKeep H tid kl ke ko H' kl' ke' ko':=by
 refine ACalls.of Tryz.func32 S32_eq R32 N32 rfl rfl ?_
 obtain⟨x0,x1,x2,x3,x4,x5,x6,x7,x8,x9,x10,x11,x12,x13⟩:=h
 have u1:(tid=H.next)=False:=by simp;omega
 simp (maxSteps:=400000) only[wF,storeA,reduceCtorEq,Nat.reduceAdd,Nat.reduceSub,Nat.reduceEqDiff,Nat.reduceLeDiff,Int.reduceToNat,Int.reduceLE,Int.reduceLT,Int.reduceAdd,Int.reduceNeg,Nat.reduceMul,S32,N32,R32,T32,AV.boxable,pcC,evC,x0,u1,List.cons_append,List.nil_append]
 generalize hA:AHeap.allocAt H H.next _=A
 have an:A.next=H.next+1:=by rw[←hA];simp only[AHeap.next_allocAt];omega
 have aa:A.get H.next=some (.cells 69 (pcC p)):=by rw[←hA,AHeap.get_allocAt_same];rfl
 have ao:∀j,j<H.next→A.get j=H.get j:=fun j hj=>by rw[←hA,AHeap.get_allocAt_ne _ _ (by omega)]
 clear hA
 have u2:(H.next=tid)=False:=by simp;omega
 have y0:=(ao _ x4).trans x0
 have y3:=(ao _ x7).trans x3
 have AtA:RAt A tid kl ke ko t a er:=⟨y0,(ao _ x5).trans x1,(ao _ x6).trans x2,y3,by omega,by omega,by omega,by omega,x8,x9,x10,x11,x12,x13⟩
 have KpA:RKeep H tid kl ke ko A kl ke ko:=⟨by omega,.inl rfl,.inl rfl,.inl rfl,fun j hj _ _ _ _=>ao j hj⟩
 unfold pieceP
 cases hdec:p.decl with
 | true=>
  simp only[if_true]
  simp (maxSteps:=400000) only[wF,storeA,reduceCtorEq,Nat.reduceAdd,Nat.reduceSub,Nat.reduceEqDiff,Nat.reduceLeDiff,Int.reduceToNat,Int.reduceLE,Int.reduceLT,Int.reduceAdd,Int.reduceNeg,Nat.reduceMul,]
  exact⟨rfl,kl,ke,ko,AtA,KpA⟩
 | false=>
  simp only[pcC,evC,List.cons_append,List.nil_append,hdec]at aa
  simp only[Bool.false_eq_true,if_false]
  by_cases h0:p.x.kind=0
  ·have d:((p.x.kind:Int)==0)=true:=by rw[h0];rfl
   rw[if_pos h0]
   simp (maxSteps:=400000) only[wF,storeA,reduceCtorEq,Nat.reduceAdd,Nat.reduceSub,Nat.reduceEqDiff,Nat.reduceLeDiff,Int.reduceToNat,Int.reduceLE,Int.reduceLT,Int.reduceAdd,Int.reduceNeg,Nat.reduceMul,T32,aa,d]
   have hadd:=r_element_ok G (p:=p) hi hs AtA hl hn ho hp
   simp only[pcC,evC,List.cons_append,List.nil_append,hdec]at hadd
   refine AInv.call B59 hadd fun r1 J1 h1=>?_
   obtain⟨rfl,kl1,ke1,ko1,At1,Kp1⟩:=h1
   simp (maxSteps:=400000) only[wF,storeA,reduceCtorEq,Nat.reduceAdd,Nat.reduceSub,Nat.reduceEqDiff,Nat.reduceLeDiff,Int.reduceToNat,Int.reduceLE,Int.reduceLT,Int.reduceAdd,Int.reduceNeg,Nat.reduceMul,T32]
   exact⟨kl1,ke1,ko1,At1,KpA.trans Kp1⟩
  rw[if_neg h0]
  have d:((p.x.kind:Int)==0)=false:=by simp;omega
  by_cases h1:p.x.kind=1
  ·have d1:((p.x.kind:Int)==1)=true:=by rw[h1];rfl
   rw[if_pos h1]
   rcases List.eq_nil_or_concat t.opens with ho0 | ⟨init,last,ho1⟩
   ·rw[ho0]at y0
    have e0:(([]:List (List UInt8)).length:Int)=0:=rfl
    have z:(((0:Nat):Int)==0)=true:=rfl
    rw[ho0,if_neg (by simp)]
    simp (maxSteps:=400000) only[wF,storeA,reduceCtorEq,Nat.reduceAdd,Nat.reduceSub,Nat.reduceEqDiff,Nat.reduceLeDiff,Int.reduceToNat,Int.reduceLE,Int.reduceLT,Int.reduceAdd,Int.reduceNeg,Nat.reduceMul,T32,aa,d,d1,y0]
    refine drawW_fixed mixedOrders L32_7_eq P32_7_eq ?_
    simp (maxSteps:=400000) only[wF,storeA,reduceCtorEq,Nat.reduceAdd,Nat.reduceSub,Nat.reduceEqDiff,Nat.reduceLeDiff,Int.reduceToNat,Int.reduceLE,Int.reduceLT,Int.reduceAdd,Int.reduceNeg,Nat.reduceMul,L32_7,T32,List.length_nil,z]
    exact⟨rfl,kl,ke,ko,AtA,KpA⟩
   ·rw[ho1,List.concat_eq_append]at y0 y3
    have e0:(((init++[last]).length:Nat):Int)=((init.length+1:Nat):Int):=by simp
    have z:(((init.length+1:Nat):Int)==0)=false:=by simp;omega
    have e1:IntKind.i64.wrap (((init.length+1:Nat):Int)-1)=(init.length:Int):=by rw[wrap64]<;>(have:=ho;simp[ho1]at this;omega)
    have q1:(0≤(init.length:Int)∧(init.length:Int)<((init.length+1:Nat):Int))=True:=by simp;omega
    have q2:((init.length:Int)≤((init.length+1:Nat):Int))=True:=by simp;omega
    have hgl:(strsA (init++[last]))[init.length]?=some (.str last):=by simp[strsA]
    simp only[List.length_append,List.length_singleton]at y0
    rw[ho1]
    simp (maxSteps:=400000) only[wF,storeA,reduceCtorEq,Nat.reduceAdd,Nat.reduceSub,Nat.reduceEqDiff,Nat.reduceLeDiff,Int.reduceToNat,Int.reduceLE,Int.reduceLT,Int.reduceAdd,Int.reduceNeg,Nat.reduceMul,T32,aa,d,d1,y0]
    refine drawW_fixed mixedOrders L32_7_eq P32_7_eq ?_
    cases hne:(last==p.x.name)with
    | false=>
     have hg:¬(init++[last]).getLast?=some p.x.name:=by simp at hne ⊢;exact hne
     rw[List.concat_eq_append,if_neg hg]
     simp (maxSteps:=400000) only[wF,storeA,reduceCtorEq,Nat.reduceAdd,Nat.reduceSub,Nat.reduceEqDiff,Nat.reduceLeDiff,Int.reduceToNat,Int.reduceLE,Int.reduceLT,Int.reduceAdd,Int.reduceNeg,Nat.reduceMul,L32_7,T32,z,e1,y0,y3,aa,q1,hgl,hne,indexAddrA,Int.toNat_natCast,Nat.mul_one,Bool.not_false]
     exact⟨by omega,rfl,kl,ke,ko,AtA,KpA⟩
    | true=>
     have hg:(init++[last]).getLast?=some p.x.name:=by simp at hne ⊢;exact hne
     rw[List.concat_eq_append,if_pos hg]
     simp (maxSteps:=400000) only[wF,storeA,reduceCtorEq,Nat.reduceAdd,Nat.reduceSub,Nat.reduceEqDiff,Nat.reduceLeDiff,Int.reduceToNat,Int.reduceLE,Int.reduceLT,Int.reduceAdd,Int.reduceNeg,Nat.reduceMul,L32_7,T32,z,e1,y0,y3,aa,u2,q1,q2,hgl,hne,indexAddrA,sliceA,boundA,Int.toNat_natCast,Nat.mul_one,Bool.not_true]
     refine⟨by omega,?_⟩
     generalize hX:AHeap.set A tid _=X
     have xn:X.next=A.next:=by rw[←hX];rfl
     have xx:X.get tid=some (.cells 67 [.slc kl t.l.length,.slc ke t.ends.length,.int .i64 a,.int .i64 er,.slc ko init.length,.bool t.any]):=by rw[←hX,AHeap.get_set_same]
     have xo:∀j,j≠tid→X.get j=A.get j:=fun j hj=>by rw[←hX,AHeap.get_set_ne _ _ hj]
     obtain⟨H4,hw,w1,w2,w3,w4⟩:=Weak.popState G xx ((xo _ x10).trans y3) (k:=init.length) (by simp[strsA]) (by omega) (by omega) [.ptr tid 0,.str s,.agg (evC p.x),.int .i64 i,.int .i64 p.fin]
     have At4:RAt H4 tid kl ke X.next { t with opens:=init } a er:=by
      obtain⟨b0,b1,b2,b3,b4,b5,b6,b7,_⟩:=AtA
      refine⟨w1,?_,?_,?_,by omega,by omega,by omega,by omega,x8,x9,by omega,x11,by omega,by omega⟩
      ·rw[w4 _ (by omega) x8 x12,xo _ x8];exact b1
      ·rw[w4 _ (by omega) x9 x13,xo _ x9];exact b2
      ·rw[w2];simp[strsA]
     have Kp4:RKeep H tid kl ke ko H4 kl ke X.next:=KpA.trans ⟨by omega,.inl rfl,.inl rfl,.inr (by omega),fun j hj h1 h2 h3 h4=>(w4 j (by omega) h1 h4).trans (xo j h1)⟩
     have hadd:=r_add_ok G (x:=p.x) (e:=p.fin) hi hs At4 (by simp only;omega) (by simp only;omega)
     refine AInv.call B29 (ACalls.weak hw hadd) fun r1 J1 h1=>?_
     obtain⟨⟨v1,rfl⟩,kl1,ke1,At1,Kp1⟩:=h1
     simp (maxSteps:=400000) only[wF,storeA,reduceCtorEq,Nat.reduceAdd,Nat.reduceSub,Nat.reduceEqDiff,Nat.reduceLeDiff,Int.reduceToNat,Int.reduceLE,Int.reduceLT,Int.reduceAdd,Int.reduceNeg,Nat.reduceMul,]
     rw[show(init++[last]).dropLast=init by simp]
     exact⟨rfl,kl1,ke1,_,At1,Kp4.trans Kp1⟩
  ·have d1:((p.x.kind:Int)==1)=false:=by simp;omega
   rw[if_neg h1]
   simp (maxSteps:=400000) only[wF,storeA,reduceCtorEq,Nat.reduceAdd,Nat.reduceSub,Nat.reduceEqDiff,Nat.reduceLeDiff,Int.reduceToNat,Int.reduceLE,Int.reduceLT,Int.reduceAdd,Int.reduceNeg,Nat.reduceMul,T32,aa,d,d1]
   have hadd:=r_add_ok G (x:=p.x) (e:=p.fin) hi hs AtA (by omega) (by omega)
   simp only[evC]at hadd
   refine AInv.call B29 hadd fun r1 J1 h1=>?_
   obtain⟨⟨v1,rfl⟩,kl1,ke1,At1,Kp1⟩:=h1
   simp (maxSteps:=400000) only[wF,storeA,reduceCtorEq,Nat.reduceAdd,Nat.reduceSub,Nat.reduceEqDiff,Nat.reduceLeDiff,Int.reduceToNat,Int.reduceLE,Int.reduceLT,Int.reduceAdd,Int.reduceNeg,Nat.reduceMul,T32]
   exact⟨rfl,kl1,ke1,ko,At1,KpA.trans Kp1⟩
end Go.Ab
namespace Go.Ab
open Go Go.Lib Go.Proofs
theorem rtextL_bound {s:List UInt8} {i:Nat} (h:i<s.length) (h2:s.getD i 0≠60):match rtextL s i []with
  | .ok x=>i<x.2∧x.2≤s.length∧x.1.length≤4*x.2
  | .error k=>i≤k∧k<s.length:=by
 rw[rtextL_step [] h h2]
 by_cases c1:Lib.hasPrefix (s.drop i) sCend=true
 ·rw[if_pos c1];exact⟨Nat.le_refl _,h⟩
 rw[if_neg c1]
 by_cases c2:s.getD i 0=38
 ·rw[if_pos c2]
  by_cases c3:(refD (s.drop (i+1))).2.2=true
  ·rw[if_pos c3]
   have hb:=refD_bound c3
   have hl:=refD_len (s.drop (i+1))
   simp only[List.length_drop]at hb
   have:=rtextF_bound (s:=s) (s.length-(i+1+(refD (s.drop (i+1))).2.1+1)) (i+1+(refD (s.drop (i+1))).2.1+1) ([]++(refD (s.drop (i+1))).1) (by omega) (by simp only[List.nil_append];omega)
   unfold rtextL
   generalize rtextF _ s (i+1+(refD (s.drop (i+1))).2.1+1) ([]++(refD (s.drop (i+1))).1)=r at this
   cases r with
   | ok x=>simp only at this ⊢;omega
   | error x=>simp only at this ⊢;omega
  ·rw[if_neg c3];exact⟨Nat.le_refl _,h⟩
 ·rw[if_neg c2]
  have:=rtextF_bound (s:=s) (s.length-(i+1)) (i+1) ([]++[s.getD i 0]) (by omega) (by simp only[List.nil_append,List.length_singleton];omega)
  unfold rtextL
  generalize rtextF _ s (i+1) ([]++[s.getD i 0])=r at this
  cases r with
  | ok x=>simp only at this ⊢;omega
  | error x=>simp only at this ⊢;omega
def PcOk (s:List UInt8) (i:Nat) (p:Pc):Prop:=i<p.fin∧p.fin≤s.length∧p.x.attrs.length≤s.length∧p.x.kind≤4∧p.x.text.length≤s.length
theorem otherP_bound {s:List UInt8} {i:Nat} (hi:i≤s.length) {p:Pc} (h:otherP s i=some p):PcOk s i p:=by
 unfold otherP at h
 simp only at h
 rcases insideR_cases hi sCom sDash with ⟨c1,c2⟩ | ⟨n,c1,c3,c4,c5⟩
 case inr=>
  rw[c1,if_pos (by omega)]at h
  split at h
  ·rename_i hp
   have:=hasPrefix_len hp
   simp only[List.length_drop,List.length_singleton,Int.toNat_natCast]at this
   cases h
   simp only[sCom,sDash,List.length_cons,List.length_nil]at c3
   exact⟨by simp only[Int.toNat_natCast];omega,by simp only[Int.toNat_natCast];omega,Nat.zero_le _,by simp,c5⟩
  ·cases h
 rw[c1,if_neg (by omega)]at h
 rcases insideR_cases hi sCdata sCend with ⟨d1,d2⟩ | ⟨n,d1,d3,d4,d5⟩
 case inr=>
  rw[d1,if_pos (by omega)]at h
  cases h
  simp only[sCdata,sCend,List.length_cons,List.length_nil]at d3
  exact⟨by simp only[Int.toNat_natCast];omega,by simp only[Int.toNat_natCast];omega,Nat.zero_le _,by simp,d5⟩
 rw[d1,if_neg (by omega)]at h
 split at h
 ·rename_i hx
  rcases insideR_cases hi sXml [63,62]with ⟨e1,e2⟩ | ⟨n,e1,e3,e4,e5⟩
  ·rw[e1]at hx;omega
  ·rw[e1]at h
   cases h
   simp only[sXml,List.length_cons,List.length_nil]at e3
   exact⟨by simp only[Int.toNat_natCast];omega,by simp only[Int.toNat_natCast];omega,Nat.zero_le _,by simp,Nat.zero_le _⟩
 ·split at h
  ·cases h
  ·rename_i hx
   rcases insideR_cases hi [60,63] [63,62]with ⟨e1,e2⟩ | ⟨n,e1,e3,e4,e5⟩
   ·rw[e1]at hx;exact absurd (.inl (by omega)) hx
   ·rw[e1]at h
    cases h
    simp only[List.length_cons,List.length_nil]at e3
    exact⟨by simp only[Int.toNat_natCast];omega,by simp only[Int.toNat_natCast];omega,Nat.zero_le _,by simp,by simp only[List.length_drop];omega⟩
theorem endP_bound {s:List UInt8} {i:Nat} {p:Pc} (h:endP s i=some p):PcOk s i p:=by
 unfold endP at h
 split at h
 ·rename_i he
  have:=endS_bound he
  cases h
  exact⟨by simp only;omega,by simp only;omega,Nat.zero_le _,by simp,Nat.zero_le _⟩
 ·cases h
theorem startP_bound {s:List UInt8} {i:Nat} (hi:i<s.length) {p:Pc} (h:startP s i=some p):PcOk s i p:=by
 unfold startP at h
 cases hs:startS s i with
 | none=>rw[hs]at h;cases h
 | some t=>
  rw[hs]at h
  have hb:=startS_bound hi hs
  cases h
  have ha:t.attrs.length≤s.length:=by
   have hul:=untilN_le (s:=s) (i:=i+1) [47,62] (by omega)
   unfold startS at hs
   simp only at hs
   split at hs
   ·rw[Option.map_eq_some_iff]at hs
    obtain⟨x,hx,rfl⟩:=hs
    exact tagF_len _ _ _ _ hul (Nat.zero_le _) hx
   ·cases hs
  exact⟨by simp only;omega,by simp only;omega,ha,by simp,Nat.zero_le _⟩
theorem atP_bound {s:List UInt8} {i:Nat} (hi:i<s.length) {p:Pc} (h:atP s i=some p):PcOk s i p:=by
 unfold atP at h
 cases h1:otherP s i with
 | some q=>rw[h1]at h;cases h;exact otherP_bound (Nat.le_of_lt hi) h1
 | none=>
  rw[h1]at h
  cases h2:endP s i with
  | some q=>rw[h2]at h;cases h;exact endP_bound h2
  | none=>
   rw[h2]at h
   exact startP_bound hi h
def rrowF:Nat→List UInt8→Nat→List UInt8→Bool→Except Nat (List UInt8 × Bool × Nat)
 | 0,_,i,acc,is => .ok (acc,is,i)
 | f+1,s,i,acc,is=>
  if i<s.length then
   if s.getD i 0=60 then
    match otherP s i with
    | some p=>if p.data=true then rrowF f s p.fin (acc++p.x.text) true else .ok (acc,is,i)
    | none => .ok (acc,is,i)
   else match rtextL s i []with
    | .error k => .error k
    | .ok x=>rrowF f s x.2 (acc++x.1) true
  else .ok (acc,is,i)
theorem rrowF_fuel (s:List UInt8):∀(f g i:Nat) (acc:List UInt8) (is:Bool),s.length-i≤f→s.length-i≤g→rrowF f s i acc is=rrowF g s i acc is
 | 0,0,_,_,_,_,_=>rfl
 | 0,g+1,i,acc,is,h,_=>by simp only[rrowF];rw[if_neg (by omega)]
 | f+1,0,i,acc,is,_,h=>by simp only[rrowF];rw[if_neg (by omega)]
 | f+1,g+1,i,acc,is,hf,hg=>by
  simp only[rrowF]
  by_cases hi:i<s.length
  ·rw[if_pos hi,if_pos hi]
   by_cases h60:s.getD i 0=60
   ·rw[if_pos h60,if_pos h60]
    cases ho:otherP s i with
    | none=>rfl
    | some p=>
     have:=otherP_bound (Nat.le_of_lt hi) ho
     unfold PcOk at this
     simp only
     split
     ·exact rrowF_fuel s f g _ _ _ (by omega) (by omega)
     ·rfl
   ·rw[if_neg h60,if_neg h60]
    have:=rtextL_bound hi h60
    cases hr:rtextL s i []with
    | error k=>rfl
    | ok x=>
     rw[hr]at this
     simp only at this ⊢
     exact rrowF_fuel s f g _ _ _ (by omega) (by omega)
  ·rw[if_neg hi,if_neg hi]
def rrowL (s:List UInt8) (i:Nat) (acc:List UInt8) (is:Bool):Except Nat (List UInt8 × Bool × Nat):=rrowF (s.length-i) s i acc is
theorem rrowL_end {s:List UInt8} {i:Nat} (acc:List UInt8) (is:Bool) (h:s.length≤i):rrowL s i acc is = .ok (acc,is,i):=by
 unfold rrowL
 rw[show s.length-i=0 by omega]
 rfl
theorem rrowL_step {s:List UInt8} {i:Nat} (acc:List UInt8) (is:Bool) (hi:i<s.length):rrowL s i acc is =
  if s.getD i 0=60 then
    match otherP s i with
    | some p=>if p.data=true then rrowL s p.fin (acc++p.x.text) true else .ok (acc,is,i)
    | none => .ok (acc,is,i)
   else match rtextL s i []with
    | .error k => .error k
    | .ok x=>rrowL s x.2 (acc++x.1) true:=by
 unfold rrowL
 rw[show s.length-i=(s.length-i-1)+1 by omega]
 simp only[rrowF]
 rw[if_pos hi]
 by_cases h60:s.getD i 0=60
 ·rw[if_pos h60,if_pos h60]
  cases ho:otherP s i with
  | none=>rfl
  | some p=>
   have:=otherP_bound (Nat.le_of_lt hi) ho
   unfold PcOk at this
   simp only
   split
   ·exact rrowF_fuel s _ _ _ _ _ (by omega) (by omega)
   ·rfl
 ·rw[if_neg h60,if_neg h60]
  have:=rtextL_bound hi h60
  cases hr:rtextL s i []with
  | error k=>rfl
  | ok x=>
   rw[hr]at this
   simp only at this ⊢
   exact rrowF_fuel s _ _ _ _ _ (by omega) (by omega)
theorem rrowF_bound {s:List UInt8}:∀(f i:Nat) (acc:List UInt8) (is:Bool) (x),i≤s.length→rrowF f s i acc is = .ok x→i≤x.2.2∧x.2.2≤s.length∧((x.2.1=true∧i<x.2.2)∨x=(acc,is,i))
 | 0,i,acc,is,x,hi,h=>by
  simp only[rrowF,Except.ok.injEq]at h
  subst h
  exact⟨Nat.le_refl _,hi,.inr rfl⟩
 | f+1,i,acc,is,x,hi,h=>by
  simp only[rrowF]at h
  by_cases hl:i<s.length
  ·rw[if_pos hl]at h
   by_cases h60:s.getD i 0=60
   ·rw[if_pos h60]at h
    cases ho:otherP s i with
    | none=>rw[ho]at h;cases h;exact⟨Nat.le_refl _,hi,.inr rfl⟩
    | some p=>
     rw[ho]at h
     have hb:=otherP_bound (Nat.le_of_lt hl) ho
     unfold PcOk at hb
     simp only at h
     split at h
     ·have:=rrowF_bound f _ _ _ _ (by omega) h
      refine⟨by omega,this.2.1,.inl ⟨?_,by omega⟩⟩
      rcases this.2.2 with h3 | h3
      ·exact h3.1
      ·rw[h3]
     ·cases h;exact⟨Nat.le_refl _,hi,.inr rfl⟩
   ·rw[if_neg h60]at h
    have hb:=rtextL_bound hl h60
    cases hr:rtextL s i []with
    | error k=>rw[hr]at h;cases h
    | ok y=>
     rw[hr]at h hb
     simp only at h hb
     have:=rrowF_bound f _ _ _ _ (by omega) h
     refine⟨by omega,this.2.1,.inl ⟨?_,by omega⟩⟩
     rcases this.2.2 with h3 | h3
     ·exact h3.1
     ·rw[h3]
  ·rw[if_neg hl]at h
   cases h
   exact⟨Nat.le_refl _,hi,.inr rfl⟩
def rowP (s:List UInt8) (i:Nat) (t:RSt):Except Nat (List UInt8 × Bool × Nat):=if t.opens=[]then .ok ([],false,i)else rrowL s i [] false
theorem rowP_bound {s:List UInt8} {i:Nat} {t:RSt} {x} (hi:i≤s.length) (h:rowP s i t = .ok x):i≤x.2.2∧x.2.2≤s.length∧((x.2.1=true∧i<x.2.2)∨x=([],false,i)):=by
 unfold rowP at h
 split at h
 ·cases h;exact⟨Nat.le_refl _,hi,.inr rfl⟩
 ·exact rrowF_bound _ _ _ _ _ hi h
def rreadF:Nat→List UInt8→Nat→RSt→RSt × Nat × Nat
 | 0,_,_,t=>(t,0,0)
 | f+1,s,i,t=>
  if i<s.length then
   match rowP s i t with
   | .error k=>(t,k,5)
   | .ok x=>
    if x.2.1=true then rreadF f s x.2.2 (if x.1=[]then t else t.add s ⟨2,[],x.1,[],0,0⟩ i x.2.2)
    else if s.getD i 0≠60 then(if isW (s.getD i 0)=true then rreadF f s (i+1) t else(t,i,5))
    else match atP s i with
     | some p=>if p.data=true then(t,i,5)else if(pieceP s t p i).1=0 then rreadF f s p.fin (pieceP s t p i).2 else((pieceP s t p i).2,i,(pieceP s t p i).1)
     | none=>(t,i,5)
  else if t.opens≠[]∨t.any=false then(t,s.length,110)else(t,0,0)
theorem rreadF_fuel (s:List UInt8):∀(f g i:Nat) (t:RSt),s.length-i<f→s.length-i<g→rreadF f s i t=rreadF g s i t
 | 0,_,_,_,h,_=>absurd h (by omega)
 | _,0,_,_,_,h=>absurd h (by omega)
 | f+1,g+1,i,t,hf,hg=>by
  simp only[rreadF]
  by_cases hi:i<s.length
  ·rw[if_pos hi,if_pos hi]
   cases hr:rowP s i t with
   | error k=>rfl
   | ok x=>
    have hb:=rowP_bound (Nat.le_of_lt hi) hr
    simp only
    split
    ·rename_i hx
     have:i<x.2.2:=by
      rcases hb.2.2 with h | h
      ·exact h.2
      ·rw[h]at hx;cases hx
     exact rreadF_fuel s f g _ _ (by omega) (by omega)
    split
    ·split
     ·exact rreadF_fuel s f g _ _ (by omega) (by omega)
     ·rfl
    ·cases ha:atP s i with
     | none=>rfl
     | some p=>
      have hp:=atP_bound hi ha
      unfold PcOk at hp
      simp only
      split
      ·rfl
      split
      ·exact rreadF_fuel s f g _ _ (by omega) (by omega)
      ·rfl
  ·rw[if_neg hi,if_neg hi]
def rreadL (s:List UInt8) (i:Nat) (t:RSt):RSt × Nat × Nat:=rreadF (s.length-i+1) s i t
theorem rreadL_step (s:List UInt8) (i:Nat) (t:RSt):rreadL s i t =
  if i<s.length then
   match rowP s i t with
   | .error k=>(t,k,5)
   | .ok x=>
    if x.2.1=true then rreadL s x.2.2 (if x.1=[]then t else t.add s ⟨2,[],x.1,[],0,0⟩ i x.2.2)
    else if s.getD i 0≠60 then(if isW (s.getD i 0)=true then rreadL s (i+1) t else(t,i,5))
    else match atP s i with
     | some p=>if p.data=true then(t,i,5)else if(pieceP s t p i).1=0 then rreadL s p.fin (pieceP s t p i).2 else((pieceP s t p i).2,i,(pieceP s t p i).1)
     | none=>(t,i,5)
  else if t.opens≠[]∨t.any=false then(t,s.length,110)else(t,0,0):=by
 conv=>lhs;unfold rreadL;simp only[rreadF]
 by_cases hi:i<s.length
 ·rw[if_pos hi,if_pos hi]
  cases hr:rowP s i t with
  | error k=>rfl
  | ok x=>
   have hb:=rowP_bound (Nat.le_of_lt hi) hr
   simp only
   split
   ·rename_i hx
    have:i<x.2.2:=by
     rcases hb.2.2 with h | h
     ·exact h.2
     ·rw[h]at hx;cases hx
    exact rreadF_fuel s _ _ _ _ (by omega) (by omega)
   split
   ·split
    ·exact rreadF_fuel s _ _ _ _ (by omega) (by omega)
    ·rfl
   ·cases ha:atP s i with
    | none=>rfl
    | some p=>
     have hp:=atP_bound hi ha
     unfold PcOk at hp
     simp only
     split
     ·rfl
     split
     ·exact rreadF_fuel s _ _ _ _ (by omega) (by omega)
     ·rfl
 ·rw[if_neg hi,if_neg hi]
def rst0:RSt:=⟨[],[],[],false⟩
def rreadS (s:List UInt8):RSt × Nat × Nat:=rreadL s 0 rst0
def RInv (i:Nat) (t:RSt):Prop:=t.l.length≤2*i∧t.ends.length=t.l.length∧t.opens.length≤200
theorem RInv.add {i j:Nat} {t:RSt} (h:RInv i t) (hij:i<j) (s:List UInt8) (x:Ev) (a e:Nat):RInv j (t.add s x a e):=by
 unfold RInv RSt.add at *
 simp only[List.length_append,List.length_singleton]
 omega
theorem RInv.piece {i j:Nat} {t:RSt} (h:RInv i t) (hij:i<j) (s:List UInt8) (p:Pc) (a:Nat):RInv j (pieceP s t p a).2:=by
 unfold RInv pieceP at *
 split
 ·simp only;omega
 split
 ·unfold elementP
  split
  ·simp only;omega
  split
  ·simp only;omega
  split
  ·simp only;omega
  simp only
  split
  ·simp only[RSt.add,List.length_append,List.length_singleton];omega
  ·rename_i h2 _
   simp only[RSt.add,List.length_append,List.length_singleton];omega
 split
 ·split
  ·simp only[RSt.add,List.length_append,List.length_singleton,List.length_dropLast];omega
  ·simp only;omega
 ·simp only[RSt.add,List.length_append,List.length_singleton];omega
end Go.Ab
namespace Go.Ab
open Go Go.Lib Go.Proofs
theorem Weak.stateNil (G:Nat→Option (List AV)) {H:AHeap} {tid:Nat} (h:H.get tid=some (.cells 67 [.nils,.nils,.int .i64 0,.int .i64 0,.nils,.bool false])) (hn:tid<H.next) (a:List AV) :
  ∃H',Weak G a H a H'∧RAt H' tid H.next (H.next+1) (H.next+2) rst0 0 0∧H'.next=H.next+3∧∀j,j<H.next→j≠tid→H'.get j=H.get j:=by
 obtain⟨H1,w1,g1,r1,n1,f1⟩:=Weak.nilField G [.slc H.next 0,.nils,.int .i64 0,.int .i64 0,.nils,.bool false] h hn 39 6 ⟨.nil _ rfl,.same _,.same _,.same _,.same _,.same _,trivial⟩
 obtain⟨H2,w2,g2,r2,n2,f2⟩:=Weak.nilField G [.slc H.next 0,.slc (H.next+1) 0,.int .i64 0,.int .i64 0,.nils,.bool false] g1 (by omega) 3 1 (by rw[n1];exact⟨.same _,.nil _ rfl,.same _,.same _,.same _,.same _,trivial⟩)
 obtain⟨H3,w3,g3,r3,n3,f3⟩:=Weak.nilField G [.slc H.next 0,.slc (H.next+1) 0,.int .i64 0,.int .i64 0,.slc (H.next+2) 0,.bool false] g2 (by omega) 9 1 (by rw[n2,n1];exact⟨.same _,.same _,.same _,.same _,.nil _ rfl,.same _,trivial⟩)
 refine⟨H3,(w1 a).trans ((w2 a).trans (w3 a)),⟨g3,?_,?_,?_,by omega,by omega,by omega,by omega,by omega,by omega,by omega,by omega,by omega,by omega⟩,by omega,fun j hj hne=>?_⟩
 ·rw[f3 _ (by omega) (by omega),f2 _ (by omega) (by omega)];exact r1
 ·rw[f3 _ (by omega) (by omega),←n1];exact r2
 ·rw[show H.next+2=H2.next by omega];exact r3
 ·rw[f3 _ hne (by omega),f2 _ hne (by omega),f1 _ hne (by omega)]
def docA (x:RSt × Nat × Nat):AV := .agg [.lst x.1.l.length (evsA x.1.l),.lst x.1.ends.length (natsA x.1.ends),.int .i64 x.2.1,.int .i64 x.2.2]
theorem read_done (G:Nat→Option (List AV)) {H X:AHeap} {kl ke:Nat} {t:RSt} {a e:Nat} (h1:X.get kl=some (.row 39 6 (evsA t.l))) (h2:X.get ke=some (.row 3 1 (natsA t.ends))) (h3:kl≠ke) (h4:H.next≤kl) (h5:H.next≤ke) (h6:H.next≤X.next) (h7:∀j,j<H.next→X.get j=H.get j) :
  ∃v' H2,Weak G [.agg [.slc kl t.l.length,.slc ke t.ends.length,.int .i64 a,.int .i64 e]] X [v'] H2∧ARes.ret v' = .ret (docA (t,a,e))∧Kept H H2:=by
 refine⟨_,_,(Weak.freezeVal G h1 (by omega) (v' := .agg [.lst t.l.length (evsA t.l),.slc ke t.ends.length,.int .i64 a,.int .i64 e]) (show Tz kl (fun len=>some (.lst len (evsA t.l))) none (.agg [.slc kl t.l.length,.slc ke t.ends.length,.int .i64 a,.int .i64 e]) (.agg [.lst t.l.length (evsA t.l),.slc ke t.ends.length,.int .i64 a,.int .i64 e])from .agg' ⟨.slc _ _ rfl,.same _,.same _,.same _,trivial⟩)).trans (Weak.freezeVal G (j:=ke) (e:=3) (size:=1) (cs:=natsA t.ends) ?_ (by omega) (v':=docA (t,a,e)) (show Tz ke (fun len=>some (.lst len (natsA t.ends))) none (.agg [.lst t.l.length (evsA t.l),.slc ke t.ends.length,.int .i64 a,.int .i64 e]) (.agg [.lst t.l.length (evsA t.l),.lst t.ends.length (natsA t.ends),.int .i64 a,.int .i64 e])from .agg' ⟨.same _,.slc _ _ rfl,.same _,.same _,trivial⟩)),rfl,?_,fun j hj=>?_⟩
 ·rw[AHeap.get_del_ne _ (by omega)];exact h2
 ·simp only[AHeap.next_del];exact h6
 ·rw[AHeap.get_del_ne _ (by omega),AHeap.get_del_ne _ (by omega)];exact h7 j hj
theorem read_fin (G:Nat→Option (List AV)) {s:List UInt8} {H L X:AHeap} {kl ke ko:Nat} {t:RSt} {a e:Nat} {b c:Int} (h:RAt L (H.next+1) kl ke ko t b c) (g1:H.next+2≤kl) (g2:H.next+2≤ke) (hf:∀j,j<H.next→L.get j=H.get j) (hX:X.next=L.next) (hXo:∀j,j≠H.next→j≠H.next+1→X.get j=L.get j) (hR:(t,a,e)=rreadS s) :
  ∃v' H2,Weak G [.agg [.slc kl t.l.length,.slc ke t.ends.length,.int .i64 a,.int .i64 e]] X [v'] H2∧ARes.ret v' = .ret (docA (rreadS s))∧Kept H H2:=by
 obtain⟨x0,x1,x2,x3,x4,x5,x6,x7,x8,x9,x10,x11,x12,x13⟩:=h
 rw[←hR]
 exact read_done G (by rw[hXo _ (by omega) (by omega)];exact x1) (by rw[hXo _ (by omega) (by omega)];exact x2) x11 (by omega) (by omega) (by omega) fun j hj=>(hXo j (by omega) (by omega)).trans (hf j hj)
def RdAt (s:List UInt8) (R:RSt × Nat × Nat) (H:AHeap) (x:Nat × Nat × Nat × Nat × RSt × AHeap):Prop:=
 x.1≤s.length∧rreadL s x.1 x.2.2.2.2.1=R∧RInv x.1 x.2.2.2.2.1∧RAt x.2.2.2.2.2 (H.next+1) x.2.1 x.2.2.1 x.2.2.2.1 x.2.2.2.2.1 0 0 ∧
 x.2.2.2.2.2.get H.next=some (.cells 35 [.nils,.nils,.int .i64 0,.int .i64 0])∧H.next+2≤x.2.1∧H.next+2≤x.2.2.1∧H.next+2≤x.2.2.2.1∧∀j,j<H.next→x.2.2.2.2.2.get j=H.get j
def RwAt (s:List UInt8) (i:Nat) (t:RSt) (R:Except Nat (List UInt8 × Bool × Nat)) (J:AHeap) (x:Bool × Nat × List UInt8 × Bool × AHeap):Prop:=
 i≤x.2.1∧x.2.1≤s.length∧x.2.2.1.length≤20000*x.2.1∧(x.1=true→rrowL s x.2.1 x.2.2.1 x.2.2.2.1=R)∧(x.1=false→R = .ok (x.2.2.1,x.2.2.2.1,x.2.1)∧x.2.1<s.length∧s.getD x.2.1 0=60) ∧
 (x.2.2.2.1=true→i<x.2.1)∧(x.2.2.2.1=false→x.2.1=i∧x.2.2.1=[])∧(t.opens=[]→x.1=true∧x.2.1=i)∧Kept J x.2.2.2.2
set_option maxHeartbeats 8000000 in
set_option maxRecDepth 100000 in
theorem r_read_ok (G:Nat→Option (List AV)) {s:List UInt8} (hs:s.length≤4000) (H:AHeap) :
  ACalls Tryz.prog G 18 [.str s] H fun r H'=>r = .ret (docA (rreadS s))∧Kept H H':=by
 refine ACalls.ret (ACalls.of Tryz.func18 S18_eq R18 N18 rfl rfl ?_)
 simp (maxSteps:=400000) only[wF,storeA,reduceCtorEq,Nat.reduceAdd,Nat.reduceSub,Nat.reduceEqDiff,Nat.reduceLeDiff,Int.reduceToNat,Int.reduceLE,Int.reduceLT,Int.reduceAdd,Int.reduceNeg,Nat.reduceMul,S18,N18,R18,T18,AV.boxable]
 generalize hA:AHeap.allocAt _ _ _=A
 have an:A.next=H.next+2:=by rw[←hA];simp only[AHeap.next_allocAt];omega
 have aa:A.get H.next=some (.cells 35 [.nils,.nils,.int .i64 0,.int .i64 0]):=by rw[←hA,AHeap.get_allocAt_ne _ _ (by omega),AHeap.get_allocAt_same]
 have ab:A.get (H.next+1)=some (.cells 67 [.nils,.nils,.int .i64 0,.int .i64 0,.nils,.bool false]):=by rw[←hA];simp[AHeap.get_allocAt]
 have ao:∀j,j<H.next→A.get j=H.get j:=fun j hj=>by rw[←hA,AHeap.get_allocAt_ne _ _ (by omega),AHeap.get_allocAt_ne _ _ (by omega)]
 clear hA
 obtain⟨H3,hw,at3,n3,f3⟩:=Weak.stateNil G ab (by omega) ([.str s,.und,.ptr H.next 0,.ptr (H.next+1) 0,.int .i64 0]++List.replicate 155 .und)
 refine ATrS.weak ((Weak.of (by simp[Fg]) (HW.refl _)).trans hw) (ATrS.loopK (κ:=Nat × Nat × Nat × Nat × RSt × AHeap) (fun x=>[.str s,.und,.ptr H.next 0,.ptr (H.next+1) 0,.int .i64 x.1]++List.replicate 155 .und) (fun x=>x.2.2.2.2.2)
  (RdAt s (rreadS s) H) (fun x=>s.length-x.1) ⟨(0,A.next,A.next+1,A.next+2,rst0,H3),⟨Nat.zero_le _,rfl,by simp[RInv,rst0],at3,(by simp only;rw[f3 _ (by omega) (by omega)];exact aa),by simp only;omega,by simp only;omega,by simp only;omega,fun j hj=>by simp only;rw[f3 j (by omega) (by omega)];exact ao j hj⟩,by simp[Fg],HW.refl _⟩ ?_)
 clear aa ab ao f3 hw at3 n3 an
 rintro⟨i,kl,ke,ko,t,J⟩ ⟨hi,hR,hI,hAt,hd,g1,g2,g3,hf⟩
 simp only at hi hR hI hAt hd g1 g2 g3 hf
 have hAt':=hAt
 obtain⟨x0,x1,x2,x3,x4,x5,x6,x7,x8,x9,x10,x11,x12,x13⟩:=hAt
 have u1:(H.next=H.next+1)=False:=by simp
 have u2:(H.next+1=H.next)=False:=by simp
 rw[rreadL_step]at hR
 by_cases hlt:i<s.length
 case neg=>
  rw[if_neg hlt]at hR
  have d1:decide ((i:Int)<(s.length:Int))=false:=by simp;omega
  by_cases ho:t.opens=[]
  ·have d2:decide ((t.opens.length:Int)>0)=false:=by rw[ho];rfl
   cases ha:t.any with
   | false=>
    rw[if_pos (by simp[ha])]at hR
    rw[ha]at x0
    simp (maxSteps:=400000) only[wF,storeA,reduceCtorEq,Nat.reduceAdd,Nat.reduceSub,Nat.reduceEqDiff,Nat.reduceLeDiff,Int.reduceToNat,Int.reduceLE,Int.reduceLT,Int.reduceAdd,Int.reduceNeg,Nat.reduceMul,T18,d1,x0,d2,hd,u1,u2,AHeap.set_set]
    exact read_fin G hAt' g1 g2 hf rfl (fun j h1 h2=>by rw[AHeap.get_set_ne _ _ h1,AHeap.get_set_ne _ _ h2]) hR
   | true=>
    rw[if_neg (by simp[ho,ha])]at hR
    rw[ha]at x0
    simp (maxSteps:=400000) only[wF,storeA,reduceCtorEq,Nat.reduceAdd,Nat.reduceSub,Nat.reduceEqDiff,Nat.reduceLeDiff,Int.reduceToNat,Int.reduceLE,Int.reduceLT,Int.reduceAdd,Int.reduceNeg,Nat.reduceMul,T18,d1,x0,d2,hd,u1,u2,AHeap.set_set]
    exact read_fin G hAt' g1 g2 hf rfl (fun j h1 h2=>by rw[AHeap.get_set_ne _ _ h1]) hR
  ·have hop:0<t.opens.length:=by cases h:t.opens with | nil=>exact absurd h ho | cons=>simp
   rw[if_pos (.inl ho)]at hR
   have d2:decide ((t.opens.length:Int)>0)=true:=by simp;omega
   simp (maxSteps:=400000) only[wF,storeA,reduceCtorEq,Nat.reduceAdd,Nat.reduceSub,Nat.reduceEqDiff,Nat.reduceLeDiff,Int.reduceToNat,Int.reduceLE,Int.reduceLT,Int.reduceAdd,Int.reduceNeg,Nat.reduceMul,T18,d1,x0,d2,hd,u1,u2,AHeap.set_set]
   exact read_fin G hAt' g1 g2 hf rfl (fun j h1 h2=>by rw[AHeap.get_set_ne _ _ h1,AHeap.get_set_ne _ _ h2]) hR
 rw[if_pos hlt]at hR
 have d1:decide ((i:Int)<(s.length:Int))=true:=by simp;omega
 simp (maxSteps:=400000) only[wF,storeA,reduceCtorEq,Nat.reduceAdd,Nat.reduceSub,Nat.reduceEqDiff,Nat.reduceLeDiff,Int.reduceToNat,Int.reduceLE,Int.reduceLT,Int.reduceAdd,Int.reduceNeg,Nat.reduceMul,T18,d1]
 generalize hRw:rrowL s i [] false=Rw
 refine ATrS.loopK (κ:=Bool × Nat × List UInt8 × Bool × AHeap) (fun x=>[.str s,.und,.ptr H.next 0,.ptr (H.next+1) 0,.int .i64 x.2.1,.int .i64 i,.str x.2.2.1,.bool x.2.2.2.1,.bool x.1]++List.replicate 151 .und) (fun x=>x.2.2.2.2)
  (RwAt s i t Rw J) (fun x=>if x.1=true then s.length-x.2.1+1 else 0) ⟨(true,i,[],false,J),⟨Nat.le_refl _,hi,Nat.zero_le _,fun _=>hRw,(fun h=>by cases h),(fun h=>by cases h),fun _=>⟨rfl,rfl⟩,fun _=>⟨rfl,rfl⟩,⟨Nat.le_refl _,fun _ _=>rfl⟩⟩,by simp[Fg],HW.refl _⟩ ?_
 rintro⟨more,k,acc,is,L⟩ ⟨hik,hk,hacc,hT,hF,his,hno,hop,hL⟩
 simp only at hik hk hacc hT hF his hno hop hL
 have ln:=hL.1
 have y0:=(hL.2 _ x4).trans x0
 have AtL:RAt L (H.next+1) kl ke ko t 0 0:=⟨y0,(hL.2 _ x5).trans x1,(hL.2 _ x6).trans x2,(hL.2 _ x7).trans x3,by omega,by omega,by omega,by omega,x8,x9,x10,x11,x12,x13⟩
 have hdL:=(hL.2 _ (by omega)).trans hd
 have hfL:∀j,j<H.next→L.get j=H.get j:=fun j hj=>(hL.2 j (by omega)).trans (hf j hj)
 have w1:decide ((k:Int)<(s.length:Int))=true∨decide ((k:Int)<(s.length:Int))=false:=by cases decide ((k:Int)<(s.length:Int))<;>simp
 by_cases hin:more=true∧k<s.length∧t.opens≠[]
 case pos=>
  obtain⟨rfl,hkl,ho⟩:=hin
  have d2:decide ((k:Int)<(s.length:Int))=true:=by simp;omega
  have hol:0<t.opens.length:=by cases h:t.opens with | nil=>exact absurd h ho | cons=>simp
  have d3:decide ((t.opens.length:Int)>0)=true:=by simp;omega
  have hst:=rrowL_step acc is hkl
  rw[hT rfl]at hst
  simp (maxSteps:=400000) only[wF,storeA,reduceCtorEq,Nat.reduceAdd,Nat.reduceSub,Nat.reduceEqDiff,Nat.reduceLeDiff,Int.reduceToNat,Int.reduceLE,Int.reduceLT,Int.reduceAdd,Int.reduceNeg,Nat.reduceMul,T18,y0,d2,d3]
  refine AInv.call B27 (r_other_ok G hk (by omega) _) fun r1 H1 h1=>?_
  obtain⟨p1,k1⟩:=h1
  have n1:=k1.1
  have hg:s[k]?=some s[k]:=List.getElem?_eq_getElem hkl
  have hgd:s.getD k 0=s[k]:=by rw[List.getD_eq_getElem?_getD,hg];rfl
  have hb:=rtextL_bound (s:=s) (i:=k) hkl
  rw[hgd]at hst hb
  generalize s[k]=c0 at hst hg hgd hb
  have y1:=(k1.2 _ (by omega)).trans y0
  have hd1:=(k1.2 _ (by omega)).trans hdL
  have At1:RAt H1 (H.next+1) kl ke ko t 0 0:=by
   obtain⟨b0,b1,b2,b3,b4,b5,b6,b7,_⟩:=AtL
   exact⟨y1,(k1.2 _ (by omega)).trans b1,(k1.2 _ (by omega)).trans b2,(k1.2 _ (by omega)).trans b3,by omega,by omega,by omega,by omega,x8,x9,x10,x11,x12,x13⟩
  have K1:Kept J H1:=⟨by omega,fun j hj=>(k1.2 j (by omega)).trans (hL.2 j hj)⟩
  have KX:∀o o':AObj,Kept J ((H1.allocAt H1.next o).set H1.next o'):=fun o o'=>⟨by have:=K1.1;simp only[AHeap.next_set,AHeap.next_allocAt];omega,fun j hj=>by have:=K1.1;rw[AHeap.get_set_ne _ _ (by omega),AHeap.get_allocAt_ne _ _ (by omega)];exact K1.2 j hj⟩
  by_cases h60:c0=60
  ·have b1:((c0.toNat:Int) != 60)=false:=by rw[h60];rfl
   have bm:decide ((-1:Int)≥0)=false:=rfl
   rw[if_pos h60]at hst
   cases ho1:otherP s k with
   | none=>
    obtain⟨c,c1,c2,rfl,c3⟩:=p1.cells
    have tk:List.take 11 c=c:=List.take_of_length_le (by omega)
    have sc:∀(d:List AV),d.length=11→setCells d 0 c=c:=fun d hd=>by
     obtain⟨d0,d1,d2,d3,d4,d5,d6,d7,d8,d9,d10,rfl⟩:=eleven c1
     obtain⟨e0,e1,e2,e3,e4,e5,e6,e7,e8,e9,e10,rfl⟩:=eleven hd
     rfl
    rw[ho1]at hst
    simp (maxSteps:=400000) only[wF,storeA,reduceCtorEq,Nat.reduceAdd,Nat.reduceSub,Nat.reduceEqDiff,Nat.reduceLeDiff,Int.reduceToNat,Int.reduceLE,Int.reduceLT,Int.reduceAdd,Int.reduceNeg,Nat.reduceMul,T18,AV.boxable,c1,c2,tk,sc,ho1,Option.isSome,Nat.le_refl,hg,b1,bm]
    exact⟨(false,k,acc,is,_),⟨hik,hk,hacc,(fun h=>by cases h),fun _=>⟨hst,hkl,by rw[hgd,h60]⟩,his,hno,fun h=>absurd h ho,KX _ _⟩,by simp,by simp[Fg],HW.refl _⟩
   | some p=>
    rw[ho1]at hst p1
    simp only[PcPost]at p1
    subst p1
    have hb:=otherP_bound hk ho1
    unfold PcOk at hb
    simp only at hst
    cases hdt:p.data with
    | true=>
     rw[hdt,if_pos rfl]at hst
     simp (maxSteps:=400000) only[wF,storeA,reduceCtorEq,Nat.reduceAdd,Nat.reduceSub,Nat.reduceEqDiff,Nat.reduceLeDiff,Int.reduceToNat,Int.reduceLE,Int.reduceLT,Int.reduceAdd,Int.reduceNeg,Nat.reduceMul,T18,AV.boxable,pcC,evC,List.cons_append,List.nil_append,Nat.le_refl,hg,b1,bm,hdt]
     exact⟨by simp only[maxStr];omega,(true,p.fin,acc++p.x.text,true,_),⟨by simp only;omega,hb.2.1,by simp only[List.length_append];omega,fun _=>hst.symm,(fun h=>by cases h),fun _=>by simp only;omega,(fun h=>by cases h),fun h=>absurd h ho,KX _ _⟩,by simp only[if_true];omega,by simp[Fg],HW.refl _⟩
    | false=>
     rw[hdt,if_neg (by simp)]at hst
     simp (maxSteps:=400000) only[wF,storeA,reduceCtorEq,Nat.reduceAdd,Nat.reduceSub,Nat.reduceEqDiff,Nat.reduceLeDiff,Int.reduceToNat,Int.reduceLE,Int.reduceLT,Int.reduceAdd,Int.reduceNeg,Nat.reduceMul,T18,AV.boxable,pcC,evC,List.cons_append,List.nil_append,Nat.le_refl,hg,b1,bm,hdt]
     exact⟨(false,k,acc,is,_),⟨hik,hk,hacc,(fun h=>by cases h),fun _=>⟨hst,hkl,by rw[hgd,h60]⟩,his,hno,fun h=>absurd h ho,KX _ _⟩,by simp,by simp[Fg],HW.refl _⟩
  ·have b1:((c0.toNat:Int) != 60)=true:=by
    rw[bne_iff_ne]
    intro h
    exact h60 (UInt8.toNat_inj.1 (by simpa using Int.ofNat_inj.1 h))
   rw[if_neg h60]at hst
   have hb:=hb h60
   obtain⟨c,c1,c2,rfl,c3⟩:=p1.cells
   have tk:List.take 11 c=c:=List.take_of_length_le (by omega)
   have sc:∀(d:List AV),d.length=11→setCells d 0 c=c:=fun d hd=>by
    obtain⟨d0,d1,d2,d3,d4,d5,d6,d7,d8,d9,d10,rfl⟩:=eleven c1
    obtain⟨e0,e1,e2,e3,e4,e5,e6,e7,e8,e9,e10,rfl⟩:=eleven hd
    rfl
   simp (maxSteps:=400000) only[wF,storeA,reduceCtorEq,Nat.reduceAdd,Nat.reduceSub,Nat.reduceEqDiff,Nat.reduceLeDiff,Int.reduceToNat,Int.reduceLE,Int.reduceLT,Int.reduceAdd,Int.reduceNeg,Nat.reduceMul,T18,AV.boxable,c1,c2,tk,sc,Nat.le_refl,hg,b1]
   generalize hX:AHeap.set (AHeap.allocAt H1 H1.next _) _ _=X
   have xn:X.next=H1.next+1:=by rw[←hX];simp only[AHeap.next_set,AHeap.next_allocAt];omega
   have xb:X.get H1.next=some (.cells 69 c):=by rw[←hX,AHeap.get_set_same]
   have xo:∀j,j<H1.next→X.get j=H1.get j:=fun j hj=>by rw[←hX,AHeap.get_set_ne _ _ (by omega),AHeap.get_allocAt_ne _ _ (by omega)]
   clear hX
   refine AInv.call B28 (r_text_ok G hk (by omega) _) fun r2 H2 h2=>?_
   obtain⟨p2,k2⟩:=h2
   have n2:=k2.1
   have yb:=(k2.2 _ (by omega)).trans xb
   have y2:=(k2.2 _ (by omega)).trans ((xo _ (by omega)).trans y1)
   have hd2:=(k2.2 _ (by omega)).trans ((xo _ (by omega)).trans hd1)
   have xf:∀j,j<H.next→H2.get j=H.get j:=fun j hj=>(k2.2 j (by omega)).trans ((xo j (by omega)).trans ((k1.2 j (by omega)).trans (hfL j hj)))
   have At2:RAt H2 (H.next+1) kl ke ko t 0 0:=by
    obtain⟨b0,b1,b2,b3,b4,b5,b6,b7,_⟩:=At1
    exact⟨y2,(k2.2 _ (by omega)).trans ((xo _ b5).trans b1),(k2.2 _ (by omega)).trans ((xo _ b6).trans b2),(k2.2 _ (by omega)).trans ((xo _ b7).trans b3),by omega,by omega,by omega,by omega,x8,x9,x10,x11,x12,x13⟩
   have KY:∀o,Kept J (H2.set H1.next o):=fun o=>⟨by have:=K1.1;simp only[AHeap.next_set];omega,fun j hj=>by have:=K1.1;rw[AHeap.get_set_ne _ _ (by omega)];exact(k2.2 j (by omega)).trans ((xo j (by omega)).trans (K1.2 j hj))⟩
   obtain⟨d0,d1',d2',d3',d4,d5,d6,d7,d8,d9,d10,rfl⟩:=eleven c1
   clear tk sc c1 c2 c3
   cases htx:rtextL s k []with
   | error e=>
    rw[htx]at hst p2 hb
    simp only[TxPost]at p2
    subst p2
    simp only at hst hb
    have hrp:rowP s i t = .error e:=by unfold rowP;rw[if_neg ho,hRw];exact hst
    rw[hrp]at hR
    simp only at hR
    have be:decide ((e:Int)≥0)=true:=by simp
    have ne2:(H1.next=H.next+1)=False:=by simp;omega
    have ne3:(H.next+1=H1.next)=False:=by simp;omega
    have ne4:(H.next=H1.next)=False:=by simp;omega
    simp (maxSteps:=400000) only[wF,storeA,reduceCtorEq,Nat.reduceAdd,Nat.reduceSub,Nat.reduceEqDiff,Nat.reduceLeDiff,Int.reduceToNat,Int.reduceLE,Int.reduceLT,Int.reduceAdd,Int.reduceNeg,Nat.reduceMul,T18,AV.boxable,pcC,evC,List.cons_append,List.nil_append,yb,y2,hd2,u1,u2,ne2,ne3,ne4,Nat.le_refl,be,hg,b1,AHeap.set_set]
    generalize hZ:AHeap.set H2 H1.next _=Z
    have zn:Z.next=H2.next:=by rw[←hZ];rfl
    have zo:∀j,j≠H1.next→Z.get j=H2.get j:=fun j hj=>by rw[←hZ,AHeap.get_set_ne _ _ hj]
    have AtZ:RAt Z (H.next+1) kl ke ko t 0 0:=by
     obtain⟨b0,b1,b2,b3,b4,b5,b6,b7,_⟩:=At2
     exact⟨(zo _ (by omega)).trans b0,(zo _ (by omega)).trans b1,(zo _ (by omega)).trans b2,(zo _ (by omega)).trans b3,by omega,by omega,by omega,by omega,x8,x9,x10,x11,x12,x13⟩
    exact read_fin G AtZ g1 g2 (fun j hj=>(zo j (by omega)).trans (xf j hj)) rfl (fun j h1 h2=>by rw[AHeap.get_set_ne _ _ h1,AHeap.get_set_ne _ _ h2]) hR
   | ok x=>
    rw[htx]at hst p2 hb
    simp only[TxPost]at p2
    subst p2
    simp only at hst hb
    have bm:decide ((-1:Int)≥0)=false:=rfl
    simp (maxSteps:=400000) only[wF,storeA,reduceCtorEq,Nat.reduceAdd,Nat.reduceSub,Nat.reduceEqDiff,Nat.reduceLeDiff,Int.reduceToNat,Int.reduceLE,Int.reduceLT,Int.reduceAdd,Int.reduceNeg,Nat.reduceMul,T18,AV.boxable,pcC,evC,List.cons_append,List.nil_append,yb,Nat.le_refl,bm,hg,b1]
    exact⟨by simp only[maxStr];omega,(true,x.2,acc++x.1,true,_),⟨by simp only;omega,hb.2.1,by simp only[List.length_append];omega,fun _=>hst.symm,(fun h=>by cases h),fun _=>by simp only;omega,(fun h=>by cases h),fun h=>absurd h ho,KY _⟩,by simp only[if_true];omega,by simp[Fg],HW.refl _⟩
 case neg=>
  have hrow:rowP s i t = .ok (acc,is,k):=by
   unfold rowP
   by_cases ho:t.opens=[]
   ·obtain⟨e1,e2⟩:=hop ho
    rw[if_pos ho]
    cases is with
    | true=>have:=his rfl;omega
    | false=>rw[(hno rfl).2,(hno rfl).1]
   ·rw[if_neg ho,hRw]
    cases more with
    | false=>exact(hF rfl).1
    | true=>
     rw[←hT rfl]
     exact rrowL_end acc is (by
      by_cases h:s.length≤k
      ·exact h
      ·exact absurd ⟨rfl,by omega,ho⟩ hin)
  rw[hrow]at hR
  simp only at hR
  cases is with
  | true=>
   rw[if_pos rfl]at hR
   have hik':=his rfl
   have ho:t.opens≠[]:=fun h=>by have:=(hop h).2;omega
   have hol:0<t.opens.length:=by cases h:t.opens with | nil=>exact absurd h ho | cons=>simp
   have d3:decide ((t.opens.length:Int)>0)=true:=by simp;omega
   have hIk:RInv k t:=by unfold RInv at *;omega
   have hex:more=false∨(more=true∧decide ((k:Int)<(s.length:Int))=false):=by
    cases more with
    | false=>exact .inl rfl
    | true=>exact .inr ⟨rfl,by
      rcases w1 with h | h
      ·exact absurd ⟨rfl,by simpa using h,ho⟩ hin
      ·exact h⟩
   by_cases hac:acc=[]
   ·rw[if_pos hac]at hR
    have ba:(acc==[])=true:=by rw[hac];rfl
    rcases hex with rfl | ⟨rfl,d⟩
    ·rcases w1 with d | d
     ·simp (maxSteps:=400000) only[wF,storeA,reduceCtorEq,Nat.reduceAdd,Nat.reduceSub,Nat.reduceEqDiff,Nat.reduceLeDiff,Int.reduceToNat,Int.reduceLE,Int.reduceLT,Int.reduceAdd,Int.reduceNeg,Nat.reduceMul,T18,y0,d,d3,ba,Bool.not_true,Bool.not_false]
      exact⟨(k,kl,ke,ko,t,L),⟨hk,hR,hIk,AtL,hdL,g1,g2,g3,hfL⟩,by simp only;omega,by simp[Fg],HW.refl _⟩
     ·simp (maxSteps:=400000) only[wF,storeA,reduceCtorEq,Nat.reduceAdd,Nat.reduceSub,Nat.reduceEqDiff,Nat.reduceLeDiff,Int.reduceToNat,Int.reduceLE,Int.reduceLT,Int.reduceAdd,Int.reduceNeg,Nat.reduceMul,T18,y0,d,d3,ba,Bool.not_true,Bool.not_false]
      exact⟨(k,kl,ke,ko,t,L),⟨hk,hR,hIk,AtL,hdL,g1,g2,g3,hfL⟩,by simp only;omega,by simp[Fg],HW.refl _⟩
    ·simp (maxSteps:=400000) only[wF,storeA,reduceCtorEq,Nat.reduceAdd,Nat.reduceSub,Nat.reduceEqDiff,Nat.reduceLeDiff,Int.reduceToNat,Int.reduceLE,Int.reduceLT,Int.reduceAdd,Int.reduceNeg,Nat.reduceMul,T18,y0,d,d3,ba,Bool.not_true,Bool.not_false]
     exact⟨(k,kl,ke,ko,t,L),⟨hk,hR,hIk,AtL,hdL,g1,g2,g3,hfL⟩,by simp only;omega,by simp[Fg],HW.refl _⟩
   ·rw[if_neg hac]at hR
    have ba:(acc==[])=false:=by simpa using hac
    have hadd:=ACalls.weak (Weak.addNil G (H.next+1) s 2 [] acc i k L) (r_add_ok G (x:=⟨2,[],acc,[],0,0⟩) (e:=k) hi (by omega) AtL (by unfold RInv at hI;omega) (by unfold RInv at hI;omega))
    have hIk2:=hI.add hik' s ⟨2,[],acc,[],0,0⟩ i k
    generalize t.add s ⟨2,[],acc,[],0,0⟩ i k=t2 at hadd hIk2 hR
    have nxt:∀(J1:AHeap) (kl1 ke1:Nat),RAt J1 (H.next+1) kl1 ke1 ko t2 0 0→RKeep L (H.next+1) kl ke ko J1 kl1 ke1 ko→RdAt s (rreadS s) H (k,kl1,ke1,ko,t2,J1):=by
     intro J1 kl1 ke1 At1 Kp1
     have kn:=Kp1.2.1
     have kn2:=Kp1.2.2.1
     exact⟨hk,hR,hIk2,At1,(Kp1.2.2.2.2 _ (by omega) (by omega) (by omega) (by omega) (by omega)).trans hdL,by simp only;omega,by simp only;omega,g3,fun j hj=>(Kp1.2.2.2.2 j (by omega) (by omega) (by omega) (by omega) (by omega)).trans (hfL j hj)⟩
    rcases hex with rfl | ⟨rfl,d⟩
    ·simp (maxSteps:=400000) only[wF,storeA,reduceCtorEq,Nat.reduceAdd,Nat.reduceSub,Nat.reduceEqDiff,Nat.reduceLeDiff,Int.reduceToNat,Int.reduceLE,Int.reduceLT,Int.reduceAdd,Int.reduceNeg,Nat.reduceMul,T18,y0,d3,ba,Bool.not_true,Bool.not_false,buildA,fillA,AV.boxable]
     refine AInv.call B29 hadd fun r1 J1 h1=>?_
     obtain⟨⟨v1,rfl⟩,kl1,ke1,At1,Kp1⟩:=h1
     rcases w1 with d | d
     ·simp (maxSteps:=400000) only[wF,storeA,reduceCtorEq,Nat.reduceAdd,Nat.reduceSub,Nat.reduceEqDiff,Nat.reduceLeDiff,Int.reduceToNat,Int.reduceLE,Int.reduceLT,Int.reduceAdd,Int.reduceNeg,Nat.reduceMul,T18,d,Bool.not_true,Bool.not_false]
      exact⟨(k,kl1,ke1,ko,t2,J1),nxt _ _ _ At1 Kp1,by simp only;omega,by simp[Fg],HW.refl _⟩
     ·simp (maxSteps:=400000) only[wF,storeA,reduceCtorEq,Nat.reduceAdd,Nat.reduceSub,Nat.reduceEqDiff,Nat.reduceLeDiff,Int.reduceToNat,Int.reduceLE,Int.reduceLT,Int.reduceAdd,Int.reduceNeg,Nat.reduceMul,T18,d,Bool.not_true,Bool.not_false]
      exact⟨(k,kl1,ke1,ko,t2,J1),nxt _ _ _ At1 Kp1,by simp only;omega,by simp[Fg],HW.refl _⟩
    ·simp (maxSteps:=400000) only[wF,storeA,reduceCtorEq,Nat.reduceAdd,Nat.reduceSub,Nat.reduceEqDiff,Nat.reduceLeDiff,Int.reduceToNat,Int.reduceLE,Int.reduceLT,Int.reduceAdd,Int.reduceNeg,Nat.reduceMul,T18,y0,d,d3,ba,Bool.not_true,Bool.not_false,buildA,fillA,AV.boxable]
     refine AInv.call B29 hadd fun r1 J1 h1=>?_
     obtain⟨⟨v1,rfl⟩,kl1,ke1,At1,Kp1⟩:=h1
     simp (maxSteps:=400000) only[wF,storeA,reduceCtorEq,Nat.reduceAdd,Nat.reduceSub,Nat.reduceEqDiff,Nat.reduceLeDiff,Int.reduceToNat,Int.reduceLE,Int.reduceLT,Int.reduceAdd,Int.reduceNeg,Nat.reduceMul,T18,d,Bool.not_true,Bool.not_false]
     exact⟨(k,kl1,ke1,ko,t2,J1),nxt _ _ _ At1 Kp1,by simp only;omega,by simp[Fg],HW.refl _⟩
  | false=>
   obtain⟨rfl,rfl⟩:=hno rfl
   rw[if_neg (by simp)]at hR
   have d2:decide ((k:Int)<(s.length:Int))=true:=by simp;omega
   have ba:(([]:List UInt8)==[])=true:=rfl
   have hg:s[k]?=some s[k]:=List.getElem?_eq_getElem hlt
   have hgd:s.getD k 0=s[k]:=by rw[List.getD_eq_getElem?_getD,hg];rfl
   rw[hgd]at hR hF
   generalize s[k]=c0 at hR hF hg hgd
   have hex:(more=false∧c0=60)∨(more=true∧decide ((t.opens.length:Int)>0)=false):=by
    cases more with
    | false=>exact .inl ⟨rfl,(hF rfl).2.2⟩
    | true=>
     right
     refine⟨rfl,?_⟩
     by_cases ho:t.opens=[]
     ·rw[ho];rfl
     ·exact absurd ⟨rfl,hlt,ho⟩ hin
   by_cases h60:c0=60
   case neg=>
    have b1:((c0.toNat:Int) != 60)=true:=by
     rw[bne_iff_ne]
     intro h
     exact h60 (UInt8.toNat_inj.1 (by simpa using Int.ofNat_inj.1 h))
    rw[if_pos h60]at hR
    rcases hex with ⟨_,h⟩ | ⟨rfl,d3⟩
    ·exact absurd h h60
    have ek:IntKind.i64.wrap ((k:Int)+1)=((k+1:Nat):Int):=by rw[wrap64]<;>omega
    simp (maxSteps:=400000) only[wF,storeA,reduceCtorEq,Nat.reduceAdd,Nat.reduceSub,Nat.reduceEqDiff,Nat.reduceLeDiff,Int.reduceToNat,Int.reduceLE,Int.reduceLT,Int.reduceAdd,Int.reduceNeg,Nat.reduceMul,T18,y0,d2,d3,ba,Bool.not_true,Bool.not_false,hg,b1]
    refine AInv.pureK B30 (r_white_ok G c0) fun J1 h1=>?_
    have jn:=h1.1
    have At1:RAt J1 (H.next+1) kl ke ko t 0 0:=by
     obtain⟨b0,b1,b2,b3,b4,b5,b6,b7,_⟩:=AtL
     rw[←h1.2]at b0 b1 b2 b3
     exact⟨b0,b1,b2,b3,by omega,by omega,by omega,by omega,x8,x9,x10,x11,x12,x13⟩
    have hd1:=hdL
    have y1:=y0
    rw[←h1.2]at hd1 y1
    have hf1:∀j,j<H.next→J1.get j=H.get j:=fun j hj=>by rw[h1.2];exact hfL j hj
    cases hw:isW c0 with
    | true=>
     rw[hw,if_pos rfl]at hR
     simp (maxSteps:=400000) only[wF,storeA,reduceCtorEq,Nat.reduceAdd,Nat.reduceSub,Nat.reduceEqDiff,Nat.reduceLeDiff,Int.reduceToNat,Int.reduceLE,Int.reduceLT,Int.reduceAdd,Int.reduceNeg,Nat.reduceMul,T18,Bool.not_true,Bool.not_false,ek]
     exact⟨(k+1,kl,ke,ko,t,J1),⟨hlt,hR,⟨by have:=hI.1;simp only;omega,hI.2⟩,At1,hd1,g1,g2,g3,hf1⟩,by simp only;omega,by simp[Fg],HW.refl _⟩
    | false=>
     rw[hw,if_neg (by simp)]at hR
     simp (maxSteps:=400000) only[wF,storeA,reduceCtorEq,Nat.reduceAdd,Nat.reduceSub,Nat.reduceEqDiff,Nat.reduceLeDiff,Int.reduceToNat,Int.reduceLE,Int.reduceLT,Int.reduceAdd,Int.reduceNeg,Nat.reduceMul,T18,Bool.not_true,Bool.not_false,y1,hd1,u1,u2,AHeap.set_set,AV.boxable]
     exact read_fin G At1 g1 g2 hf1 rfl (fun j h1 h2=>by rw[AHeap.get_set_ne _ _ h1,AHeap.get_set_ne _ _ h2]) hR
   case pos=>
    have b1:((c0.toNat:Int) != 60)=false:=by rw[h60];rfl
    rw[if_neg (by simp[h60])]at hR
    rcases hex with ⟨rfl,_⟩ | ⟨rfl,d3⟩
    all_goals
     first | simp (maxSteps:=400000) only[wF,storeA,reduceCtorEq,Nat.reduceAdd,Nat.reduceSub,Nat.reduceEqDiff,Nat.reduceLeDiff,Int.reduceToNat,Int.reduceLE,Int.reduceLT,Int.reduceAdd,Int.reduceNeg,Nat.reduceMul,T18,y0,d2,d3,ba,Bool.not_true,Bool.not_false,hg,b1] | simp (maxSteps:=400000) only[wF,storeA,reduceCtorEq,Nat.reduceAdd,Nat.reduceSub,Nat.reduceEqDiff,Nat.reduceLeDiff,Int.reduceToNat,Int.reduceLE,Int.reduceLT,Int.reduceAdd,Int.reduceNeg,Nat.reduceMul,T18,y0,d2,ba,Bool.not_true,Bool.not_false,hg,b1]
     refine AInv.call B31 (r_at_ok G hlt (by omega) _) fun r1 H1 h1=>?_
     obtain⟨p1,k1⟩:=h1
     have n1:=k1.1
     have y1:=(k1.2 _ (by omega)).trans y0
     have hd1:=(k1.2 _ (by omega)).trans hdL
     have At1:RAt H1 (H.next+1) kl ke ko t 0 0:=by
      obtain⟨b0,b1,b2,b3,b4,b5,b6,b7,_⟩:=AtL
      exact⟨y1,(k1.2 _ (by omega)).trans b1,(k1.2 _ (by omega)).trans b2,(k1.2 _ (by omega)).trans b3,by omega,by omega,by omega,by omega,x8,x9,x10,x11,x12,x13⟩
     have hf1:∀j,j<H.next→H1.get j=H.get j:=fun j hj=>(k1.2 j (by omega)).trans (hfL j hj)
     have z5:((5:Int) != 0)=true:=rfl
     have ne2:(H1.next=H.next+1)=False:=by simp;omega
     have ne3:(H.next+1=H1.next)=False:=by simp;omega
     have ne4:(H.next=H1.next)=False:=by simp;omega
     have fin5:∀(o o':AObj),(t,k,5)=rreadS s→∃v' H2,Weak G [.agg [.slc kl t.l.length,.slc ke t.ends.length,.int .i64 k,.int .i64 (5:Nat)]] ((((H1.allocAt H1.next o).set H1.next o').set (H.next+1) (.cells 67 [.slc kl t.l.length,.slc ke t.ends.length,.int .i64 k,.int .i64 5,.slc ko t.opens.length,.bool t.any])).set H.next (.cells 35 [.slc kl t.l.length,.slc ke t.ends.length,.int .i64 k,.int .i64 5])) [v'] H2∧ARes.ret v' = .ret (docA (rreadS s))∧Kept H H2:=by
      intro o o' hRR
      have AtZ:RAt ((H1.allocAt H1.next o).set H1.next o') (H.next+1) kl ke ko t 0 0:=by
       obtain⟨b0,b1,b2,b3,b4,b5,b6,b7,_⟩:=At1
       have zo:∀j,j<H1.next→((H1.allocAt H1.next o).set H1.next o').get j=H1.get j:=fun j hj=>by rw[AHeap.get_set_ne _ _ (by omega),AHeap.get_allocAt_ne _ _ (by omega)]
       have zn:((H1.allocAt H1.next o).set H1.next o').next=H1.next+1:=by simp only[AHeap.next_set,AHeap.next_allocAt];omega
       exact⟨(zo _ b4).trans b0,(zo _ b5).trans b1,(zo _ b6).trans b2,(zo _ b7).trans b3,by omega,by omega,by omega,by omega,x8,x9,x10,x11,x12,x13⟩
      exact read_fin G AtZ g1 g2 (fun j hj=>by rw[AHeap.get_set_ne _ _ (by omega),AHeap.get_allocAt_ne _ _ (by omega)];exact hf1 j hj) rfl (fun j h1 h2=>by rw[AHeap.get_set_ne _ _ h1,AHeap.get_set_ne _ _ h2]) hRR
     cases ha:atP s k with
     | none=>
      obtain⟨c,c1,c2,rfl,c3⟩:=p1.cells
      have tk:List.take 11 c=c:=List.take_of_length_le (by omega)
      have sc:∀(d:List AV),d.length=11→setCells d 0 c=c:=fun d hd=>by
       obtain⟨d0,d1,d2,d3,d4,d5,d6,d7,d8,d9,d10,rfl⟩:=eleven c1
       obtain⟨e0,e1,e2,e3,e4,e5,e6,e7,e8,e9,e10,rfl⟩:=eleven hd
       rfl
      rw[ha]at hR
      simp (maxSteps:=400000) only[wF,storeA,reduceCtorEq,Nat.reduceAdd,Nat.reduceSub,Nat.reduceEqDiff,Nat.reduceLeDiff,Int.reduceToNat,Int.reduceLE,Int.reduceLT,Int.reduceAdd,Int.reduceNeg,Nat.reduceMul,T18,AV.boxable,c1,c2,tk,sc,ha,Option.isSome,Nat.le_refl,z5,y1,hd1,u1,u2,ne2,ne3,ne4,AHeap.set_set]
      exact fin5 _ _ hR
     | some p=>
      rw[ha]at hR p1
      simp only[PcPost]at p1
      subst p1
      have hb:=atP_bound hlt ha
      unfold PcOk at hb
      simp only at hR
      cases hdt:p.data with
      | true=>
       rw[hdt,if_pos rfl]at hR
       simp (maxSteps:=400000) only[wF,storeA,reduceCtorEq,Nat.reduceAdd,Nat.reduceSub,Nat.reduceEqDiff,Nat.reduceLeDiff,Int.reduceToNat,Int.reduceLE,Int.reduceLT,Int.reduceAdd,Int.reduceNeg,Nat.reduceMul,T18,AV.boxable,pcC,evC,List.cons_append,List.nil_append,hdt,Bool.not_true,Nat.le_refl,z5,y1,hd1,u1,u2,ne2,ne3,ne4,AHeap.set_set]
       exact fin5 _ _ hR
      | false=>
       rw[hdt,if_neg (by simp)]at hR
       simp (maxSteps:=400000) only[wF,storeA,reduceCtorEq,Nat.reduceAdd,Nat.reduceSub,Nat.reduceEqDiff,Nat.reduceLeDiff,Int.reduceToNat,Int.reduceLE,Int.reduceLT,Int.reduceAdd,Int.reduceNeg,Nat.reduceMul,T18,AV.boxable,pcC,evC,List.cons_append,List.nil_append,hdt,Bool.not_false,Nat.le_refl]
       generalize hX:AHeap.set (AHeap.allocAt H1 H1.next _) _ _=X
       have xn:X.next=H1.next+1:=by rw[←hX];simp only[AHeap.next_set,AHeap.next_allocAt];omega
       have xb:X.get H1.next=some (.cells 69 (pcC p)):=by rw[←hX,AHeap.get_set_same];simp only[pcC,evC,hdt,List.cons_append,List.nil_append]
       simp only[pcC,evC,hdt,List.cons_append,List.nil_append]at xb
       have xo:∀j,j<H1.next→X.get j=H1.get j:=fun j hj=>by rw[←hX,AHeap.get_set_ne _ _ (by omega),AHeap.get_allocAt_ne _ _ (by omega)]
       clear hX
       have AtX:RAt X (H.next+1) kl ke ko t 0 0:=by
        obtain⟨b0,b1,b2,b3,b4,b5,b6,b7,_⟩:=At1
        exact⟨(xo _ b4).trans b0,(xo _ b5).trans b1,(xo _ b6).trans b2,(xo _ b7).trans b3,by omega,by omega,by omega,by omega,x8,x9,x10,x11,x12,x13⟩
       have hpc:=r_piece_ok G (p:=p) hi (by omega) AtX (by unfold RInv at hI;omega) (by unfold RInv at hI;omega) hI.2.2 (by omega) (by omega)
       simp only[pcC,evC,hdt,List.cons_append,List.nil_append]at hpc
       have hIk2:=hI.piece hb.1 s p k
       generalize hPP:pieceP s t p k=PP at hpc hIk2 hR
       obtain⟨er,t2⟩:=PP
       simp only at hpc hIk2 hR
       refine AInv.call B32 hpc fun r2 H2 h2=>?_
       obtain⟨rfl,kl2,ke2,ko2,At2,Kp2⟩:=h2
       have m1:=Kp2.1
       have m2:=Kp2.2.1
       have m3:=Kp2.2.2.1
       have m4:=Kp2.2.2.2.1
       have zb:=(Kp2.2.2.2.2 H1.next (by omega) (by omega) (by omega) (by omega) (by omega)).trans xb
       have hd2:=(Kp2.2.2.2.2 H.next (by omega) (by omega) (by omega) (by omega) (by omega)).trans ((xo _ (by omega)).trans hd1)
       have hf2:∀j,j<H.next→H2.get j=H.get j:=fun j hj=>(Kp2.2.2.2.2 j (by omega) (by omega) (by omega) (by omega) (by omega)).trans ((xo _ (by omega)).trans (hf1 j hj))
       by_cases her:er=0
       ·subst her
        rw[if_pos rfl]at hR
        have z0:(((0:Nat):Int) != 0)=false:=rfl
        simp (maxSteps:=400000) only[wF,storeA,reduceCtorEq,Nat.reduceAdd,Nat.reduceSub,Nat.reduceEqDiff,Nat.reduceLeDiff,Int.reduceToNat,Int.reduceLE,Int.reduceLT,Int.reduceAdd,Int.reduceNeg,Nat.reduceMul,T18,AV.boxable,z0,zb]
        exact⟨(p.fin,kl2,ke2,ko2,t2,H2),⟨hb.2.1,hR,hIk2,At2,hd2,by simp only;omega,by simp only;omega,by simp only;omega,hf2⟩,by simp only;omega,by simp[Fg],HW.refl _⟩
       ·rw[if_neg her]at hR
        have z0:((er:Int) != 0)=true:=by simp;omega
        have y2:=At2.1
        simp (maxSteps:=400000) only[wF,storeA,reduceCtorEq,Nat.reduceAdd,Nat.reduceSub,Nat.reduceEqDiff,Nat.reduceLeDiff,Int.reduceToNat,Int.reduceLE,Int.reduceLT,Int.reduceAdd,Int.reduceNeg,Nat.reduceMul,T18,AV.boxable,z0,zb,y2,hd2,u1,u2,ne2,ne3,ne4,AHeap.set_set]
        exact read_fin G At2 (by omega) (by omega) hf2 rfl (fun j h1 h2=>by rw[AHeap.get_set_ne _ _ h1,AHeap.get_set_ne _ _ h2]) hR
end Go.Ab
namespace Go.Ab
open Go Go.Lib Go.Proofs
theorem rrowF_err {s:List UInt8}:∀(f i:Nat) (acc:List UInt8) (is:Bool) (k:Nat),i≤s.length→rrowF f s i acc is = .error k→i≤k∧k<s.length
 | 0,i,acc,is,k,_,h=>by simp[rrowF]at h
 | f+1,i,acc,is,k,hi,h=>by
  simp only[rrowF]at h
  by_cases hl:i<s.length
  ·rw[if_pos hl]at h
   by_cases h60:s.getD i 0=60
   ·rw[if_pos h60]at h
    cases ho:otherP s i with
    | none=>rw[ho]at h;cases h
    | some p=>
     rw[ho]at h
     have hb:=otherP_bound (Nat.le_of_lt hl) ho
     unfold PcOk at hb
     simp only at h
     split at h
     ·have:=rrowF_err f _ _ _ _ (by omega) h
      omega
     ·cases h
   ·rw[if_neg h60]at h
    have hb:=rtextL_bound hl h60
    cases hr:rtextL s i []with
    | error e=>rw[hr]at h hb;cases h;exact hb
    | ok y=>
     rw[hr]at h hb
     simp only at h hb
     have:=rrowF_err f _ _ _ _ (by omega) h
     omega
  ·rw[if_neg hl]at h
   cases h
theorem rreadF_at {s:List UInt8}:∀(f i:Nat) (t:RSt),i≤s.length→(rreadF f s i t).2.1≤s.length
 | 0,_,_,_=>Nat.zero_le _
 | f+1,i,t,hi=>by
  simp only[rreadF]
  by_cases hl:i<s.length
  ·rw[if_pos hl]
   cases hr:rowP s i t with
   | error k=>
    simp only
    unfold rowP at hr
    split at hr
    ·cases hr
    ·have:=rrowF_err _ _ _ _ _ hi hr
     omega
   | ok x=>
    have hb:=rowP_bound hi hr
    simp only
    split
    ·exact rreadF_at f _ _ hb.2.1
    split
    ·split
     ·exact rreadF_at f _ _ hl
     ·exact hi
    ·cases ha:atP s i with
     | none=>exact hi
     | some p=>
      have hp:=atP_bound hl ha
      simp only
      split
      ·exact hi
      split
      ·exact rreadF_at f _ _ hp.2.1
      ·exact hi
  ·rw[if_neg hl]
   split
   ·exact Nat.le_refl _
   ·exact Nat.zero_le _
theorem rreadS_at (s:List UInt8):(rreadS s).2.1≤s.length:=rreadF_at _ _ _ (Nat.zero_le _)
def refAllS (text:List UInt8):List Ev × Nat × Nat × Nat:=
 if isTextS text=true then
  (if(rreadS (endsS text)).2.2=0 then((rreadS (endsS text)).1.l,0,0,0)else([],(placeS (endsS text) (rreadS (endsS text)).2.1).1,(placeS (endsS text) (rreadS (endsS text)).2.1).2,(rreadS (endsS text)).2.2))
 else([],0,0,10)
set_option maxHeartbeats 8000000 in
set_option maxRecDepth 100000 in
theorem r_all_ok (G:Nat→Option (List AV)) {text:List UInt8} (hs:text.length≤3000) (H:AHeap) :
  ACalls Tryz.prog G 13 [.str text] H fun r H'=>r = .ret (allA (refAllS text))∧Kept H H':=by
 refine ACalls.ret (ACalls.of Tryz.func13 S13_eq R13 N13 rfl rfl ?_)
 have d0:decide ((text.length:Int)>1048576)=false:=by simp;omega
 simp (maxSteps:=400000) only[wF,storeA,reduceCtorEq,Nat.reduceAdd,Nat.reduceSub,Nat.reduceEqDiff,Nat.reduceLeDiff,Int.reduceToNat,Int.reduceLE,Int.reduceLT,Int.reduceAdd,Int.reduceNeg,Nat.reduceMul,S13,N13,R13,T13,d0]
 refine AInv.pureK B16 (r_isText_ok G (by omega)) fun H1 h1=>?_
 unfold refAllS
 have n1:=h1.1
 cases ht:isTextS text with
 | false=>
  simp (maxSteps:=400000) only[wF,storeA,reduceCtorEq,Nat.reduceAdd,Nat.reduceSub,Nat.reduceEqDiff,Nat.reduceLeDiff,Int.reduceToNat,Int.reduceLE,Int.reduceLT,Int.reduceAdd,Int.reduceNeg,Nat.reduceMul,T13,Bool.not_false]
  exact⟨_,_,Weak.allNil G _ _ _ _,rfl,by omega,fun j _=>by rw[h1.2]⟩
 | true=>
  simp (maxSteps:=400000) only[wF,storeA,reduceCtorEq,Nat.reduceAdd,Nat.reduceSub,Nat.reduceEqDiff,Nat.reduceLeDiff,Int.reduceToNat,Int.reduceLE,Int.reduceLT,Int.reduceAdd,Int.reduceNeg,Nat.reduceMul,T13,Bool.not_true]
  refine AInv.pureK B17 (r_ends_ok G (by omega)) fun H2 h2=>?_
  have n2:=h2.1
  have hlen:(endsS text).length≤4000:=by rw[←linesS_ends];have:=linesS_len text;omega
  have hat:=rreadS_at (endsS text)
  generalize endsS text=s at hlen hat
  simp (maxSteps:=400000) only[wF,storeA,reduceCtorEq,Nat.reduceAdd,Nat.reduceSub,Nat.reduceEqDiff,Nat.reduceLeDiff,Int.reduceToNat,Int.reduceLE,Int.reduceLT,Int.reduceAdd,Int.reduceNeg,Nat.reduceMul,T13]
  refine AInv.call B18 (r_read_ok G hlen _) fun r3 H3 h3=>?_
  obtain⟨rfl,k3⟩:=h3
  have n3:=k3.1
  have f3:∀j,j<H.next→H3.get j=H.get j:=fun j hj=>by rw[k3.2 j (by omega),h2.2,h1.2]
  generalize rreadS s=d at hat
  obtain⟨t,a,e⟩:=d
  simp only at hat
  simp only[docA]
  by_cases he:e=0
  ·subst he
   have z:(((0:Nat):Int) != 0)=false:=rfl
   simp only[if_true]
   simp (maxSteps:=400000) only[wF,storeA,reduceCtorEq,Nat.reduceAdd,Nat.reduceSub,Nat.reduceEqDiff,Nat.reduceLeDiff,Int.reduceToNat,Int.reduceLE,Int.reduceLT,Int.reduceAdd,Int.reduceNeg,Nat.reduceMul,T13,AV.boxable,z,Nat.le_refl]
   refine⟨_,_,Weak.refl G _ _,rfl,?_,fun j hj=>?_⟩
   ·simp only[AHeap.next_set,AHeap.next_allocAt];omega
   ·rw[AHeap.get_set_ne _ _ (by omega),AHeap.get_allocAt_ne _ _ (by omega)];exact f3 j hj
  ·have z:((e:Int) != 0)=true:=by simp;omega
   rw[if_neg he]
   simp (maxSteps:=400000) only[wF,storeA,reduceCtorEq,Nat.reduceAdd,Nat.reduceSub,Nat.reduceEqDiff,Nat.reduceLeDiff,Int.reduceToNat,Int.reduceLE,Int.reduceLT,Int.reduceAdd,Int.reduceNeg,Nat.reduceMul,T13,AV.boxable,z,Nat.le_refl]
   generalize hX:AHeap.set (AHeap.allocAt H3 H3.next _) H3.next _=X
   have xn:X.next=H3.next+1:=by rw[←hX];simp only[AHeap.next_set,AHeap.next_allocAt];omega
   have xb:X.get H3.next=some (.cells 35 [.lst t.l.length (evsA t.l),.lst t.ends.length (natsA t.ends),.int .i64 a,.int .i64 e]):=by rw[←hX,AHeap.get_set_same]
   have xo:∀j,j<H.next→X.get j=H.get j:=fun j hj=>by rw[←hX,AHeap.get_set_ne _ _ (by omega),AHeap.get_allocAt_ne _ _ (by omega)];exact f3 j hj
   clear hX
   refine AInv.pureK B20 (r_place_ok G hat (by omega)) fun H4 h4=>?_
   have n4:=h4.1
   have xb4:=xb
   rw[←h4.2]at xb4
   simp (maxSteps:=400000) only[wF,storeA,reduceCtorEq,Nat.reduceAdd,Nat.reduceSub,Nat.reduceEqDiff,Nat.reduceLeDiff,Int.reduceToNat,Int.reduceLE,Int.reduceLT,Int.reduceAdd,Int.reduceNeg,Nat.reduceMul,T13]
   refine drawW_fixed mixedOrders L13_9_eq P13_9_eq ?_
   simp (maxSteps:=400000) only[wF,storeA,reduceCtorEq,Nat.reduceAdd,Nat.reduceSub,Nat.reduceEqDiff,Nat.reduceLeDiff,Int.reduceToNat,Int.reduceLE,Int.reduceLT,Int.reduceAdd,Int.reduceNeg,Nat.reduceMul,L13_9,T13,xb4]
   exact⟨_,_,Weak.allNil G _ _ _ _,rfl,by omega,fun j hj=>by rw[h4.2];exact xo j hj⟩
end Go.Ab
