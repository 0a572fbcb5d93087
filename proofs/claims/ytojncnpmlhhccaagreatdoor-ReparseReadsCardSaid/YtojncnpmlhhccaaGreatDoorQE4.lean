/- The reference of tree: start, walked. -/
import Derived.Test.YtojncnpmlhhccaaGreatDoorQE3
set_option linter.all false
namespace Go.Ab
open Go Go.Lib Go.Proofs
theorem e_local (G:Nat→Option (List AV)) {f:FuncId} {args:List AV} {p:Nat × TSt} {m N:Nat} {H:AHeap} {l0:List Nd} (hb:bodyT Tryz.prog f=true) (hm:H.get m=some (.row 36 4 (ndsH l0))) (hN:H.get N=some .held)
  (hc:∀J,J.get m=some (.row 36 4 (ndsH l0))→m<J.next→ACalls Tryz.prog G f args J (EPo p m J)) :
  LCalls Tryz.prog G f args H [m,N] [m,N] (.tup [stV N p.2,.int .i64 p.1]) (fun k=>if k=N then some (.row 36 4 (ndsH p.2.l))else if k=m then none else H.get k):=by
 have hmN:m≠N:=fun e=>by rw[e,hN]at hm;cases hm
 refine⟨hb,fun k hk=>?_,fun J hJ=>ACalls.wf fun wf=>?_⟩
 ·simp only[List.mem_cons,List.not_mem_nil,or_false,not_or]at hk
  simp only[hk.2,hk.1,if_false]
 ·have jm:J.get m=some (.row 36 4 (ndsH l0)):=(hJ m (by simp)).trans hm
  have jN:J.get N=some .held:=(hJ N (by simp)).trans hN
  have wN:=wf N _ jN
  refine ACalls.ret ((hc J jm (wf m _ jm)).mono fun r J' hp=>?_)
  obtain⟨m',rfl,hm',hmm,hmn',hn,hfr⟩:=hp
  have jN':J'.get N=some .held:=(hfr N wN (Ne.symm hmN)).trans jN
  have hhigh:∀j,J.next≤j→J.get j=none:=fun j hj=>by
   cases h:J.get j with
   | none=>rfl
   | some o=>have:=wf j o h;omega
  have hm'N:m'≠N:=by rcases hmm with h | h;rw[h];exact hmN;omega
  refine⟨.tup [stV N p.2,.int .i64 p.1],⟨J'.next,fun k=>if k=N then some (.row 36 4 (ndsH p.2.l))else if k=m then none else J.get k⟩,
   Weak.renameAt (k:=m') hm' (by omega) N p.2.l.length (by rw[ndsH_len];exact Nat.le_refl _) (.inr jN') (Nat.le_refl _) (by simp only;omega) ?_ ?_ (fun j=>?_) ?_,rfl,?_,?_,hn⟩
  ·simp only
   rw[if_neg hm'N]
   rcases hmm with h | h
   ·rw[if_pos h]
   ·rw[hhigh m' h];split<;>rfl
  ·simp only[if_true]
   rw[List.take_of_length_le (by rw[ndsH_len];exact Nat.le_refl _)]
  ·by_cases h1:j=N
   ·exact .inl h1
   ·by_cases h2:j=m
    ·exact .inr (.inl (by simp only;rw[if_neg h1,if_pos h2]))
    ·by_cases h3:j<J.next
     ·cases hg:J.get j with
      | none=>exact .inr (.inl (by simp only;rw[if_neg h1,if_neg h2];exact hg))
      | some o=>exact .inr (.inr ⟨o,o,(hfr j h3 h2).trans hg,by simp only;rw[if_neg h1,if_neg h2];exact hg,.same o⟩)
     ·exact .inr (.inl (by simp only;rw[if_neg h1,if_neg h2];exact hhigh j (by omega)))
  ·exact⟨.tup' ⟨.agg' ⟨.slc _ _ (by simp),.same _,.same _,trivial⟩,.same _,trivial⟩,trivial⟩
  ·intro k hk
   simp only[List.mem_cons,List.not_mem_nil,or_false]at hk
   rcases hk with rfl | rfl
   ·simp only[hmN,if_false,if_true]
   ·simp only[if_true]
  ·intro k hk
   simp only[List.mem_cons,List.not_mem_nil,or_false,not_or]at hk
   simp only
   rw[if_neg hk.2,if_neg hk.1]
theorem addR_dok {t:TSt} {kind:Nat} {name text:List UInt8} (h:DOk t) (e:(addR t kind name text).1=0):DOk (addR t kind name text).2:=by
 have hs:=addR_same t kind name text
 cases he:t.add kind name text with
 | error n=>
  rw[he]at hs
  simp only[SameR]at hs
  omega
 | ok t'=>
  rw[he]at hs
  simp only[SameR]at hs
  rw[hs]
  exact(h.add he).1
def QAt (H:AHeap) (l:List (List UInt8 × List UInt8)) (m0:Nat) (R:Nat × TSt) (ev:AObj) (y:Nat × TSt × Nat × AHeap):Prop:=
 y.1≤l.length∧attrsR (l.drop y.1) y.2.1=R∧DOk y.2.1∧y.2.2.2.get H.next=some (.cells 119 [.slc y.2.2.1 y.2.1.l.length,.int .i64 y.2.1.op,.int .i64 y.2.1.bytes])∧y.2.2.2.get (H.next+1)=some ev ∧
 y.2.2.2.get (H.next+2)=some (.cells 119 [.nils,.int .i64 0,.int .i64 0])∧y.2.2.2.get y.2.2.1=some (.row 36 4 (ndsH y.2.1.l))∧(y.2.2.1=m0∨H.next+3≤y.2.2.1)∧y.2.2.1<y.2.2.2.next∧H.next+3≤y.2.2.2.next∧∀j,j<H.next→j≠m0→y.2.2.2.get j=H.get j
set_option maxHeartbeats 8000000 in
set_option maxRecDepth 100000 in
theorem e_start_ok (G:Nat→Option (List AV)) {t:TSt} {x:Ev} {m:Nat} {H:AHeap} (hd:DOk t) (hx:EvB 10000000 x) (hm:H.get m=some (.row 36 4 (ndsH t.l))) (hmn:m<H.next) :
  ACalls Tryz.prog G 111 [stV m t,.agg (evH x)] H (EPo (beginR t x) m H):=by
 refine ACalls.weak (Weak.evL G _ x H) ?_
 refine ACalls.of Tryz.func111 S111_eq R111 N111 rfl rfl ?_
 have u1:(H.next=H.next+1)=False:=by simp
 have u2:(H.next+1=H.next)=False:=by simp
 have u3:(H.next=H.next+2)=False:=by simp
 have u4:(H.next+2=H.next)=False:=by simp
 have u5:(H.next+1=H.next+2)=False:=by simp
 have u6:(H.next+2=H.next+1)=False:=by simp
 have u7:H.next+1+1=H.next+2:=by omega
 obtain⟨hn,_,hx2,hx3,_⟩:=hx
 simp (maxSteps:=400000) only[wF,storeA,reduceCtorEq,Nat.reduceAdd,Nat.reduceSub,Nat.reduceEqDiff,Nat.reduceLeDiff,Int.reduceToNat,Int.reduceLE,Int.reduceLT,Int.reduceAdd,Int.reduceNeg,Nat.reduceMul,S111,N111,R111,T111,stV,evL,AV.boxable,u1,u2,u3,u4,u5,u6,u7]
 generalize hX0:AHeap.allocAt _ (H.next+2) _=X
 have x0:X.get H.next=some (.cells 119 [.slc m t.l.length,.int .i64 t.op,.int .i64 t.bytes]):=by
  rw[←hX0,AHeap.get_allocAt_ne _ _ (by omega),AHeap.get_allocAt_ne _ _ (by omega),AHeap.get_allocAt_same]
 have x1:X.get (H.next+1)=some (.cells 88 [.int .i64 x.kind,.str x.name,.str x.text,.lst x.attrs.length (attrsH x.attrs),.int .i64 x.line,.int .i64 x.col]):=by
  rw[←hX0,AHeap.get_allocAt_ne _ _ (by omega),AHeap.get_allocAt_same]
 have x2:X.get (H.next+2)=some (.cells 119 [.nils,.int .i64 0,.int .i64 0]):=by
  rw[←hX0,AHeap.get_allocAt_same]
 have xn:H.next+3≤X.next:=by rw[←hX0];simp only[AHeap.next_allocAt];omega
 have xo:∀j,j<H.next→X.get j=H.get j:=fun j hj=>by rw[←hX0,AHeap.get_allocAt_ne _ _ (by omega),AHeap.get_allocAt_ne _ _ (by omega),AHeap.get_allocAt_ne _ _ (by omega)]
 clear hX0
 have xm:=(xo m hmn).trans hm
 refine AInv.pureK B114 (e_allowed1_ok G (by omega)) fun X1 k1=>?_
 have p1:=k1.1
 replace x0:=(congrFun k1.2 _).trans x0
 replace x1:=(congrFun k1.2 _).trans x1
 replace x2:=(congrFun k1.2 _).trans x2
 replace xm:=(congrFun k1.2 _).trans xm
 replace xo:∀j,j<H.next→X1.get j=H.get j:=fun j hj=>(congrFun k1.2 _).trans (xo j hj)
 replace xn:H.next+3≤X1.next:=by omega
 clear k1 p1
 have stay:∀(e:Nat) (J:AHeap) (o:AObj),J.get m=some (.row 36 4 (ndsH t.l))→H.next+3≤J.next→(∀j,j<H.next→J.get j=H.get j)→EPo (e,t) m H (.ret (.tup [stV m t,.int .i64 e])) (J.set (H.next+2) o):=fun e J o a b c=>
  ⟨m,rfl,by rw[AHeap.get_set_ne _ _ (by omega)];exact a,.inl rfl,by simp only[AHeap.next_set];omega,by simp only[AHeap.next_set];omega,fun j hj _=>by rw[AHeap.get_set_ne _ _ (by omega)];exact c j hj⟩
 unfold beginR
 cases hA:allowedS 1 x.name []with
 | false=>
  rw[if_pos rfl]
  simp (maxSteps:=400000) only[wF,storeA,reduceCtorEq,Nat.reduceAdd,Nat.reduceSub,Nat.reduceEqDiff,Nat.reduceLeDiff,Int.reduceToNat,Int.reduceLE,Int.reduceLT,Int.reduceAdd,Int.reduceNeg,Nat.reduceMul,T111,Bool.not_false,x0,x2,u1,u2,u3,u4,u5,u6]
  exact stay 1 X1 _ xm xn xo
 | true=>
 rw[if_neg (by simp)]
 simp (maxSteps:=400000) only[wF,storeA,reduceCtorEq,Nat.reduceAdd,Nat.reduceSub,Nat.reduceEqDiff,Nat.reduceLeDiff,Int.reduceToNat,Int.reduceLE,Int.reduceLT,Int.reduceAdd,Int.reduceNeg,Nat.reduceMul,T111,Bool.not_true]
 refine ATrS.loopK (κ:=Nat × AHeap) (fun y=>[.und,.und,.ptr H.next 0,.ptr (H.next+1) 0,.ptr (H.next+2) 0,.und,.int .i64 y.1]++List.replicate 103 .und) (fun y=>y.2)
  (fun y=>y.1≤x.attrs.length∧((x.attrs.take y.1).all fun a=>allowedS 2 a.1 a.2)=true∧Keeps X1 y.2) (fun y=>x.attrs.length-y.1) ⟨(0,X1),⟨Nat.zero_le _,rfl,Keeps.refl X1⟩,by simp[Fg],HW.refl _⟩ ?_
 rintro⟨k,J⟩ ⟨hk,hall,hJ⟩
 simp only at hk hall hJ
 have pJ:=hJ.1
 replace x0:=(congrFun hJ.2 _).trans x0
 replace x1:=(congrFun hJ.2 _).trans x1
 replace x2:=(congrFun hJ.2 _).trans x2
 replace xm:=(congrFun hJ.2 _).trans xm
 replace xo:∀j,j<H.next→J.get j=H.get j:=fun j hj=>(congrFun hJ.2 _).trans (xo j hj)
 replace xn:H.next+3≤J.next:=by omega
 have ew:IntKind.i64.wrap ((k:Int)+1)=((k+1:Nat):Int):=by rw[wrap64]<;>omega
 by_cases hlt:k<x.attrs.length
 ·have d0:decide ((k:Int)<(x.attrs.length:Int))=true:=by simp;omega
  have ga:=attrsH_at x.attrs k hlt
  have g0:(attrsH x.attrs)[k*2]?=some (.str x.attrs[k].1):=attrsQ_at x.attrs k hlt
  have rk:(0≤(k:Int)∧(k:Int)<(x.attrs.length:Int))=True:=by simp;omega
  have hxk:=hx3 _ (List.getElem_mem hlt)
  have g1:(attrsH x.attrs)[k*2+1]?=some (.str x.attrs[k].2):=by
   have h2:=congrArg (fun l:List AV=>l[1]?) ga
   simp only[List.getElem?_take,List.getElem?_drop]at h2
   simpa using h2
  have q1:((k:Int)<(x.attrs.length:Int))=True:=by simp;omega
  have htk:x.attrs.take (k+1)=x.attrs.take k++[x.attrs[k]]:=by rw[List.take_succ,List.getElem?_eq_getElem hlt];rfl
  have hmem:=List.getElem_mem hlt
  generalize x.attrs[k]=a at g0 g1 hxk htk hmem
  simp (maxSteps:=400000) only[wF,storeA,reduceCtorEq,Nat.reduceAdd,Nat.reduceSub,Nat.reduceEqDiff,Nat.reduceLeDiff,Int.reduceToNat,Int.reduceLE,Int.reduceLT,Int.reduceAdd,Int.reduceNeg,Nat.reduceMul,T111,x1,d0]
  refine drawW_ok (ex:=false) mixedOrders L111_6_eq P111_6_eq ?_
  simp (maxSteps:=400000) only[wF,storeA,reduceCtorEq,Nat.reduceAdd,Nat.reduceSub,Nat.reduceEqDiff,Nat.reduceLeDiff,Int.reduceToNat,Int.reduceLE,Int.reduceLT,Int.reduceAdd,Int.reduceNeg,Nat.reduceMul,L111_6,T111,x1,rk,q1,g0,g1,indexAddrA,Int.toNat_natCast,Nat.add_zero]
  refine callW.pure B114 (e_allowed2_ok G (by omega) (by omega)) ?_
  cases hal:allowedS 2 a.1 a.2 with
  | false=>
   rw[if_pos (by
    rw[Bool.eq_false_iff]
    intro h
    have:=List.all_eq_true.1 h a hmem
    rw[hal]at this
    cases this)]
   simp (maxSteps:=400000) only[wF,storeA,reduceCtorEq,Nat.reduceAdd,Nat.reduceSub,Nat.reduceEqDiff,Nat.reduceLeDiff,Int.reduceToNat,Int.reduceLE,Int.reduceLT,Int.reduceAdd,Int.reduceNeg,Nat.reduceMul,T111,Bool.not_false,x0,x2,u1,u2,u3,u4,u5,u6]
   intro n hn
   exact stay 1 ⟨n,J.get⟩ _ xm (by simp only at hn ⊢;omega) xo
  | true=>
   simp (maxSteps:=400000) only[wF,storeA,reduceCtorEq,Nat.reduceAdd,Nat.reduceSub,Nat.reduceEqDiff,Nat.reduceLeDiff,Int.reduceToNat,Int.reduceLE,Int.reduceLT,Int.reduceAdd,Int.reduceNeg,Nat.reduceMul,T111,Bool.not_true,ew]
   intro n hn
   exact⟨(k+1,⟨n,J.get⟩),⟨hlt,by rw[htk,List.all_append,hall];simp[hal],⟨by simp only at hn ⊢;omega,hJ.2⟩⟩,by simp only;omega,by simp[Fg],HW.refl _⟩
 have d0:decide ((k:Int)<(x.attrs.length:Int))=false:=by simp;omega
 have hkl:k=x.attrs.length:=by omega
 rw[hkl,List.take_length]at hall
 rw[if_neg (by rw[hall];simp)]
 clear hJ pJ hk
 simp (maxSteps:=400000) only[wF,storeA,reduceCtorEq,Nat.reduceAdd,Nat.reduceSub,Nat.reduceEqDiff,Nat.reduceLeDiff,Int.reduceToNat,Int.reduceLE,Int.reduceLT,Int.reduceAdd,Int.reduceNeg,Nat.reduceMul,T111,x1,d0]
 refine ATrS.loopK (κ:=Nat) (fun y=>[.und,.und,.ptr H.next 0,.ptr (H.next+1) 0,.ptr (H.next+2) 0,.und,.und,.int .i64 y]++List.replicate 102 .und) (fun _=>J)
  (fun y=>y≤x.attrs.length∧∀i j (hi:i<y) (hil:i<x.attrs.length) (hj:j<i),x.attrs[i].1≠x.attrs[j].1) (fun y=>x.attrs.length-y) ⟨0,⟨Nat.zero_le _,fun i j hi=>absurd hi (by omega)⟩,by simp[Fg],HW.refl _⟩ ?_
 rintro k ⟨k1,k2⟩
 have ew:IntKind.i64.wrap ((k:Int)+1)=((k+1:Nat):Int):=by rw[wrap64]<;>omega
 by_cases hlt:k<x.attrs.length
 case pos=>
  have d1:decide ((k:Int)<(x.attrs.length:Int))=true:=by simp;omega
  simp (maxSteps:=400000) only[wF,storeA,reduceCtorEq,Nat.reduceAdd,Nat.reduceSub,Nat.reduceEqDiff,Nat.reduceLeDiff,Int.reduceToNat,Int.reduceLE,Int.reduceLT,Int.reduceAdd,Int.reduceNeg,Nat.reduceMul,T111,x1,d1]
  refine ATrS.loopK (κ:=Nat) (fun y=>[.und,.und,.ptr H.next 0,.ptr (H.next+1) 0,.ptr (H.next+2) 0,.und,.und,.int .i64 k,.int .i64 y]++List.replicate 101 .und) (fun _=>J)
   (fun y=>y≤k∧∀j (hj:j<y) (hk:y≤k),x.attrs[k].1≠x.attrs[j].1) (fun y=>k-y) ⟨0,⟨Nat.zero_le _,fun j hj=>absurd hj (by omega)⟩,by simp[Fg],HW.refl _⟩ ?_
  rintro c ⟨m1,m2⟩
  by_cases hc:c<k
  case neg=>
   have d2:decide ((c:Int)<(k:Int))=false:=by simp;omega
   simp (maxSteps:=400000) only[wF,storeA,reduceCtorEq,Nat.reduceAdd,Nat.reduceSub,Nat.reduceEqDiff,Nat.reduceLeDiff,Int.reduceToNat,Int.reduceLE,Int.reduceLT,Int.reduceAdd,Int.reduceNeg,Nat.reduceMul,T111,d2,ew]
   refine⟨k+1,⟨hlt,fun i j hi hil hj=>?_⟩,by omega,by simp[Fg],HW.refl _⟩
   by_cases e:i=k
   ·subst e
    exact m2 j (by omega) m1
   ·exact k2 i j (by omega) hil hj
  have d2:decide ((c:Int)<(k:Int))=true:=by simp;omega
  have ga:=attrsQ_at x.attrs k hlt
  have gm:=attrsQ_at x.attrs c (by omega)
  have rk:(0≤(k:Int)∧(k:Int)<(x.attrs.length:Int))=True:=by simp;omega
  have rm:(0≤(c:Int)∧(c:Int)<(x.attrs.length:Int))=True:=by simp;omega
  simp (maxSteps:=400000) only[wF,storeA,reduceCtorEq,Nat.reduceAdd,Nat.reduceSub,Nat.reduceEqDiff,Nat.reduceLeDiff,Int.reduceToNat,Int.reduceLE,Int.reduceLT,Int.reduceAdd,Int.reduceNeg,Nat.reduceMul,T111,d2]
  refine drawW_fixed mixedOrders L111_14_eq P111_14_eq ?_
  simp (maxSteps:=400000) only[wF,storeA,reduceCtorEq,Nat.reduceAdd,Nat.reduceSub,Nat.reduceEqDiff,Nat.reduceLeDiff,Int.reduceToNat,Int.reduceLE,Int.reduceLT,Int.reduceAdd,Int.reduceNeg,Nat.reduceMul,L111_14,T111,x1,ga,gm,rk,rm,indexAddrA,Int.toNat_natCast,Nat.add_zero]
  refine⟨by omega,by omega,?_⟩
  by_cases e:x.attrs[k].1=x.attrs[c].1
  ·have z:(x.attrs[k].1==x.attrs[c].1)=true:=by simpa using e
   rw[if_pos (by rw[names_nodup];exact fun h=>h k c hlt hc e)]
   simp (maxSteps:=400000) only[wF,storeA,reduceCtorEq,Nat.reduceAdd,Nat.reduceSub,Nat.reduceEqDiff,Nat.reduceLeDiff,Int.reduceToNat,Int.reduceLE,Int.reduceLT,Int.reduceAdd,Int.reduceNeg,Nat.reduceMul,z,T111,x0,x2,u1,u2,u3,u4,u5,u6]
   exact stay 4 J _ xm xn xo
  ·have z:(x.attrs[k].1==x.attrs[c].1)=false:=by simpa using e
   have em:IntKind.i64.wrap ((c:Int)+1)=((c+1:Nat):Int):=by rw[wrap64]<;>omega
   simp (maxSteps:=400000) only[wF,storeA,reduceCtorEq,Nat.reduceAdd,Nat.reduceSub,Nat.reduceEqDiff,Nat.reduceLeDiff,Int.reduceToNat,Int.reduceLE,Int.reduceLT,Int.reduceAdd,Int.reduceNeg,Nat.reduceMul,z,T111,em]
   refine⟨c+1,⟨hc,fun j hj hk=>?_⟩,by omega,by simp[Fg],HW.refl _⟩
   by_cases e2:j=c
   ·subst e2;exact e
   ·exact m2 j (by omega) m1
 have d1:decide ((k:Int)<(x.attrs.length:Int))=false:=by simp;omega
 have hnd:(x.attrs.map (·.1)).Nodup:=by
  rw[names_nodup]
  exact fun i j hi hj=>k2 i j (by omega) hi hj
 rw[if_neg (fun h=>h hnd)]
 clear k1 k2 hnd ew hlt
 simp (maxSteps:=400000) only[wF,storeA,reduceCtorEq,Nat.reduceAdd,Nat.reduceSub,Nat.reduceEqDiff,Nat.reduceLeDiff,Int.reduceToNat,Int.reduceLE,Int.reduceLT,Int.reduceAdd,Int.reduceNeg,Nat.reduceMul,T111,x1,d1,x0,u1,u2]
 clear d1
 refine AInv.call B115 (e_add_ok G (m:=m) hd (by simp) xm (by omega)) fun r J1 h=>?_
 obtain⟨m1,rfl,hm1,hmm,hml,hn1,hf1⟩:=h
 have y0:=(hf1 (H.next) (by omega) (by omega)).trans x0
 have y1:=(hf1 (H.next+1) (by omega) (by omega)).trans x1
 have y2:=(hf1 (H.next+2) (by omega) (by omega)).trans x2
 have yo:∀j,j<H.next→j≠m→J1.get j=H.get j:=fun j hj hjm=>(hf1 j (by omega) hjm).trans (xo j hj)
 have w1:(m1=H.next)=False:=eq_false (by omega)
 have w2:(H.next=m1)=False:=eq_false (by omega)
 clear x0 x1 x2 xm xo hf1 stay
 have hsame:=addR_same t 1 x.name []
 cases he:t.add 1 x.name []with
 | error e=>
  rw[he]at hsame
  simp only[SameR]at hsame
  have hE:(addR t 1 x.name []).1≠0:=by omega
  rw[if_pos hE]
  generalize addR t 1 x.name []=p at hm1 hE ⊢
  have d2:((p.1:Int) != 0)=true:=by rw[bne_iff_ne];omega
  simp (maxSteps:=400000) only[wF,storeA,reduceCtorEq,Nat.reduceAdd,Nat.reduceSub,Nat.reduceEqDiff,Nat.reduceLeDiff,Int.reduceToNat,Int.reduceLE,Int.reduceLT,Int.reduceAdd,Int.reduceNeg,Nat.reduceMul,T111,stV,d2,y0,y1,y2,u1,u2,u3,u4,u5,u6,w1,w2]
  refine⟨m1,rfl,?_,by omega,?_,?_,fun j hj hjm=>?_⟩
  ·rw[AHeap.get_set_ne _ _ (by omega),AHeap.get_set_ne _ _ (by omega)];exact hm1
  ·simp only[AHeap.next_set];omega
  ·simp only[AHeap.next_set];omega
  ·rw[AHeap.get_set_ne _ _ (by omega),AHeap.get_set_ne _ _ (by omega)];exact yo j hj hjm
 | ok t1=>
  rw[he]at hsame
  simp only[SameR]at hsame
  obtain⟨hd1,hl1,ho1,hdd1⟩:=hd.add he
  have hd2:=hd.begun he
  rw[hsame]at hm1 ⊢
  rw[if_neg (by simp)]
  have hlen1:t1.l.length=t.l.length+1:=by rw[hl1];simp
  have hlen:=hd.len
  have es:IntKind.i64.wrap (((t.l.length+1:Nat):Int)-1)=((t.l.length:Nat):Int):=by rw[wrap64]<;>omega
  have d2:(((0:Nat):Int) != 0)=false:=rfl
  simp only at hm1
  simp (maxSteps:=400000) only[wF,storeA,reduceCtorEq,Nat.reduceAdd,Nat.reduceSub,Nat.reduceEqDiff,Nat.reduceLeDiff,Int.reduceToNat,Int.reduceLE,Int.reduceLT,Int.reduceAdd,Int.reduceNeg,Nat.reduceMul,T111,stV,d2,hlen1,es,y0,y1,y2,u1,u2,u3,u4,u5,u6,w1,w2]
  generalize hY:AHeap.set (AHeap.set J1 H.next _) H.next _=Y
  have z0:Y.get H.next=some (.cells 119 [.slc m1 t1.l.length,.int .i64 ((t.l.length:Nat):Int),.int .i64 t1.bytes]):=by rw[←hY,AHeap.get_set_same,hlen1]
  have zg:∀j,j≠H.next→Y.get j=J1.get j:=fun j hj=>by rw[←hY,AHeap.get_set_ne _ _ hj,AHeap.get_set_ne _ _ hj]
  have zn:Y.next=J1.next:=by rw[←hY];rfl
  clear hY
  generalize hR:attrsR x.attrs { l:=t1.l,op:=t.l.length,deep:=t.deep+1,bytes:=t1.bytes }=R
  refine ATrS.loopK (κ:=Nat × TSt × Nat × AHeap) (fun y=>[.und,.und,.ptr H.next 0,.ptr (H.next+1) 0,.ptr (H.next+2) 0,.und,.und,.und,.und,.und,.int .i64 y.1]++List.replicate 99 .und) (fun y=>y.2.2.2)
   (QAt H x.attrs m R (.cells 88 [.int .i64 x.kind,.str x.name,.str x.text,.lst x.attrs.length (attrsH x.attrs),.int .i64 x.line,.int .i64 x.col])) (fun y=>x.attrs.length-y.1)
   ⟨(0,{ l:=t1.l,op:=t.l.length,deep:=t.deep+1,bytes:=t1.bytes },m1,Y),⟨Nat.zero_le _,hR,hd2,z0,(zg _ (by omega)).trans y1,(zg _ (by omega)).trans y2,(zg m1 (by omega)).trans hm1,by simp only;omega,by simp only;omega,by simp only;omega,fun j hj hjm=>(zg j (by omega)).trans (yo j hj hjm)⟩,by simp[Fg],HW.refl _⟩ ?_
  clear z0 zg zn hR hd2 y0 y1 y2 yo hm1 hmm hml hn1 hlen1 es d2 he hsame hl1 ho1 hdd1 hd1 w1 w2
  rintro⟨k,s,c,K⟩ ⟨hk,hR,hds,z0,z1,z2,zc,hcm,hcn,hKn,zo⟩
  simp only at hk hR hds z0 z1 z2 zc hcm hcn hKn zo
  have w1:(c=H.next)=False:=eq_false (by omega)
  have w2:(H.next=c)=False:=eq_false (by omega)
  have ew:IntKind.i64.wrap ((k:Int)+1)=((k+1:Nat):Int):=by rw[wrap64]<;>omega
  by_cases hlt:k<x.attrs.length
  case neg=>
   have d1:decide ((k:Int)<(x.attrs.length:Int))=false:=by simp;omega
   rw[List.drop_eq_nil_of_le (by omega)]at hR
   simp only[attrsR]at hR
   subst hR
   simp (maxSteps:=400000) only[wF,storeA,reduceCtorEq,Nat.reduceAdd,Nat.reduceSub,Nat.reduceEqDiff,Nat.reduceLeDiff,Int.reduceToNat,Int.reduceLE,Int.reduceLT,Int.reduceAdd,Int.reduceNeg,Nat.reduceMul,T111,z1,d1,z0,z2,u1,u2,u3,u4,u5,u6]
   refine⟨c,rfl,?_,by omega,?_,?_,fun j hj hjm=>?_⟩
   ·rw[AHeap.get_set_ne _ _ (by omega)];exact zc
   ·simp only[AHeap.next_set];omega
   ·simp only[AHeap.next_set];omega
   ·rw[AHeap.get_set_ne _ _ (by omega)];exact zo j hj hjm
  have d1:decide ((k:Int)<(x.attrs.length:Int))=true:=by simp;omega
  have ga:=attrsH_at x.attrs k hlt
  have g0:(attrsH x.attrs)[k*2]?=some (.str x.attrs[k].1):=attrsQ_at x.attrs k hlt
  have g1:(attrsH x.attrs)[k*2+1]?=some (.str x.attrs[k].2):=by
   have h2:=congrArg (fun l:List AV=>l[1]?) ga
   simp only[List.getElem?_take,List.getElem?_drop]at h2
   simpa using h2
  have rk:(0≤(k:Int)∧(k:Int)<(x.attrs.length:Int))=True:=by simp;omega
  have q1:((k:Int)<(x.attrs.length:Int))=True:=by simp;omega
  have hxk:=hx3 _ (List.getElem_mem hlt)
  rw[List.drop_eq_getElem_cons hlt]at hR
  simp only[attrsR]at hR
  generalize x.attrs[k]=a at g0 g1 hxk hR
  clear ga
  simp (maxSteps:=400000) only[wF,storeA,reduceCtorEq,Nat.reduceAdd,Nat.reduceSub,Nat.reduceEqDiff,Nat.reduceLeDiff,Int.reduceToNat,Int.reduceLE,Int.reduceLT,Int.reduceAdd,Int.reduceNeg,Nat.reduceMul,T111,z1,d1]
  refine ATrS.weak (Weak.hold 1) ?_
  generalize hK:(AHeap.mk (K.next+1) fun j=>if K.next≤j∧j<K.next+1 then some .held else K.get j)=L
  have ln:L.next=K.next+1:=by rw[←hK]
  have lN:L.get K.next=some .held:=by rw[←hK];simp
  have lg:∀j,j<K.next→L.get j=K.get j:=fun j hj=>by rw[←hK];simp only;rw[if_neg (by omega)]
  clear hK
  replace z0:=(lg _ (by omega)).trans z0
  replace z1:=(lg _ (by omega)).trans z1
  replace z2:=(lg _ (by omega)).trans z2
  replace zc:=(lg _ hcn).trans zc
  refine drawW_ok (ex:=false) mixedOrders L111_23_eq P111_23_eq ?_
  simp (maxSteps:=400000) only[wF,storeA,reduceCtorEq,Nat.reduceAdd,Nat.reduceSub,Nat.reduceEqDiff,Nat.reduceLeDiff,Int.reduceToNat,Int.reduceLE,Int.reduceLT,Int.reduceAdd,Int.reduceNeg,Nat.reduceMul,L111_23,T111,z0,z1,rk,q1,g0,g1,indexAddrA,Int.toNat_natCast,Nat.add_zero]
  refine⟨rfl,_,_,_,_,e_local G B115 zc lN (fun J' h1 h2=>e_add_ok G (kind:=2) (name:=a.1) (text:=a.2) hds (by omega) h1 h2),?_⟩
  have hpd:=addR_dok (kind:=2) (name:=a.1) (text:=a.2) hds
  generalize addR s 2 a.1 a.2=p at hR hpd ⊢
  generalize hg:(fun k=>if k=K.next then some (AObj.row 36 4 (ndsH p.2.l))else if k=c then none else L.get k)=Hg
  have hg0:Hg H.next=some (.cells 119 [.slc c s.l.length,.int .i64 s.op,.int .i64 s.bytes]):=by rw[←hg];simp only;rw[if_neg (by omega),if_neg (by omega)];exact z0
  simp (maxSteps:=400000) only[wF,storeA,reduceCtorEq,Nat.reduceAdd,Nat.reduceSub,Nat.reduceEqDiff,Nat.reduceLeDiff,Int.reduceToNat,Int.reduceLE,Int.reduceLT,Int.reduceAdd,Int.reduceNeg,Nat.reduceMul,T111,stV,hg0]
  intro n hn2
  generalize hZ:(AHeap.mk n _)=Z
  have zn:Z.next=n:=by rw[←hZ]
  have y0:Z.get H.next=some (.cells 119 [.slc K.next p.2.l.length,.int .i64 p.2.op,.int .i64 p.2.bytes]):=by rw[←hZ];simp
  have yg:∀j,j≠H.next→Z.get j=Hg j:=fun j hj=>by rw[←hZ];exact AHeap.get_set_ne _ _ hj
  have y1:=(yg (H.next+1) (by omega)).trans (show Hg (H.next+1)=L.get (H.next+1) by rw[←hg];simp only;rw[if_neg (by omega),if_neg (by omega)])
  rw[z1]at y1
  have y2:=(yg (H.next+2) (by omega)).trans (show Hg (H.next+2)=L.get (H.next+2) by rw[←hg];simp only;rw[if_neg (by omega),if_neg (by omega)])
  rw[z2]at y2
  have yr:Z.get K.next=some (.row 36 4 (ndsH p.2.l)):=(yg _ (by omega)).trans (by rw[←hg];simp)
  have yo:∀j,j<H.next→j≠m→Z.get j=H.get j:=fun j hj hjm=>(yg _ (by omega)).trans (by rw[←hg];simp only;rw[if_neg (by omega),if_neg (by omega)];exact(lg j (by omega)).trans (zo j hj hjm))
  clear hZ hg hg0 yg
  have v1:(H.next=K.next)=False:=eq_false (by omega)
  by_cases hp0:p.1=0
  ·have d2:((p.1:Int) != 0)=false:=by rw[hp0];rfl
   rw[if_pos hp0]at hR
   simp (maxSteps:=400000) only[wF,storeA,reduceCtorEq,Nat.reduceAdd,Nat.reduceSub,Nat.reduceEqDiff,Nat.reduceLeDiff,Int.reduceToNat,Int.reduceLE,Int.reduceLT,Int.reduceAdd,Int.reduceNeg,Nat.reduceMul,T111,d2,ew]
   exact⟨(k+1,p.2,K.next,Z),⟨hlt,hR,hpd hp0,y0,y1,y2,yr,.inr (by simp only;omega),by simp only;omega,by simp only;omega,yo⟩,by simp only;omega,by simp[Fg],HW.refl _⟩
  ·have d2:((p.1:Int) != 0)=true:=by rw[bne_iff_ne];omega
   rw[if_neg hp0]at hR
   subst hR
   simp (maxSteps:=400000) only[wF,storeA,reduceCtorEq,Nat.reduceAdd,Nat.reduceSub,Nat.reduceEqDiff,Nat.reduceLeDiff,Int.reduceToNat,Int.reduceLE,Int.reduceLT,Int.reduceAdd,Int.reduceNeg,Nat.reduceMul,T111,d2,y0,y2,u1,u2,u3,u4,u5,u6]
   refine⟨K.next,rfl,?_,by omega,?_,?_,fun j hj hjm=>?_⟩
   ·rw[AHeap.get_set_ne _ _ (by omega)];exact yr
   ·simp only[AHeap.next_set];omega
   ·simp only[AHeap.next_set];omega
   ·rw[AHeap.get_set_ne _ _ (by omega)];exact yo j hj hjm
end Go.Ab
