/- The reference of tree: depth and add, walked. -/
import Derived.Test.YtojncnpmlhhccaaGreatDoorQC
import Derived.Test.YtojncnpmlhhccaaGreatDoorQP1
set_option linter.all false
namespace Go.Ab
open Go Go.Lib Go.Proofs
set_option maxHeartbeats 4000000 in
set_option maxRecDepth 100000 in
theorem e_depth_ok (G:Nat→Option (List AV)) {l:List Nd} {i m:Nat} {H:AHeap} (hi:i<l.length) (hu:UpOk l i) (h0:(l.getD 0 nd0).up = -1) (hl:l.length≤1000000) (hm:H.get m=some (.row 36 4 (ndsH l))) (hmn:m<H.next) :
  ACalls Tryz.prog G 142 [.agg [.slc m l.length],.int .i64 i] H fun r H'=>r = .ret (.int .i64 (depN l i i))∧Keeps H H':=by
 refine ACalls.keep (ACalls.of Tryz.func142 S142_eq R142 N142 rfl rfl ?_)
 simp (maxSteps:=400000) only[wF,storeA,reduceCtorEq,Nat.reduceAdd,Nat.reduceSub,Nat.reduceEqDiff,Nat.reduceLeDiff,Int.reduceToNat,Int.reduceLE,Int.reduceLT,Int.reduceAdd,Int.reduceNeg,Nat.reduceMul,S142,N142,R142,T142,AV.boxable]
 generalize hX0:AHeap.allocAt H H.next _=X
 have x0:X.get H.next=some (.cells 25 [.slc m l.length]):=by rw[←hX0,AHeap.get_allocAt_same]
 have xn:X.next=H.next+1:=by rw[←hX0];simp only[AHeap.next_allocAt];omega
 have xo:∀j,j<H.next→X.get j=H.get j:=fun j hj=>by rw[←hX0,AHeap.get_allocAt_ne _ _ (by omega)]
 have xm:=(xo m hmn).trans hm
 clear hX0
 have hdl:=depN_le l i i
 refine ATrS.loopK (κ:=Int × Nat) (fun c=>[.und,.int .i64 c.1,.ptr H.next 0,.und,.und,.int .i64 c.2]++List.replicate 11 .und) (fun _=>X)
  (fun c=>(c.1 = -1∧c.2=depN l i i)∨∃k:Nat,c.1=k∧k≤i∧c.2+depN l k k=depN l i i) (fun c=>(c.1+1).toNat) ⟨(i,0),.inr ⟨i,rfl,Nat.le_refl _,Nat.zero_add _⟩,by simp[Fg],HW.refl _⟩ ?_
 rintro⟨z,c⟩ (⟨h1,h2⟩ | ⟨k,h1,h2,h3⟩)
 ·simp only at h1 h2
  subst h1
  have d0:decide ((-1:Int)≥0)=false:=rfl
  simp (maxSteps:=400000) only[wF,storeA,reduceCtorEq,Nat.reduceAdd,Nat.reduceSub,Nat.reduceEqDiff,Nat.reduceLeDiff,Int.reduceToNat,Int.reduceLE,Int.reduceLT,Int.reduceAdd,Int.reduceNeg,Nat.reduceMul,T142,d0]
  exact⟨by rw[h2],by omega,xo⟩
 ·simp only at h1 h2 h3
  subst h1
  have d0:decide ((k:Int)≥0)=true:=by simp
  have hkl:k<l.length:=by omega
  have q0:((0:Int)≤(k:Int))=True:=by simp
  have q1:((k:Int)<(l.length:Int))=True:=by simp;omega
  have ew:IntKind.i64.wrap ((c:Int)+1)=((c+1:Nat):Int):=by rw[wrap64]<;>omega
  have g3:=ndsH_get l k 3 hkl (by omega)
  have hgd:l.getD k nd0=l[k]:=by rw[List.getD_eq_getElem?_getD,List.getElem?_eq_getElem hkl];rfl
  have hk0:k=0→l[k].up = -1:=fun h=>by rw[←hgd,h];exact h0
  have hst:=fun hp=>depN_step (l:=l) (i:=k) (fun j j1 j2=>hu j j1 (by omega)) hp
  have hb:=fun hp=>hu k hp h2
  rw[hgd]at hst hb
  generalize l[k]=x at g3 hst hb hk0
  simp only[ndH,List.getElem?_cons_zero,List.getElem?_cons_succ]at g3
  simp (maxSteps:=400000) only[wF,storeA,reduceCtorEq,Nat.reduceAdd,Nat.reduceSub,Nat.reduceEqDiff,Nat.reduceLeDiff,Int.reduceToNat,Int.reduceLE,Int.reduceLT,Int.reduceAdd,Int.reduceNeg,Nat.reduceMul,T142,d0,ew,x0,xm,q0,q1,indexAddrA,g3]
  by_cases hk:k=0
  ·have e1:depN l k k=1:=by rw[hk];rfl
   exact⟨(-1,c+1),.inl ⟨rfl,by simp only;omega⟩,by simp only;omega,by rw[hk0 hk];simp[Fg],HW.refl _⟩
  ·have hb:=hb (by omega)
   have hst:=hst (by omega)
   have hx:x.up=((x.up.toNat:Nat):Int):=by omega
   exact⟨(x.up.toNat,c+1),.inr ⟨x.up.toNat,rfl,by omega,by simp only;omega⟩,by simp only;omega,by rw[←hx];simp[Fg],HW.refl _⟩
/-! The state of the reference's Build. -/
def stV (m:Nat) (t:TSt):AV := .agg [.slc m t.l.length,.int .i64 t.op,.int .i64 t.bytes]
def EPo (p:Nat × TSt) (m:Nat) (H:AHeap) (r:ARes) (H':AHeap):Prop:=
 ∃m',r = .ret (.tup [stV m' p.2,.int .i64 p.1])∧H'.get m'=some (.row 36 4 (ndsH p.2.l))∧(m'=m∨H.next≤m')∧m'<H'.next∧H.next≤H'.next∧∀j,j<H.next→j≠m→H'.get j=H.get j
theorem addR_long {t:TSt} {kind:Nat} {name text:List UInt8} (h:65536≤t.l.length∨(kind≠2∧200≤t.deep)∨1048576<t.bytes+text.length):addR t kind name text=(2,t):=by
 unfold addR TSt.add
 rw[if_pos h]
theorem addR_ok {t:TSt} {kind:Nat} {name text:List UInt8} (h:¬(65536≤t.l.length∨(kind≠2∧200≤t.deep)∨1048576<t.bytes+text.length)):addR t kind name text=(0,{ t with l:=t.l++[⟨kind,name,text,t.op⟩],bytes:=t.bytes+text.length }):=by
 unfold addR TSt.add
 rw[if_neg h]
set_option maxHeartbeats 8000000 in
set_option maxRecDepth 100000 in
theorem e_add_ok (G:Nat→Option (List AV)) {t:TSt} {kind m:Nat} {name text:List UInt8} {H:AHeap} (hd:DOk t) (ht:text.length≤1000000000) (hm:H.get m=some (.row 36 4 (ndsH t.l))) (hmn:m<H.next) :
  ACalls Tryz.prog G 115 [stV m t,.int .i64 kind,.str name,.str text] H (EPo (addR t kind name text) m H):=by
 refine ACalls.of Tryz.func115 S115_eq R115 N115 rfl rfl ?_
 have u1:(H.next=H.next+1)=False:=by simp
 have u2:(H.next+1=H.next)=False:=by simp
 simp (maxSteps:=400000) only[wF,storeA,reduceCtorEq,Nat.reduceAdd,Nat.reduceSub,Nat.reduceEqDiff,Nat.reduceLeDiff,Int.reduceToNat,Int.reduceLE,Int.reduceLT,Int.reduceAdd,Int.reduceNeg,Nat.reduceMul,S115,N115,R115,T115,stV,AV.boxable,u1,u2]
 generalize hX0:AHeap.allocAt _ (H.next+1) _=X
 have x0:X.get H.next=some (.cells 119 [.slc m t.l.length,.int .i64 t.op,.int .i64 t.bytes]):=by
  rw[←hX0,AHeap.get_allocAt_ne _ _ (by omega),AHeap.get_allocAt_same]
 have x1:X.get (H.next+1)=some (.cells 119 [.nils,.int .i64 0,.int .i64 0]):=by
  rw[←hX0,AHeap.get_allocAt_same]
 have xn:H.next+2≤X.next:=by rw[←hX0];simp only[AHeap.next_allocAt];omega
 have xo:∀j,j<H.next→X.get j=H.get j:=fun j hj=>by rw[←hX0,AHeap.get_allocAt_ne _ _ (by omega),AHeap.get_allocAt_ne _ _ (by omega)]
 have xm:=(xo m hmn).trans hm
 clear hX0
 have hlen:=hd.len
 have hby:=hd.bytes
 have v1:(m=H.next)=False:=eq_false (by omega)
 have v2:(m=H.next+1)=False:=eq_false (by omega)
 have stay:∀(J:AHeap) (o:AObj),J.get m=some (.row 36 4 (ndsH t.l))→H.next+2≤J.next→(∀j,j<H.next→J.get j=H.get j)→EPo (2,t) m H (.ret (.tup [stV m t,.int .i64 2])) (J.set (H.next+1) o):=fun J o a b c=>
  ⟨m,rfl,by rw[AHeap.get_set_ne _ _ (by omega)];exact a,.inl rfl,by simp only[AHeap.next_set];omega,by simp only[AHeap.next_set];omega,fun j hj _=>by rw[AHeap.get_set_ne _ _ (by omega)];exact c j hj⟩
 by_cases hl:65536≤t.l.length
 ·have d0:decide ((t.l.length:Int)≥65536)=true:=by simp;omega
  rw[addR_long (.inl hl)]
  simp (maxSteps:=400000) only[wF,storeA,reduceCtorEq,Nat.reduceAdd,Nat.reduceSub,Nat.reduceEqDiff,Nat.reduceLeDiff,Int.reduceToNat,Int.reduceLE,Int.reduceLT,Int.reduceAdd,Int.reduceNeg,Nat.reduceMul,T115,d0,x0,x1,u1,u2]
  exact stay X _ xm xn xo
 have d0:decide ((t.l.length:Int)≥65536)=false:=by simp;omega
 have ew:IntKind.i64.wrap (1048576-(t.bytes:Int))=1048576-(t.bytes:Int):=by rw[wrap64]<;>omega
 by_cases hdp:kind≠2∧200≤t.deep
 ·have d1:((kind:Int) != 2)=true:=by rw[bne_iff_ne];omega
  have d2:decide ((depN t.l t.op t.op:Int)≥200)=true:=by have:=hd.deep;simp;omega
  rw[addR_long (.inr (.inl hdp))]
  simp (maxSteps:=400000) only[wF,storeA,reduceCtorEq,Nat.reduceAdd,Nat.reduceSub,Nat.reduceEqDiff,Nat.reduceLeDiff,Int.reduceToNat,Int.reduceLE,Int.reduceLT,Int.reduceAdd,Int.reduceNeg,Nat.reduceMul,T115,d0,d1,x0,x1,u1,u2]
  refine AInv.retK B142 (e_depth_ok G hd.op (hd.upOk hd.op) (by rw[hd.root];rfl) (by omega) xm (by omega)) (fun v J hq=>?_) (fun v J hq=>by cases hq.1)
  obtain⟨hq,j1⟩:=hq
  cases hq
  have p1:=j1.1
  replace x0:=(congrFun j1.2 _).trans x0
  replace x1:=(congrFun j1.2 _).trans x1
  simp (maxSteps:=400000) only[wF,storeA,reduceCtorEq,Nat.reduceAdd,Nat.reduceSub,Nat.reduceEqDiff,Nat.reduceLeDiff,Int.reduceToNat,Int.reduceLE,Int.reduceLT,Int.reduceAdd,Int.reduceNeg,Nat.reduceMul,T115,d2,x0,x1,u1,u2]
  exact stay J _ ((congrFun j1.2 _).trans xm) (by omega) (fun j hj=>(congrFun j1.2 _).trans (xo j hj))
 have hk:kind=2∨(kind≠2∧t.deep<200):=by
  by_cases h:kind=2
  ·exact .inl h
  ·exact .inr ⟨h,by have:=fun g=>hdp ⟨h,g⟩;omega⟩
 rcases hk with hk | ⟨hk,hdeep⟩
 case' inl=>
  have d1:((kind:Int) != 2)=false:=by rw[hk];rfl
  simp (maxSteps:=400000) only[wF,storeA,reduceCtorEq,Nat.reduceAdd,Nat.reduceSub,Nat.reduceEqDiff,Nat.reduceLeDiff,Int.reduceToNat,Int.reduceLE,Int.reduceLT,Int.reduceAdd,Int.reduceNeg,Nat.reduceMul,T115,d0,d1,ew,x0]
  generalize X=J at x0 x1 xm xn xo ⊢
 case' inr=>
  have d1:((kind:Int) != 2)=true:=by rw[bne_iff_ne];omega
  have d2:decide ((depN t.l t.op t.op:Int)≥200)=false:=by have:=hd.deep;simp;omega
  simp (maxSteps:=400000) only[wF,storeA,reduceCtorEq,Nat.reduceAdd,Nat.reduceSub,Nat.reduceEqDiff,Nat.reduceLeDiff,Int.reduceToNat,Int.reduceLE,Int.reduceLT,Int.reduceAdd,Int.reduceNeg,Nat.reduceMul,T115,d0,d1,x0]
  refine AInv.retK B142 (e_depth_ok G hd.op (hd.upOk hd.op) (by rw[hd.root];rfl) (by omega) xm (by omega)) (fun v J hq=>?_) (fun v J hq=>by cases hq.1)
  obtain⟨hq,j1⟩:=hq
  cases hq
  have p1:=j1.1
  replace x0:=(congrFun j1.2 _).trans x0
  replace x1:=(congrFun j1.2 _).trans x1
  replace xm:=(congrFun j1.2 _).trans xm
  replace xo:∀j,j<H.next→J.get j=H.get j:=fun j hj=>(congrFun j1.2 _).trans (xo j hj)
  replace xn:H.next+2≤J.next:=by omega
  simp (maxSteps:=400000) only[wF,storeA,reduceCtorEq,Nat.reduceAdd,Nat.reduceSub,Nat.reduceEqDiff,Nat.reduceLeDiff,Int.reduceToNat,Int.reduceLE,Int.reduceLT,Int.reduceAdd,Int.reduceNeg,Nat.reduceMul,T115,d2,ew,x0]
 all_goals
  by_cases hb:1048576<t.bytes+text.length
  ·have d3:decide ((text.length:Int)>1048576-(t.bytes:Int))=true:=by simp;omega
   rw[addR_long (.inr (.inr hb))]
   simp (maxSteps:=400000) only[wF,storeA,reduceCtorEq,Nat.reduceAdd,Nat.reduceSub,Nat.reduceEqDiff,Nat.reduceLeDiff,Int.reduceToNat,Int.reduceLE,Int.reduceLT,Int.reduceAdd,Int.reduceNeg,Nat.reduceMul,T115,d3,x0,x1,u1,u2]
   exact stay J _ xm xn xo
  ·have d3:decide ((text.length:Int)>1048576-(t.bytes:Int))=false:=by simp;omega
   rw[addR_ok (by omega)]
   have eb:IntKind.i64.wrap ((t.bytes:Int)+(text.length:Int))=((t.bytes+text.length:Nat):Int):=by rw[wrap64]<;>omega
   have w1:(m=J.next)=False:=eq_false (by omega)
   have w2:(J.next==m)=false:=by rw[beq_eq_false_iff_ne];omega
   have w3:(H.next=J.next)=False:=eq_false (by omega)
   have w4:(H.next=J.next+1)=False:=eq_false (by omega)
   have w5:(H.next=m)=False:=eq_false (by omega)
   have w6:(H.next+1=J.next)=False:=eq_false (by omega)
   have w7:(H.next+1=J.next+1)=False:=eq_false (by omega)
   have w8:(H.next+1=m)=False:=eq_false (by omega)
   have hle:(t.l.length+1≤maxApp)=True:=eq_true (by simp only[maxApp];omega)
   simp (maxSteps:=400000) only[wF,storeA,reduceCtorEq,Nat.reduceAdd,Nat.reduceSub,Nat.reduceEqDiff,Nat.reduceLeDiff,Int.reduceToNat,Int.reduceLE,Int.reduceLT,Int.reduceAdd,Int.reduceNeg,Nat.reduceMul,T115,d3,eb,x0,x1,xm,u1,u2,v1,v2,w1,w2,w3,w4,w5,w6,w7,w8,hle,buildA,appendA,appSrc,AV.isSlc,sliceLit,fillA,zerosA,srcCells,AV.boxable,Nat.le_refl,Nat.reduceLT,ndsH_len]
   refine⟨J.next+1,by simp[stV],?_,.inr (by omega),?_,?_,fun j hj hjm=>?_⟩
   ·rw[AHeap.get_set_ne _ _ (by omega),AHeap.get_set_ne _ _ (by omega),AHeap.get_allocAt_same,ndsH_app]
    simp[ndsH,ndH]
   ·simp only[AHeap.next_set,AHeap.next_allocAt,AHeap.next_del];omega
   ·simp only[AHeap.next_set,AHeap.next_allocAt,AHeap.next_del];omega
   ·rw[AHeap.get_set_ne _ _ (by omega),AHeap.get_set_ne _ _ (by omega),AHeap.get_allocAt_ne _ _ (by omega),AHeap.get_del_ne _ hjm,AHeap.get_allocAt_ne _ _ (by omega),AHeap.get_set_ne _ _ (by omega)]
    exact xo j hj
end Go.Ab
