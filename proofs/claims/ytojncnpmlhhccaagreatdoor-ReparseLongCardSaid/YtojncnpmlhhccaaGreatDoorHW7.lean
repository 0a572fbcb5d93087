/- reparse.HTML, walked, over what tree.Build returns. -/
import Derived.Test.YtojncnpmlhhccaaGreatDoorHW6
set_option linter.all false
namespace Go.Ab
open Go Go.Lib Go.Proofs
def EvB (n:Nat) (x:Ev):Prop:=x.name.length≤n∧x.text.length≤n∧x.attrs.length≤n∧(∀a∈x.attrs,a.1.length≤n∧a.2.length≤n)∧x.kind≤4
theorem EvB.mono {n m:Nat} {x:Ev} (h:EvB n x) (hm:n≤m):EvB m x:=⟨by have:=h.1;omega,by have:=h.2.1;omega,by have:=h.2.2.1;omega,fun a ha=>by have:=h.2.2.2.1 a ha;omega,h.2.2.2.2⟩
theorem tagHF_attrs {s:List UInt8}:∀(f k:Nat) (l:List (List UInt8 × List UInt8)) (tw:Bool) {x},tagHF f s k l tw=some x→(∀a∈l,a.1.length≤s.length∧a.2.length≤s.length)→∀a∈x.2.1,a.1.length≤s.length∧a.2.length≤s.length
 | 0,_,_,_,_,h,_=>by simp[tagHF]at h
 | f+1,k,l,tw,x,h,hl=>by
  simp only[tagHF]at h
  split at h
  ·split at h
   ·rename_i ha
    have hb:=attrHS_bound ha
    simp only[List.length_drop]at hb
    refine tagHF_attrs f _ _ _ h fun a hm=>?_
    rcases List.mem_append.1 hm with hm | hm
    ·exact hl a hm
    ·simp only[List.mem_singleton]at hm
     subst hm
     omega
   ·cases h
  ·cases h
   exact hl
theorem startHS_EvB {s:List UInt8} {x:Ev × Nat × Bool} (h:startHS s=some x):EvB s.length x.1:=by
 have hb:=startHS_bound h
 unfold startHS at h
 simp only at h
 split at h
 case isFalse=>cases h
 split at h
 ·cases h
 rename_i k2 l tw ht
 have hat:=tagHF_attrs _ _ _ _ ht (by simp)
 split at h
 ·cases h
  refine⟨?_,Nat.zero_le _,hb.2.2.1,hat,by simp⟩
  simp only[List.length_drop,List.length_take]
  omega
 ·cases h
theorem pieceHS_EvB {h h':HSt} (e:pieceHS h = .ok h'):∀x∈h'.l,x∈h.l∨EvB h.s.length x:=by
 have one:∀(k:Nat) (name text rest:List UInt8),k≤4→name.length≤h.s.length→text.length≤h.s.length→∀x∈(h.add k name text rest).l,x∈h.l∨EvB h.s.length x:=fun k name text rest hk hn ht x hx=>by
  simp only[HSt.add,List.mem_append,List.mem_singleton]at hx
  rcases hx with hx | hx
  ·exact .inl hx
  ·subst hx
   exact .inr ⟨hn,ht,Nat.zero_le _,by simp,hk⟩
 unfold pieceHS at e
 split at e
 ·split at e
  ·cases e
  ·cases e
   exact one _ _ _ _ (by omega) (by simp) (by simp only[List.length_take];omega)
 split at e
 ·split at e
  ·cases e
   refine one _ _ _ _ (by omega) (by simp) ?_
   have:=unescS_len (Lib.cut h.s [60]).1
   have:=cut_len h.s [60]
   omega
  ·cases e
 split at e
 ·rename_i name rest he
  have:=endHS_bound he
  simp only at this
  split at e
  ·cases e
   exact one 1 name [] rest (by omega) (by omega) (by simp)
  ·cases e
 split at e
 ·rename_i text rest he
  have:=commentHS_bound he
  simp only at this
  cases e
  exact one _ _ _ _ (by omega) (by simp) (by omega)
 split at e
 ·rename_i name text rest he
  have:=instrHS_bound he
  simp only at this
  cases e
  exact one _ _ _ _ (by omega) (by omega) (by omega)
 split at e
 ·cases e
 rename_i x k tw he
 have hb:=startHS_EvB he
 simp only at hb
 split at e
 ·cases e
 split at e
 ·cases e
  intro y hy
  simp only[List.mem_append,List.mem_cons,List.not_mem_nil,or_false]at hy
  rcases hy with hy | rfl | rfl
  ·exact .inl hy
  ·exact .inr hb
  ·exact .inr ⟨hb.1,Nat.zero_le _,Nat.zero_le _,by simp,by simp⟩
 ·cases e
  intro y hy
  simp only[List.mem_append,List.mem_cons,List.not_mem_nil,or_false]at hy
  rcases hy with hy | rfl
  ·exact .inl hy
  ·exact .inr hb
def ndH (x:Nd):List AV:=[.int .i64 x.kind,.str x.name,.str x.text,.int .i64 x.up]
def ndsH (l:List Nd):List AV:=l.flatMap ndH
def treeA (o:Except Nat (List Nd)):AV:=
 match o with
 | .error e => .tup [.agg [.lst 0 []],.int .i64 e]
 | .ok l => .tup [.agg [.lst l.length (ndsH l)],.int .i64 0]
def BuildOk (G:Nat→Option (List AV)):Prop:=∀(l:List Ev) (H:AHeap),l.length≤10000000→(∀x∈l,EvB 10000000 x)→ACalls Tryz.prog G 17 [.lst l.length (evsH l)] H fun r H'=>r = .ret (treeA (buildS l))∧Kept H H'
set_option maxRecDepth 100000 in
theorem h_closure_ok (G:Nat→Option (List AV)) {H:AHeap} {tp ep e:Nat} {x:AV} {e0:AV} {K:AHeap→Prop} (h1:H.get tp=some (.cells 25 [x])) (h2:H.get ep=some (.cells 26 [e0])) (d:tp≠ep) (n1:tp<H.next) (n2:ep<H.next)
  (hK:∀H',H.next≤H'.next→H'.get tp=some (.cells 25 [.nils])→H'.get ep=some (.cells 26 [.int .i64 e])→(∀j,j<H.next→j≠tp→j≠ep→H'.get j=H.get j)→K H') :
  DCalls Tryz.prog G 24 [.ptr tp 0,.ptr ep 0] H (some (hwrongA e)) K:=by
 refine DCalls.of Tryz.func24 S24_eq N24 rfl rfl ?_
 simp (maxSteps:=400000) only[wF,storeA,reduceCtorEq,Nat.reduceAdd,Nat.reduceSub,Nat.reduceEqDiff,Nat.reduceLeDiff,Int.reduceToNat,Int.reduceLE,Int.reduceLT,Int.reduceAdd,Int.reduceNeg,Nat.reduceMul,N24,R24,T24,pvA,hwrongA,assertA,eqNeq,AV.isConst,Bool.or_true,AV.boxable]
 generalize hX:(H.allocAt H.next _).set H.next _=X
 have xn:X.next=H.next+1:=by rw[←hX];simp only[AHeap.next_set,AHeap.next_allocAt];omega
 have xw:X.get H.next=some (.cells 53 [.int .i64 e]):=by rw[←hX,AHeap.get_set_same]
 have xo:∀j,j<H.next→X.get j=H.get j:=fun j hj=>by rw[←hX,AHeap.get_set_ne _ _ (by omega),AHeap.get_allocAt_ne _ _ (by omega)]
 clear hX
 have y1:=(xo _ n1).trans h1
 have y2:=(xo _ n2).trans h2
 have u1:(ep=tp)=False:=by simp;omega
 have u2:(H.next=tp)=False:=by simp;omega
 refine drawW_fixed mixedOrders L24_5_eq P24_5_eq ?_
 simp (maxSteps:=400000) only[wF,storeA,reduceCtorEq,Nat.reduceAdd,Nat.reduceSub,Nat.reduceEqDiff,Nat.reduceLeDiff,Int.reduceToNat,Int.reduceLE,Int.reduceLT,Int.reduceAdd,Int.reduceNeg,Nat.reduceMul,L24_5,T24,xw,y1,y2,u1,u2,buildA,fillA,AV.boxable,endA]
 refine⟨by simp;omega,hK _ (by simp only[AHeap.next_set];omega) ?_ ?_ fun j k1 k2 k3=>?_⟩
 ·rw[AHeap.get_set_ne _ _ d,AHeap.get_set_same]
 ·rw[AHeap.get_set_same]
 ·rw[AHeap.get_set_ne _ _ k3,AHeap.get_set_ne _ _ k2,xo j k1]
theorem h_closure_nil (G:Nat→Option (List AV)) {H:AHeap} {tp ep:Nat} {K:AHeap→Prop} (hK:K H) :
  DCalls Tryz.prog G 24 [.ptr tp 0,.ptr ep 0] H none K:=by
 refine DCalls.of Tryz.func24 S24_eq N24 rfl rfl ?_
 simp (maxSteps:=400000) only[wF,storeA,reduceCtorEq,Nat.reduceAdd,Nat.reduceSub,Nat.reduceEqDiff,Nat.reduceLeDiff,Int.reduceToNat,Int.reduceLE,Int.reduceLT,Int.reduceAdd,Int.reduceNeg,Nat.reduceMul,N24,R24,T24,pvA,eqNeq,AV.isConst,Bool.or_true,endA]
 exact hK
end Go.Ab
