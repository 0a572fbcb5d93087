/- strings.ContainsAny of one byte that is none of ASCII, walked. -/
import Derived.Test.YtojncnpmlhhccaaGreatDoorW8
import Derived.Test.YtojncnpmlhhccaaGreatDoorCodesH5
import Derived.Lib.IndexAny
set_option linter.all false
namespace Go.Ab
open Go Go.Lib Go.Proofs
theorem useSet_ok (G:Nat→Option (List AV)) (n:Nat) (h:n≤8):PureCall Tryz.prog G 150 [.int .i64 n] (.bool false):=by
 intro H
 refine ACalls.keep (ACalls.of Tryz.func150 S150_eq R150 N150 rfl rfl ?_)
 have d:decide ((n:Int)>8)=false:=by simp;omega
 simp (maxSteps:=400000) only[wF,storeA,reduceCtorEq,Nat.reduceAdd,Nat.reduceSub,Nat.reduceEqDiff,Nat.reduceLeDiff,Int.reduceToNat,Int.reduceLE,Int.reduceLT,Int.reduceAdd,Int.reduceNeg,Nat.reduceMul,S150,N150,R150,T150,d]
 exact⟨Nat.le_refl _,fun _ _=>trivial⟩
def wsA:List UInt8:=[32,9,13,10]
theorem dec_wsA:∀i:Fin 4,Utf8.decode ⟨wsA.toArray⟩ i.val=((wsA.getD i.val 0).toNat,1):=by decide
theorem wsA_ne:∀i:Fin 4,(((wsA.getD i.val 0).toNat:Int)==65533)=false:=by decide
set_option maxRecDepth 100000 in
theorem dec_hi:∀n:Fin 256,128≤n.val→Utf8.decode ⟨#[UInt8.ofNat n.val]⟩ 0=(65533,1):=by decide
set_option maxHeartbeats 4000000 in
set_option maxRecDepth 100000 in
theorem indexRune_ok (G:Nat→Option (List AV)):PureCall Tryz.prog G 149 [.str wsA,.int .i32 65533] (.int .i64 (-1)):=by
 intro H
 refine ACalls.keep (ACalls.of Tryz.func149 S149_eq R149 N149 rfl rfl ?_)
 have d0:decide ((0:Int)≤65533)=true:=by decide
 have d1:decide ((65533:Int)<128)=false:=by decide
 have e0:((65533:Int)==65533)=true:=rfl
 simp (maxSteps:=400000) only[wF,storeA,reduceCtorEq,Nat.reduceAdd,Nat.reduceSub,Nat.reduceEqDiff,Nat.reduceLeDiff,Int.reduceToNat,Int.reduceLE,Int.reduceLT,Int.reduceAdd,Int.reduceNeg,Nat.reduceMul,S149,N149,R149,T149,d0,d1,e0]
 refine ATrS.loopK (κ:=Nat) (fun i=>List.replicate 175 .und++[.ptr H.next 0]++List.replicate 11 .und) (fun i=>H.allocAt H.next (.iter wsA i))
  (fun i=>i≤4) (fun i=>4-i) ⟨0,Nat.zero_le _,by simp[Fg],HW.refl _⟩ ?_
 intro i hi
 have hg:(H.allocAt H.next (AObj.iter wsA i)).get H.next=some (.iter wsA i):=AHeap.get_allocAt_same _ _ _
 have hs:∀k,(H.allocAt H.next (AObj.iter wsA i)).set H.next (.iter wsA k)=H.allocAt H.next (.iter wsA k):=fun k=>by
  simp only[AHeap.set,AHeap.allocAt,AHeap.mk.injEq,true_and]
  funext j
  split<;>rfl
 have hl:wsA.length=4:=rfl
 by_cases hlt:i<4
 ·have hd:=dec_wsA ⟨i,hlt⟩
  have hn:=wsA_ne ⟨i,hlt⟩
  have q:(i<wsA.length)=True:=by simp[hl,hlt]
  simp only at hd hn
  simp (maxSteps:=400000) only[wF,storeA,reduceCtorEq,Nat.reduceAdd,Nat.reduceSub,Nat.reduceEqDiff,Nat.reduceLeDiff,Int.reduceToNat,Int.reduceLE,Int.reduceLT,Int.reduceAdd,Int.reduceNeg,Nat.reduceMul,T149,nextA,hg,q,hd,hn,hs]
  exact⟨i+1,hlt,by omega,by simp[Fg],HW.refl _⟩
 ·have q:(i<wsA.length)=False:=by simp[hl];omega
  simp (maxSteps:=400000) only[wF,storeA,reduceCtorEq,Nat.reduceAdd,Nat.reduceSub,Nat.reduceEqDiff,Nat.reduceLeDiff,Int.reduceToNat,Int.reduceLE,Int.reduceLT,Int.reduceAdd,Int.reduceNeg,Nat.reduceMul,T149,nextA,hg,q]
  exact⟨by omega,fun j hj=>by rw[if_neg (by omega)]⟩
set_option maxHeartbeats 4000000 in
set_option maxRecDepth 100000 in
theorem indexAny_ok (G:Nat→Option (List AV)) (b:UInt8) (hb:128≤b.toNat):PureCall Tryz.prog G 125 [.str [b],.str wsA] (.int .i64 (-1)):=by
 intro H
 refine ACalls.keep (ACalls.of Tryz.func125 S125_eq R125 N125 rfl rfl ?_)
 have e0:(wsA==[])=false:=by decide
 have e1:(((wsA.length:Nat):Int)==1)=false:=by decide
 have hd:=dec_hi ⟨b.toNat,b.toNat_lt⟩ hb
 rw[show UInt8.ofNat b.toNat=b from UInt8.ofNat_toNat]at hd
 simp (maxSteps:=400000) only[wF,storeA,reduceCtorEq,Nat.reduceAdd,Nat.reduceSub,Nat.reduceEqDiff,Nat.reduceLeDiff,Int.reduceToNat,Int.reduceLE,Int.reduceLT,Int.reduceAdd,Int.reduceNeg,Nat.reduceMul,S125,N125,R125,T125,e0,e1]
 refine AInv.pureK B150 (useSet_ok G 1 (by omega)) fun H1 h1=>?_
 have p1:=h1.1
 simp (maxSteps:=400000) only[wF,storeA,reduceCtorEq,Nat.reduceAdd,Nat.reduceSub,Nat.reduceEqDiff,Nat.reduceLeDiff,Int.reduceToNat,Int.reduceLE,Int.reduceLT,Int.reduceAdd,Int.reduceNeg,Nat.reduceMul,T125]
 refine ATrS.loopK (κ:=Nat × AHeap) (fun x=>[.str [b],.str wsA]++List.replicate 43 .und++[.ptr H1.next 0]++List.replicate 9 .und) (fun x=>x.2)
  (fun x=>x.1≤1∧x.2.get H1.next=some (.iter [b] x.1)∧H.next≤x.2.next∧∀j,j<H.next→x.2.get j=H.get j) (fun x=>1-x.1) ⟨(0,_),⟨Nat.zero_le _,AHeap.get_allocAt_same _ _ _,by simp only[AHeap.next_allocAt];omega,fun j hj=>by show(if j=H1.next then _ else H1.get j)=_;rw[if_neg (by omega),h1.2]⟩,by simp[Fg],HW.refl _⟩ ?_
 rintro⟨i,J⟩ ⟨hi,hg,hn,hJ⟩
 simp only at hi hg hn hJ
 by_cases hlt:i<1
 ·have hi0:i=0:=by omega
  subst hi0
  have d0:decide ((-1:Int)≥0)=false:=by decide
  have q:((0:Nat)<1)=True:=by simp
  simp (maxSteps:=400000) only[wF,storeA,reduceCtorEq,Nat.reduceAdd,Nat.reduceSub,Nat.reduceEqDiff,Nat.reduceLeDiff,Int.reduceToNat,Int.reduceLE,Int.reduceLT,Int.reduceAdd,Int.reduceNeg,Nat.reduceMul,T125,nextA,hg,q,hd]
  refine AInv.pureK B149 (indexRune_ok G) fun J1 j1=>?_
  have p2:=j1.1
  simp (maxSteps:=400000) only[wF,storeA,reduceCtorEq,Nat.reduceAdd,Nat.reduceSub,Nat.reduceEqDiff,Nat.reduceLeDiff,Int.reduceToNat,Int.reduceLE,Int.reduceLT,Int.reduceAdd,Int.reduceNeg,Nat.reduceMul,T125,d0]
  exact⟨(1,J1),⟨Nat.le_refl _,by simp only;rw[j1.2,AHeap.get_set_same],by simp only[AHeap.next_set]at p2 ⊢;omega,fun j hj=>by simp only;rw[j1.2,AHeap.get_set_ne _ _ (by omega)];exact hJ j hj⟩,by simp only;omega,by simp[Fg],HW.refl _⟩
 ·have q:(i<1)=False:=by simp;omega
  simp (maxSteps:=400000) only[wF,storeA,reduceCtorEq,Nat.reduceAdd,Nat.reduceSub,Nat.reduceEqDiff,Nat.reduceLeDiff,Int.reduceToNat,Int.reduceLE,Int.reduceLT,Int.reduceAdd,Int.reduceNeg,Nat.reduceMul,T125,nextA,hg,q]
  exact⟨hn,hJ⟩
theorem containsAnyHi_ok (G:Nat→Option (List AV)) (b:UInt8) (hb:128≤b.toNat):PureCall Tryz.prog G 85 [.str [b],.str wsA] (.bool false):=by
 intro H
 refine ACalls.keep (ACalls.of Tryz.func85 S85_eq R85 N85 rfl rfl ?_)
 have d0:decide ((-1:Int)≥0)=false:=by decide
 simp (maxSteps:=400000) only[wF,storeA,reduceCtorEq,Nat.reduceAdd,Nat.reduceSub,Nat.reduceEqDiff,Nat.reduceLeDiff,Int.reduceToNat,Int.reduceLE,Int.reduceLT,Int.reduceAdd,Int.reduceNeg,Nat.reduceMul,S85,N85,R85,T85]
 refine AInv.pureK B125 (indexAny_ok G b hb) fun H1 h1=>?_
 simp (maxSteps:=400000) only[wF,storeA,reduceCtorEq,Nat.reduceAdd,Nat.reduceSub,Nat.reduceEqDiff,Nat.reduceLeDiff,Int.reduceToNat,Int.reduceLE,Int.reduceLT,Int.reduceAdd,Int.reduceNeg,Nat.reduceMul,T85,d0]
 first | exact⟨rfl,h1.post⟩ | exact h1.post
end Go.Ab
