/- ReparseAgain: the law, walked. -/
import Derived.Test.YtojncnpmlhhccaaGreatDoorAG8
import Derived.Test.YtojncnpmlhhccaaGreatDoorPX2
set_option linter.all false
namespace Go.Ab
open Go Go.Lib Go.Proofs
set_option maxHeartbeats 16000000 in
set_option maxRecDepth 100000 in
theorem reparseAgain_ok {G:Nat→Option (List AV)} (E:Env G) (B:EnvB G) (P:EnvP G) (X:EnvH G) (T:EnvT G) (hM:SMapOk G) (hA:AnyOk G) (g:SpaceG G) (a:List UInt8) (H:AHeap) :
  ACalls Tryz.prog G 7 [.str a] H fun r H'=>r = .ret (.bool true)∧Kept H H':=by
 have hw:=works_pure E B P X T
 refine ACalls.of Tryz.func7 S7_eq R7 N7 rfl rfl ?_
 by_cases hla:5000<a.length
 ·have d0:decide ((a.length:Int)>5000)=true:=by simp;omega
  simp (maxSteps:=400000) only[wF,storeA,reduceCtorEq,Nat.reduceAdd,Nat.reduceSub,Nat.reduceEqDiff,Nat.reduceLeDiff,Int.reduceToNat,Int.reduceLE,Int.reduceLT,Int.reduceAdd,Int.reduceNeg,Nat.reduceMul,S7,N7,R7,T7,d0]
  refine AInv.pureK B8 hw fun J h1=>?_
  simp (maxSteps:=400000) only[wF,storeA,reduceCtorEq,Nat.reduceAdd,Nat.reduceSub,Nat.reduceEqDiff,Nat.reduceLeDiff,Int.reduceToNat,Int.reduceLE,Int.reduceLT,Int.reduceAdd,Int.reduceNeg,Nat.reduceMul,T7]
  exact h1.kept
 have d0:decide ((a.length:Int)>5000)=false:=by simp;omega
 simp (maxSteps:=400000) only[wF,storeA,reduceCtorEq,Nat.reduceAdd,Nat.reduceSub,Nat.reduceEqDiff,Nat.reduceLeDiff,Int.reduceToNat,Int.reduceLE,Int.reduceLT,Int.reduceAdd,Int.reduceNeg,Nat.reduceMul,S7,N7,R7,T7,d0]
 refine AInv.retK B9 (h_html_ok E B P X (t_build_ok E X T) a H) (fun v J hq=>?_) (fun v J hq=>by cases hq.1)
 obtain⟨hq,h1⟩:=hq
 cases hq
 have p1:=h1.1
 cases hh:htmlS a with
 | error c=>
  have hc:=html_err hh
  have e0:((c:Int) != 0)=true:=by simp;omega
  have e1:(((0:Nat):Int)==0)=true:=rfl
  simp only[treeA]
  simp (maxSteps:=400000) only[wF,storeA,reduceCtorEq,Nat.reduceAdd,Nat.reduceSub,Nat.reduceEqDiff,Nat.reduceLeDiff,Int.reduceToNat,Int.reduceLE,Int.reduceLT,Int.reduceAdd,Int.reduceNeg,Nat.reduceMul,T7,AV.boxable,e0,e1]
  refine AInv.pureK B8 hw fun J2 h2=>?_
  simp (maxSteps:=400000) only[wF,storeA,reduceCtorEq,Nat.reduceAdd,Nat.reduceSub,Nat.reduceEqDiff,Nat.reduceLeDiff,Int.reduceToNat,Int.reduceLE,Int.reduceLT,Int.reduceAdd,Int.reduceNeg,Nat.reduceMul,T7]
  refine⟨by have:=h2.1;simp only[AHeap.next_set,AHeap.next_allocAt]at this;omega,fun j hj=>?_⟩
  rw[h2.2,AHeap.get_set_ne _ _ (by omega),AHeap.get_allocAt_ne _ _ (by omega)]
  exact h1.2 j hj
 | ok l=>
  obtain⟨hsum,hv,hroot⟩:=html_sum hh
  have hlen:=wr_short hh (by omega)
  have hl1:=hv.len0
  simp only[treeA]
  simp (maxSteps:=400000) only[wF,storeA,reduceCtorEq,Nat.reduceAdd,Nat.reduceSub,Nat.reduceEqDiff,Nat.reduceLeDiff,Int.reduceToNat,Int.reduceLE,Int.reduceLT,Int.reduceAdd,Int.reduceNeg,Nat.reduceMul,T7,AV.boxable]
  generalize hX1:AHeap.set (AHeap.allocAt J J.next _) J.next _=J1
  have x0:J1.get J.next=some (.cells 25 [.lst l.length (ndsH l)]):=by rw[←hX1,AHeap.get_set_same]
  have xn:J1.next=J.next+1:=by rw[←hX1];simp only[AHeap.next_set,AHeap.next_allocAt];omega
  have xo:∀j,j<H.next→J1.get j=H.get j:=fun j hj=>by rw[←hX1,AHeap.get_set_ne _ _ (by omega),AHeap.get_allocAt_ne _ _ (by omega)];exact h1.2 j hj
  clear hX1
  have z0:((0:Int) != 0)=false:=rfl
  simp (maxSteps:=400000) only[wF,storeA,reduceCtorEq,Nat.reduceAdd,Nat.reduceSub,Nat.reduceEqDiff,Nat.reduceLeDiff,Int.reduceToNat,Int.reduceLE,Int.reduceLT,Int.reduceAdd,Int.reduceNeg,Nat.reduceMul,T7,x0,z0]
  refine AInv.pureK B21 (t_Check_ok E X T hv) fun J2 h2=>?_
  have x2:=(congrFun h2.2 _).trans x0
  have q0:((0:Int)<(l.length:Int))=True:=eq_true (by omega)
  have g0:=kind_at (l:=l) (k:=0) (by omega)
  rw[hroot]at g0
  have z1:(((nd0.kind:Nat):Int) != 0)=false:=rfl
  have z2:((l.length:Int)==0)=false:=by rw[beq_eq_false_iff_ne];omega
  simp (maxSteps:=400000) only[wF,storeA,reduceCtorEq,Nat.reduceAdd,Nat.reduceSub,Nat.reduceEqDiff,Nat.reduceLeDiff,Int.reduceToNat,Int.reduceLE,Int.reduceLT,Int.reduceAdd,Int.reduceNeg,Nat.reduceMul,T7,x2,z0,z1,z2,q0,g0,indexAddrA,Nat.mul_one,buildA,fillA,AV.boxable]
  refine AInv.retK B20 (write_ok E X T hM hA g hv hroot hlen J2) (fun v J3 hq=>?_) (fun v J3 hq=>by cases hq.1)
  obtain⟨hq,h3⟩:=hq
  have p2:=h2.1
  have p3:=h3.1
  have x3:=(h3.2 _ (by omega)).trans x2
  have xo3:∀j,j<H.next→J3.get j=H.get j:=fun j hj=>by rw[h3.2 j (by omega),h2.2];exact xo j hj
  unfold writeA writeB at hq
  rw[show doctB true=[]from rfl,List.nil_append]at hq
  by_cases hb:badAny l=true
  ·rw[if_pos hb]at hq
   cases hq
   have z3:((420:Int) != 0)=true:=rfl
   simp (maxSteps:=400000) only[wF,storeA,reduceCtorEq,Nat.reduceAdd,Nat.reduceSub,Nat.reduceEqDiff,Nat.reduceLeDiff,Int.reduceToNat,Int.reduceLE,Int.reduceLT,Int.reduceAdd,Int.reduceNeg,Nat.reduceMul,T7,z3]
   refine AInv.pureK B8 hw fun J4 h4=>?_
   simp (maxSteps:=400000) only[wF,storeA,reduceCtorEq,Nat.reduceAdd,Nat.reduceSub,Nat.reduceEqDiff,Nat.reduceLeDiff,Int.reduceToNat,Int.reduceLE,Int.reduceLT,Int.reduceAdd,Int.reduceNeg,Nat.reduceMul,T7]
   exact⟨by have:=h4.1;omega,fun j hj=>by rw[h4.2];exact xo3 j hj⟩
  ·rw[if_neg hb]at hq
   cases hq
   have hag:=again_plain hh (by omega) (by simpa using hb)
   unfold wrDoc at hag
   simp (maxSteps:=400000) only[wF,storeA,reduceCtorEq,Nat.reduceAdd,Nat.reduceSub,Nat.reduceEqDiff,Nat.reduceLeDiff,Int.reduceToNat,Int.reduceLE,Int.reduceLT,Int.reduceAdd,Int.reduceNeg,Nat.reduceMul,T7,z0]
   refine AInv.retK B9 (h_html_ok E B P X (t_build_ok E X T) _ J3) (fun v J4 hq=>?_) (fun v J4 hq=>by cases hq.1)
   obtain⟨hq,h4⟩:=hq
   rw[hag]at hq
   cases hq
   have p4:=h4.1
   have x4:=(h4.2 _ (by omega)).trans x3
   simp only[treeA]
   simp (maxSteps:=400000) only[wF,storeA,reduceCtorEq,Nat.reduceAdd,Nat.reduceSub,Nat.reduceEqDiff,Nat.reduceLeDiff,Int.reduceToNat,Int.reduceLE,Int.reduceLT,Int.reduceAdd,Int.reduceNeg,Nat.reduceMul,T7,AV.boxable]
   generalize hX2:AHeap.set (AHeap.allocAt J4 J4.next _) J4.next _=J5
   have y0:J5.get J.next=some (.cells 25 [.lst l.length (ndsH l)]):=by rw[←hX2,AHeap.get_set_ne _ _ (by omega),AHeap.get_allocAt_ne _ _ (by omega)];exact x4
   have y1:J5.get J4.next=some (.cells 25 [.lst l.length (ndsH l)]):=by rw[←hX2,AHeap.get_set_same]
   have yn:J5.next=J4.next+1:=by rw[←hX2];simp only[AHeap.next_set,AHeap.next_allocAt];omega
   have yo:∀j,j<H.next→J5.get j=H.get j:=fun j hj=>by rw[←hX2,AHeap.get_set_ne _ _ (by omega),AHeap.get_allocAt_ne _ _ (by omega),h4.2 j (by omega)];exact xo3 j hj
   clear hX2
   have z4:((0:Int)==0)=true:=rfl
   simp (maxSteps:=400000) only[wF,storeA,reduceCtorEq,Nat.reduceAdd,Nat.reduceSub,Nat.reduceEqDiff,Nat.reduceLeDiff,Int.reduceToNat,Int.reduceLE,Int.reduceLT,Int.reduceAdd,Int.reduceNeg,Nat.reduceMul,T7,y0,y1,z4]
   have hll:=hv.len
   have heq:=e_equal_ok G (l:=l) (m:=l) (by omega)
   rw[decide_eq_true rfl]at heq
   refine AInv.pureK B11 heq fun J6 h6=>?_
   simp (maxSteps:=400000) only[wF,storeA,reduceCtorEq,Nat.reduceAdd,Nat.reduceSub,Nat.reduceEqDiff,Nat.reduceLeDiff,Int.reduceToNat,Int.reduceLE,Int.reduceLT,Int.reduceAdd,Int.reduceNeg,Nat.reduceMul,T7]
   refine AInv.pureK B8 hw fun J7 h7=>?_
   simp (maxSteps:=400000) only[wF,storeA,reduceCtorEq,Nat.reduceAdd,Nat.reduceSub,Nat.reduceEqDiff,Nat.reduceLeDiff,Int.reduceToNat,Int.reduceLE,Int.reduceLT,Int.reduceAdd,Int.reduceNeg,Nat.reduceMul,T7]
   exact⟨by have:=h6.1;have:=h7.1;omega,fun j hj=>by rw[h7.2,h6.2];exact yo j hj⟩
end Go.Ab
