/- ReparseParts, walked. -/
import Derived.Test.YtojncnpmlhhccaaGreatDoorPX0
import Derived.Test.YtojncnpmlhhccaaGreatDoorPX1
import Derived.Test.YtojncnpmlhhccaaGreatDoorHT14
import Derived.Test.YtojncnpmlhhccaaGreatDoorCodesH6
set_option linter.all false
namespace Go.Ab
open Go Go.Lib Go.Proofs
theorem pieceHS_err {h:HSt} {c:Nat} (e:pieceHS h = .error c):c≠0:=by
 unfold pieceHS at e
 repeat' split at e
 all_goals first
  | (cases e;decide)
  | cases e
theorem readHL_err:∀(n:Nat) (h:HSt) {c:Nat},h.s.length≤n→readHL h = .error c→c≠0
 | n,h,c,hn,e=>by
  rw[readHL_step]at e
  split at e
  ·split at e
   ·cases e
   ·cases e;decide
  ·rename_i hne
   split at e
   ·rename_i c2 hc
    cases e
    exact pieceHS_err hc
   ·rename_i h' he
    have:=pieceHS_less hne he
    cases n with
    | zero=>exact absurd (List.length_eq_zero_iff.1 (by omega)) hne
    | succ n=>exact readHL_err n h' (by omega) e
theorem foldT_err:∀(l:List Ev) {t:TSt} {c:Nat},foldT l t = .error c→c≠0
 | [],t,c,e=>by cases e
 | x::l,t,c,e=>by
  simp only[foldT]at e
  split at e
  ·rename_i c2 h1
   cases e
   have:=eventT_err h1
   omega
  ·exact foldT_err l e
theorem html_err {s:List UInt8} {c:Nat} (e:htmlS s = .error c):c≠0:=by
 unfold htmlS at e
 split at e
 ·cases e;decide
 split at e
 ·cases e;decide
 split at e
 ·rename_i c2 h1
  cases e
  exact readHL_err _ _ (Nat.le_refl _) h1
 ·unfold buildS at e
  split at e
  ·rename_i c2 h1
   cases e
   exact foldT_err _ h1
  ·split at e
   ·cases e;decide
   ·cases e
theorem html_form (s:List UInt8):∃(m:List Nd) (c:Nat),treeA (htmlS s) = .tup [.agg [.lst m.length (ndsH m)],.int .i64 c]∧((c=0∧htmlS s = .ok m)∨(c≠0∧∀t,htmlS s ≠ .ok t)):=by
 cases h:htmlS s with
 | error e=>exact⟨[],e,rfl,.inr ⟨html_err h,fun t ht=>by cases ht⟩⟩
 | ok m=>exact⟨m,0,rfl,.inl ⟨rfl,rfl⟩⟩
theorem works_pure {G:Nat→Option (List AV)} (E:Env G) (B:EnvB G) (P:EnvP G) (X:EnvH G) (T:EnvT G):PureCall Tryz.prog G 8 [] (.bool true):=fun H=>
 ACalls.keep (hl_works_ok E B P X T H)
set_option maxHeartbeats 8000000 in
set_option maxRecDepth 100000 in
theorem reparseParts_ok {G:Nat→Option (List AV)} (E:Env G) (B:EnvB G) (P:EnvP G) (X:EnvH G) (T:EnvT G) (a b:List UInt8) (H:AHeap) :
  ACalls Tryz.prog G 4 [.str a,.str b] H fun r H'=>r = .ret (.bool true)∧Kept H H':=by
 have hw:=works_pure E B P X T
 refine ACalls.of Tryz.func4 S4_eq R4 N4 rfl rfl ?_
 by_cases hla:2000<a.length
 ·have d0:decide ((a.length:Int)>2000)=true:=by simp;omega
  simp (maxSteps:=400000) only[wF,storeA,reduceCtorEq,Nat.reduceAdd,Nat.reduceSub,Nat.reduceEqDiff,Nat.reduceLeDiff,Int.reduceToNat,Int.reduceLE,Int.reduceLT,Int.reduceAdd,Int.reduceNeg,Nat.reduceMul,S4,N4,R4,T4,d0]
  refine AInv.pureK B8 hw fun J h1=>?_
  simp (maxSteps:=400000) only[wF,storeA,reduceCtorEq,Nat.reduceAdd,Nat.reduceSub,Nat.reduceEqDiff,Nat.reduceLeDiff,Int.reduceToNat,Int.reduceLE,Int.reduceLT,Int.reduceAdd,Int.reduceNeg,Nat.reduceMul,T4]
  exact h1.kept
 have d0:decide ((a.length:Int)>2000)=false:=by simp;omega
 by_cases hlb:2000<b.length
 ·have d1:decide ((b.length:Int)>2000)=true:=by simp;omega
  simp (maxSteps:=400000) only[wF,storeA,reduceCtorEq,Nat.reduceAdd,Nat.reduceSub,Nat.reduceEqDiff,Nat.reduceLeDiff,Int.reduceToNat,Int.reduceLE,Int.reduceLT,Int.reduceAdd,Int.reduceNeg,Nat.reduceMul,S4,N4,R4,T4,d0,d1]
  refine AInv.pureK B8 hw fun J h1=>?_
  simp (maxSteps:=400000) only[wF,storeA,reduceCtorEq,Nat.reduceAdd,Nat.reduceSub,Nat.reduceEqDiff,Nat.reduceLeDiff,Int.reduceToNat,Int.reduceLE,Int.reduceLT,Int.reduceAdd,Int.reduceNeg,Nat.reduceMul,T4]
  exact h1.kept
 have d1:decide ((b.length:Int)>2000)=false:=by simp;omega
 simp (maxSteps:=400000) only[wF,storeA,reduceCtorEq,Nat.reduceAdd,Nat.reduceSub,Nat.reduceEqDiff,Nat.reduceLeDiff,Int.reduceToNat,Int.reduceLE,Int.reduceLT,Int.reduceAdd,Int.reduceNeg,Nat.reduceMul,S4,N4,R4,T4,d0,d1]
 obtain⟨ta,ca,ha1,ha2⟩:=html_form a
 obtain⟨tb,cb,hb1,hb2⟩:=html_form b
 refine AInv.retK B9 (h_html_ok E B P X (t_build_ok E X T) a H) (fun v J hq=>?_) (fun v J hq=>by cases hq.1)
 obtain⟨hq,h1⟩:=hq
 rw[ha1]at hq
 cases hq
 have p1:=h1.1
 simp (maxSteps:=400000) only[wF,storeA,reduceCtorEq,Nat.reduceAdd,Nat.reduceSub,Nat.reduceEqDiff,Nat.reduceLeDiff,Int.reduceToNat,Int.reduceLE,Int.reduceLT,Int.reduceAdd,Int.reduceNeg,Nat.reduceMul,T4,AV.boxable]
 generalize hX1:AHeap.set (AHeap.allocAt J J.next _) J.next _=J1
 have x0:J1.get J.next=some (.cells 25 [.lst ta.length (ndsH ta)]):=by rw[←hX1,AHeap.get_set_same]
 have xn:J1.next=J.next+1:=by rw[←hX1];simp only[AHeap.next_set,AHeap.next_allocAt];omega
 have xo:∀j,j<H.next→J1.get j=H.get j:=fun j hj=>by rw[←hX1,AHeap.get_set_ne _ _ (by omega),AHeap.get_allocAt_ne _ _ (by omega)];exact h1.2 j hj
 clear hX1
 refine AInv.retK B9 (h_html_ok E B P X (t_build_ok E X T) b J1) (fun v J2 hq=>?_) (fun v J2 hq=>by cases hq.1)
 obtain⟨hq,h2⟩:=hq
 rw[hb1]at hq
 cases hq
 have p2:=h2.1
 replace x0:=(h2.2 _ (by omega)).trans x0
 replace xo:∀j,j<H.next→J2.get j=H.get j:=fun j hj=>(h2.2 _ (by omega)).trans (xo j hj)
 simp (maxSteps:=400000) only[wF,storeA,reduceCtorEq,Nat.reduceAdd,Nat.reduceSub,Nat.reduceEqDiff,Nat.reduceLeDiff,Int.reduceToNat,Int.reduceLE,Int.reduceLT,Int.reduceAdd,Int.reduceNeg,Nat.reduceMul,T4,AV.boxable]
 generalize hX2:AHeap.set (AHeap.allocAt J2 J2.next _) J2.next _=J3
 have y0:J3.get J.next=some (.cells 25 [.lst ta.length (ndsH ta)]):=by rw[←hX2,AHeap.get_set_ne _ _ (by omega),AHeap.get_allocAt_ne _ _ (by omega)];exact x0
 have y1:J3.get J2.next=some (.cells 25 [.lst tb.length (ndsH tb)]):=by rw[←hX2,AHeap.get_set_same]
 have yn:J3.next=J2.next+1:=by rw[←hX2];simp only[AHeap.next_set,AHeap.next_allocAt];omega
 have yo:∀j,j<H.next→J3.get j=H.get j:=fun j hj=>by rw[←hX2,AHeap.get_set_ne _ _ (by omega),AHeap.get_allocAt_ne _ _ (by omega)];exact xo j hj
 clear hX2 x0 xo
 have bad:∀(c:Nat),c≠0→((c:Int) != 0)=true:=fun c hc=>by simp;omega
 have fin:∀(J4:AHeap),Keeps J3 J4→Kept H J4:=fun J4 k=>⟨by have:=k.1;omega,fun j hj=>by rw[k.2];exact yo j hj⟩
 by_cases hca:ca=0
 case neg=>
  have e0:=bad ca hca
  simp (maxSteps:=400000) only[wF,storeA,reduceCtorEq,Nat.reduceAdd,Nat.reduceSub,Nat.reduceEqDiff,Nat.reduceLeDiff,Int.reduceToNat,Int.reduceLE,Int.reduceLT,Int.reduceAdd,Int.reduceNeg,Nat.reduceMul,T4,e0]
  refine AInv.pureK B8 hw fun J4 h4=>?_
  simp (maxSteps:=400000) only[wF,storeA,reduceCtorEq,Nat.reduceAdd,Nat.reduceSub,Nat.reduceEqDiff,Nat.reduceLeDiff,Int.reduceToNat,Int.reduceLE,Int.reduceLT,Int.reduceAdd,Int.reduceNeg,Nat.reduceMul,T4]
  exact fin _ h4
 by_cases hcb:cb=0
 case neg=>
  subst hca
  have e0:(((0:Nat):Int) != 0)=false:=rfl
  have e1:=bad cb hcb
  simp (maxSteps:=400000) only[wF,storeA,reduceCtorEq,Nat.reduceAdd,Nat.reduceSub,Nat.reduceEqDiff,Nat.reduceLeDiff,Int.reduceToNat,Int.reduceLE,Int.reduceLT,Int.reduceAdd,Int.reduceNeg,Nat.reduceMul,T4,e0,e1]
  refine AInv.pureK B8 hw fun J4 h4=>?_
  simp (maxSteps:=400000) only[wF,storeA,reduceCtorEq,Nat.reduceAdd,Nat.reduceSub,Nat.reduceEqDiff,Nat.reduceLeDiff,Int.reduceToNat,Int.reduceLE,Int.reduceLT,Int.reduceAdd,Int.reduceNeg,Nat.reduceMul,T4]
  exact fin _ h4
 have hat:htmlS a = .ok ta:=by rcases ha2 with h | h;exact h.2;exact absurd hca h.1
 have hbt:htmlS b = .ok tb:=by rcases hb2 with h | h;exact h.2;exact absurd hcb h.1
 subst hca
 subst hcb
 clear ha2 hb2 bad
 have e0:(((0:Nat):Int) != 0)=false:=rfl
 obtain⟨q1,tv,q2,q3,q4⟩:=html_parts (by omega) (by omega) hat hbt
 simp (maxSteps:=400000) only[wF,storeA,reduceCtorEq,Nat.reduceAdd,Nat.reduceSub,Nat.reduceEqDiff,Nat.reduceLeDiff,Int.reduceToNat,Int.reduceLE,Int.reduceLT,Int.reduceAdd,Int.reduceNeg,Nat.reduceMul,T4,e0]
 refine AInv.pureK X.trimB (X.trim b _) fun J4 h4=>?_
 have htl:=Lib.trimPrefix_le b sDoct
 have hdo:Lib.trimPrefix b [60,33,68,79,67,84,89,80,69,32,104,116,109,108,62,10]=Lib.trimPrefix b sDoct:=rfl
 rw[hdo]
 generalize Lib.trimPrefix b sDoct=r at q1 q2 htl
 obtain⟨sa1,sa2,sa3⟩:=html_sum hat
 obtain⟨sb1,sb2,sb3⟩:=html_sum hbt
 have ka:=t_axis_ok E X T sa2 (by rw[sa3];rfl)
 have kb:=t_axis_ok E X T sb2 (by rw[sb3];rfl)
 have xa:=t_str_ok E X T B hat
 have xb:=t_str_ok E X T B hbt
 have xv:=t_str_ok E X T B q2
 have e13:(txts (tv.drop 1)==txts (ta.drop 1)++txts (tb.drop 1))=true:=by rw[q4];simp
 have ya:(txts (ta.drop 1)).length≤1048576:=by rw[txts_root sa3];have:=textTo_le ta;unfold txts;omega
 have yb:(txts (tb.drop 1)).length≤1048576:=by rw[txts_root sb3];have:=textTo_le tb;unfold txts;omega
 have la:=sa2.len0
 have lb:=sb2.len0
 have la2:=sa2.len
 have lb2:=sb2.len
 simp (maxSteps:=400000) only[wF,storeA,reduceCtorEq,Nat.reduceAdd,Nat.reduceSub,Nat.reduceEqDiff,Nat.reduceLeDiff,Int.reduceToNat,Int.reduceLE,Int.reduceLT,Int.reduceAdd,Int.reduceNeg,Nat.reduceMul,T4]
 by_cases hae:a=[]
 case' pos=>
  have e5:(a==[])=true:=by rw[hae];rfl
  have hf:Lib.hasPrefix r [60,33,68,79,67,84,89,80,69]=false:=by
   cases hh:Lib.hasPrefix r [60,33,68,79,67,84,89,80,69]with
   | false=>rfl
   | true=>exact absurd ⟨hae,hh⟩ q1
  simp (maxSteps:=400000) only[wF,storeA,reduceCtorEq,Nat.reduceAdd,Nat.reduceSub,Nat.reduceEqDiff,Nat.reduceLeDiff,Int.reduceToNat,Int.reduceLE,Int.reduceLT,Int.reduceAdd,Int.reduceNeg,Nat.reduceMul,T4,e5]
  refine AInv.pureK E.hasPreB (E.hasPre r _) fun J4 h5=>?_
  replace h4:=h4.trans h5
  simp (maxSteps:=400000) only[wF,storeA,reduceCtorEq,Nat.reduceAdd,Nat.reduceSub,Nat.reduceEqDiff,Nat.reduceLeDiff,Int.reduceToNat,Int.reduceLE,Int.reduceLT,Int.reduceAdd,Int.reduceNeg,Nat.reduceMul,T4,hf]
 case' neg=>
  have e5:(a==[])=false:=by rw[beq_eq_false_iff_ne];exact hae
  simp (maxSteps:=400000) only[wF,storeA,reduceCtorEq,Nat.reduceAdd,Nat.reduceSub,Nat.reduceEqDiff,Nat.reduceLeDiff,Int.reduceToNat,Int.reduceLE,Int.reduceLT,Int.reduceAdd,Int.reduceNeg,Nat.reduceMul,T4,e5]
 all_goals
  refine⟨by simp[maxStr];omega,?_⟩
  refine AInv.retK B9 (h_html_ok E B P X (t_build_ok E X T) (a++r) J4) (fun v J6 hq=>?_) (fun v J6 hq=>by cases hq.1)
  obtain⟨hq,h6⟩:=hq
  rw[q2]at hq
  cases hq
  have p4:=h4.1
  have p6:=h6.1
  simp only[treeA]
  simp (maxSteps:=400000) only[wF,storeA,reduceCtorEq,Nat.reduceAdd,Nat.reduceSub,Nat.reduceEqDiff,Nat.reduceLeDiff,Int.reduceToNat,Int.reduceLE,Int.reduceLT,Int.reduceAdd,Int.reduceNeg,Nat.reduceMul,T4,AV.boxable]
  generalize hX:AHeap.set (AHeap.allocAt J6 J6.next _) J6.next _=J7
  have z0:J7.get J.next=some (.cells 25 [.lst ta.length (ndsH ta)]):=by rw[←hX,AHeap.get_set_ne _ _ (by omega),AHeap.get_allocAt_ne _ _ (by omega),h6.2 _ (by omega),h4.2];exact y0
  have z1:J7.get J2.next=some (.cells 25 [.lst tb.length (ndsH tb)]):=by rw[←hX,AHeap.get_set_ne _ _ (by omega),AHeap.get_allocAt_ne _ _ (by omega),h6.2 _ (by omega),h4.2];exact y1
  have z2:J7.get J6.next=some (.cells 25 [.lst tv.length (ndsH tv)]):=by rw[←hX,AHeap.get_set_same]
  have zn:J7.next=J6.next+1:=by rw[←hX];simp only[AHeap.next_set,AHeap.next_allocAt];omega
  have zo:∀j,j<H.next→J7.get j=H.get j:=fun j hj=>by rw[←hX,AHeap.get_set_ne _ _ (by omega),AHeap.get_allocAt_ne _ _ (by omega),h6.2 _ (by omega),h4.2];exact yo j hj
  clear hX
  have e6:((0:Int) != 0)=false:=rfl
  have e7:((ta.length:Int)==0)=false:=by rw[beq_eq_false_iff_ne];omega
  have e8:((tb.length:Int)==0)=false:=by rw[beq_eq_false_iff_ne];omega
  simp (maxSteps:=400000) only[wF,storeA,reduceCtorEq,Nat.reduceAdd,Nat.reduceSub,Nat.reduceEqDiff,Nat.reduceLeDiff,Int.reduceToNat,Int.reduceLE,Int.reduceLT,Int.reduceAdd,Int.reduceNeg,Nat.reduceMul,T4,e6,e7,e8,z0,z1]
  refine drawW_ok (ex:=false) mixedOrders L4_14_eq P4_14_eq ?_
  simp (maxSteps:=400000) only[wF,storeA,reduceCtorEq,Nat.reduceAdd,Nat.reduceSub,Nat.reduceEqDiff,Nat.reduceLeDiff,Int.reduceToNat,Int.reduceLE,Int.reduceLT,Int.reduceAdd,Int.reduceNeg,Nat.reduceMul,L4_14,T4,z0,z1]
  refine callW.pure B14 ka ?_
  simp (maxSteps:=400000) only[wF,storeA,reduceCtorEq,Nat.reduceAdd,Nat.reduceSub,Nat.reduceEqDiff,Nat.reduceLeDiff,Int.reduceToNat,Int.reduceLE,Int.reduceLT,Int.reduceAdd,Int.reduceNeg,Nat.reduceMul,T4,z0,z1]
  refine callW.pure B14 kb ?_
  simp (maxSteps:=400000) only[wF,storeA,reduceCtorEq,Nat.reduceAdd,Nat.reduceSub,Nat.reduceEqDiff,Nat.reduceLeDiff,Int.reduceToNat,Int.reduceLE,Int.reduceLT,Int.reduceAdd,Int.reduceNeg,Nat.reduceMul,T4,z0,z1]
  refine⟨by simp,?_⟩
  intro m hm
  generalize hX3:(⟨m,J7.get⟩:AHeap)=J8
  have w3:J8.get=J7.get:=by rw[←hX3]
  have w3n:J8.next=m:=by rw[←hX3]
  have w0:=(congrFun w3 _).trans z0
  have w1:=(congrFun w3 _).trans z1
  have w2:=(congrFun w3 _).trans z2
  have wo:∀j,j<H.next→J8.get j=H.get j:=fun j hj=>(congrFun w3 _).trans (zo j hj)
  have wn:H.next≤J8.next:=by omega
  clear hX3 w3 w3n z0 z1 z2 zo zn
  have hka:=kidsTo_len ta ta.length
  have hkb:=kidsTo_len tb tb.length
  have v1:IntKind.i64.wrap ((ta.length:Int)+(tb.length:Int))=((ta.length+tb.length:Nat):Int):=by rw[wrap64]<;>omega
  have v2:IntKind.i64.wrap (((ta.length+tb.length:Nat):Int)-1)=((ta.length+tb.length-1:Nat):Int):=by rw[wrap64]<;>omega
  have v4:((tv.length:Int)==(tv.length:Int))=true:=by simp
  refine drawW_fixed mixedOrders L4_15_eq P4_15_eq ?_
  rcases meet_cases5 ta tb with ⟨m1,m2⟩ | ⟨m1,m3,m2⟩ | ⟨xk,yk,⟨m1,m3,g1,g2,g3,g4⟩,n1,m2⟩ | ⟨xk,yk,⟨m1,m3,g1,g2,g3,g4⟩,n1,n2,m2⟩ | ⟨xk,yk,⟨m1,m3,g1,g2,g3,g4⟩,n1,n2,m2⟩
  case' inl=>
   have f1:decide (((kidsTo ta ta.length).length:Int)>0)=false:=decide_eq_false (by omega)
   rw[m2,if_neg (by simp)]at q3
   have v3:IntKind.i64.wrap (((ta.length+tb.length-1:Nat):Int)-0)=(tv.length:Int):=by rw[wrap64]<;>omega
   simp (maxSteps:=400000) only[wF,storeA,reduceCtorEq,Nat.reduceAdd,Nat.reduceSub,Nat.reduceEqDiff,Nat.reduceLeDiff,Int.reduceToNat,Int.reduceLE,Int.reduceLT,Int.reduceAdd,Int.reduceNeg,Nat.reduceMul,L4_15,T4,f1,w0,w1]
  case' inr.inl=>
   have f1:decide (((kidsTo ta ta.length).length:Int)>0)=true:=decide_eq_true (by omega)
   have f2:decide (((kidsTo tb tb.length).length:Int)>0)=false:=decide_eq_false (by omega)
   rw[m2,if_neg (by simp)]at q3
   have v3:IntKind.i64.wrap (((ta.length+tb.length-1:Nat):Int)-0)=(tv.length:Int):=by rw[wrap64]<;>omega
   simp (maxSteps:=400000) only[wF,storeA,reduceCtorEq,Nat.reduceAdd,Nat.reduceSub,Nat.reduceEqDiff,Nat.reduceLeDiff,Int.reduceToNat,Int.reduceLE,Int.reduceLT,Int.reduceAdd,Int.reduceNeg,Nat.reduceMul,L4_15,T4,f1,f2,w0,w1]
  case' inr.inr.inl=>
   have f1:decide (((kidsTo ta ta.length).length:Int)>0)=true:=decide_eq_true (by omega)
   have f2:decide (((kidsTo tb tb.length).length:Int)>0)=true:=decide_eq_true (by omega)
   have f3:IntKind.i64.wrap (((kidsTo ta ta.length).length:Int)-1)=(((kidsTo ta ta.length).length-1:Nat):Int):=by rw[wrap64]<;>omega
   have f4:((((kidsTo ta ta.length).length-1:Nat):Int)<((kidsTo ta ta.length).length:Int))=True:=eq_true (by omega)
   have f5:((xk:Int)<(ta.length:Int))=True:=eq_true (by omega)
   have f6:((0:Int)<((kidsTo tb tb.length).length:Int))=True:=eq_true (by omega)
   have f7:((yk:Int)<(tb.length:Int))=True:=eq_true (by omega)
   have f8:=kind_at g2
   have f9:=kind_at g4
   simp only[Nat.add_zero]at f8 f9
   have e9:(((ta.getD xk nd0).kind:Int)==3)=false:=by rw[beq_eq_false_iff_ne];omega
   rw[m2,if_neg (by simp)]at q3
   have v3:IntKind.i64.wrap (((ta.length+tb.length-1:Nat):Int)-0)=(tv.length:Int):=by rw[wrap64]<;>omega
   simp (maxSteps:=400000) only[wF,storeA,reduceCtorEq,Nat.reduceAdd,Nat.reduceSub,Nat.reduceEqDiff,Nat.reduceLeDiff,Int.reduceToNat,Int.reduceLE,Int.reduceLT,Int.reduceAdd,Int.reduceNeg,Nat.reduceMul,L4_15,T4,f1,f2,f3,f4,f5,f6,f7,f8,f9,g1,g3,w0,w1,indexAddrA,Nat.mul_one,e9]
  case' inr.inr.inr.inl=>
   have f1:decide (((kidsTo ta ta.length).length:Int)>0)=true:=decide_eq_true (by omega)
   have f2:decide (((kidsTo tb tb.length).length:Int)>0)=true:=decide_eq_true (by omega)
   have f3:IntKind.i64.wrap (((kidsTo ta ta.length).length:Int)-1)=(((kidsTo ta ta.length).length-1:Nat):Int):=by rw[wrap64]<;>omega
   have f4:((((kidsTo ta ta.length).length-1:Nat):Int)<((kidsTo ta ta.length).length:Int))=True:=eq_true (by omega)
   have f5:((xk:Int)<(ta.length:Int))=True:=eq_true (by omega)
   have f6:((0:Int)<((kidsTo tb tb.length).length:Int))=True:=eq_true (by omega)
   have f7:((yk:Int)<(tb.length:Int))=True:=eq_true (by omega)
   have f8:=kind_at g2
   have f9:=kind_at g4
   simp only[Nat.add_zero]at f8 f9
   have e9:(((ta.getD xk nd0).kind:Int)==3)=true:=by rw[n1];rfl
   have e11:(((tb.getD yk nd0).kind:Int)==3)=false:=by rw[beq_eq_false_iff_ne];omega
   rw[m2,if_neg (by simp)]at q3
   have v3:IntKind.i64.wrap (((ta.length+tb.length-1:Nat):Int)-0)=(tv.length:Int):=by rw[wrap64]<;>omega
   simp (maxSteps:=400000) only[wF,storeA,reduceCtorEq,Nat.reduceAdd,Nat.reduceSub,Nat.reduceEqDiff,Nat.reduceLeDiff,Int.reduceToNat,Int.reduceLE,Int.reduceLT,Int.reduceAdd,Int.reduceNeg,Nat.reduceMul,L4_15,T4,f1,f2,f3,f4,f5,f6,f7,f8,f9,g1,g3,w0,w1,indexAddrA,Nat.mul_one,e9,e11]
  case' inr.inr.inr.inr=>
   have f1:decide (((kidsTo ta ta.length).length:Int)>0)=true:=decide_eq_true (by omega)
   have f2:decide (((kidsTo tb tb.length).length:Int)>0)=true:=decide_eq_true (by omega)
   have f3:IntKind.i64.wrap (((kidsTo ta ta.length).length:Int)-1)=(((kidsTo ta ta.length).length-1:Nat):Int):=by rw[wrap64]<;>omega
   have f4:((((kidsTo ta ta.length).length-1:Nat):Int)<((kidsTo ta ta.length).length:Int))=True:=eq_true (by omega)
   have f5:((xk:Int)<(ta.length:Int))=True:=eq_true (by omega)
   have f6:((0:Int)<((kidsTo tb tb.length).length:Int))=True:=eq_true (by omega)
   have f7:((yk:Int)<(tb.length:Int))=True:=eq_true (by omega)
   have f8:=kind_at g2
   have f9:=kind_at g4
   simp only[Nat.add_zero]at f8 f9
   have e9:(((ta.getD xk nd0).kind:Int)==3)=true:=by rw[n1];rfl
   have e11:(((tb.getD yk nd0).kind:Int)==3)=true:=by rw[n2];rfl
   rw[m2,if_pos rfl]at q3
   have v3:IntKind.i64.wrap (((ta.length+tb.length-1:Nat):Int)-1)=(tv.length:Int):=by rw[wrap64]<;>omega
   simp (maxSteps:=400000) only[wF,storeA,reduceCtorEq,Nat.reduceAdd,Nat.reduceSub,Nat.reduceEqDiff,Nat.reduceLeDiff,Int.reduceToNat,Int.reduceLE,Int.reduceLT,Int.reduceAdd,Int.reduceNeg,Nat.reduceMul,L4_15,T4,f1,f2,f3,f4,f5,f6,f7,f8,f9,g1,g3,w0,w1,indexAddrA,Nat.mul_one,e9,e11]
  all_goals
   refine drawW_ok (ex:=false) mixedOrders L4_17_eq P4_17_eq ?_
   simp (maxSteps:=400000) only[wF,storeA,reduceCtorEq,Nat.reduceAdd,Nat.reduceSub,Nat.reduceEqDiff,Nat.reduceLeDiff,Int.reduceToNat,Int.reduceLE,Int.reduceLT,Int.reduceAdd,Int.reduceNeg,Nat.reduceMul,L4_17,T4,w0,w1,w2,v1,v2,v3,v4]
   refine callW.pure B15 xv ?_
   simp (maxSteps:=400000) only[wF,storeA,reduceCtorEq,Nat.reduceAdd,Nat.reduceSub,Nat.reduceEqDiff,Nat.reduceLeDiff,Int.reduceToNat,Int.reduceLE,Int.reduceLT,Int.reduceAdd,Int.reduceNeg,Nat.reduceMul,T4,w0,w1,w2]
   refine callW.pure B15 xa ?_
   simp (maxSteps:=400000) only[wF,storeA,reduceCtorEq,Nat.reduceAdd,Nat.reduceSub,Nat.reduceEqDiff,Nat.reduceLeDiff,Int.reduceToNat,Int.reduceLE,Int.reduceLT,Int.reduceAdd,Int.reduceNeg,Nat.reduceMul,T4,w0,w1,w2]
   refine callW.pure B15 xb ?_
   simp (maxSteps:=400000) only[wF,storeA,reduceCtorEq,Nat.reduceAdd,Nat.reduceSub,Nat.reduceEqDiff,Nat.reduceLeDiff,Int.reduceToNat,Int.reduceLE,Int.reduceLT,Int.reduceAdd,Int.reduceNeg,Nat.reduceMul,T4,w0,w1,w2]
   refine⟨by simp only[maxStr];omega,?_⟩
   simp (maxSteps:=400000) only[wF,storeA,reduceCtorEq,Nat.reduceAdd,Nat.reduceSub,Nat.reduceEqDiff,Nat.reduceLeDiff,Int.reduceToNat,Int.reduceLE,Int.reduceLT,Int.reduceAdd,Int.reduceNeg,Nat.reduceMul,T4,e13]
   refine callW.pure B8 hw ?_
   simp (maxSteps:=400000) only[wF,storeA,reduceCtorEq,Nat.reduceAdd,Nat.reduceSub,Nat.reduceEqDiff,Nat.reduceLeDiff,Int.reduceToNat,Int.reduceLE,Int.reduceLT,Int.reduceAdd,Int.reduceNeg,Nat.reduceMul,T4]
   refine⟨by simp,fun m hm=>⟨by simp only;omega,fun j hj=>?_⟩⟩
   exact wo j hj
end Go.Ab
