/- tree's parts of the document, and its children axis, walked. -/
import Derived.Test.YtojncnpmlhhccaaGreatDoorPL6
import Derived.Test.YtojncnpmlhhccaaGreatDoorCodesH4
set_option linter.all false
namespace Go.Ab
open Go Go.Lib Go.Proofs
theorem intsA_snoc (l:List Nat) (k:Nat):intsA (l++[k])=intsA l++[.int .i64 k]:=by simp[intsA]
theorem kidsTo_len (l:List Nd):∀m,(kidsTo l m).length≤m
 | 0=>Nat.le_refl _
 | m+1=>by
  have:=kidsTo_len l m
  rw[kidsTo,List.length_append]
  split<;>simp<;>omega
def PtAt (H:AHeap) (l:List Nd) (ii jj kk nb cb ab:Nat) (b:List AV) (x y:Code) (m:Nat) (J:AHeap):Prop:=
 J.get kk=some (.loop .ready none b [11,12] x y)∧J.get ii=some (.cells 3 [.int .i64 0])∧J.get jj=some (.cells 25 [.lst l.length (ndsH l)])∧J.get nb=some (.cells 3 [.int .i64 0]) ∧
 J.get ab=some (.cells 33 [.nils])∧(∃rl,J.get cb=some (.cells 33 [.slc rl (kidsTo l m).length])∧J.get rl=some (.row 3 1 (intsA (kidsTo l m)))∧rl<J.next∧H.next<rl) ∧
 (kk<J.next∧ii<J.next∧jj<J.next∧nb<J.next∧cb<J.next∧ab<J.next)∧∀j,j<H.next→J.get j=H.get j
set_option maxHeartbeats 8000000 in
set_option maxRecDepth 100000 in
theorem t_parts_ok {G:Nat→Option (List AV)} {l:List Nd} (hv:ValidN l) (h0k:(l.getD 0 nd0).kind=0) :
  PureCall Tryz.prog G 32 [.agg [.lst l.length (ndsH l)],.int .i64 0] (.tup [.lst (kidsTo l l.length).length (intsA (kidsTo l l.length)),.nils]):=by
 intro H
 have hroot:(l.getD 0 nd0).kind=0:=h0k
 refine ACalls.keep (ACalls.ret (ACalls.of Tryz.func32 S32_eq R32 N32 rfl rfl ?_))
 have u1:(H.next=H.next+1+1+1)=False:=eq_false (by omega)
 have u2:(H.next=H.next+1+1)=False:=eq_false (by omega)
 have u3:(H.next+1=H.next+1+1+1)=False:=eq_false (by omega)
 have u4:(H.next+1=H.next+1+1)=False:=eq_false (by omega)
 simp (maxSteps:=400000) only[wF,storeA,reduceCtorEq,Nat.reduceAdd,Nat.reduceSub,Nat.reduceEqDiff,Nat.reduceLeDiff,Int.reduceToNat,Int.reduceLE,Int.reduceLT,Int.reduceAdd,Int.reduceNeg,Nat.reduceMul,S32,N32,R32,T32,AV.boxable,u1,u2,u3,u4]
 generalize hX:AHeap.allocAt (AHeap.allocAt _ (H.next+1+1) _) _ _=X
 have xn:X.next=H.next+4:=by rw[←hX];simp only[AHeap.next_allocAt];omega
 have xb:X.get (H.next+1)=some (.cells 3 [.int .i64 0]):=by rw[←hX,AHeap.get_allocAt_ne _ _ (by omega),AHeap.get_allocAt_ne _ _ (by omega),AHeap.get_allocAt_same]
 have xc:X.get (H.next+1+1)=some (.cells 33 [.nils]):=by rw[←hX,AHeap.get_allocAt_ne _ _ (by omega),AHeap.get_allocAt_same]
 have xa:X.get (H.next+1+1+1)=some (.cells 33 [.nils]):=by rw[←hX,AHeap.get_allocAt_same]
 have xo:∀j,j<H.next→X.get j=H.get j:=fun j hj=>by rw[←hX,AHeap.get_allocAt_ne _ _ (by omega),AHeap.get_allocAt_ne _ _ (by omega),AHeap.get_allocAt_ne _ _ (by omega),AHeap.get_allocAt_ne _ _ (by omega)]
 clear hX
 refine AInv.retK B37 (t_below_ok G X) ?_ (fun v J2 hq=>by cases hq.1)
 rintro v J ⟨hv2,j1,j2,jn,jo⟩
 cases hv2
 obtain⟨Y,hw,yc,yr,yn,yo⟩:=Weak.h_nilField G (H:=J) [.slc J.next 0] ((jo _ (by omega)).trans xc) (by omega) 3 1 ⟨.nil _ rfl,trivial⟩
 simp (maxSteps:=400000) only[wF,storeA,reduceCtorEq,Nat.reduceAdd,Nat.reduceSub,Nat.reduceEqDiff,Nat.reduceLeDiff,Int.reduceToNat,Int.reduceLE,Int.reduceLT,Int.reduceAdd,Int.reduceNeg,Nat.reduceMul,T32]
 refine ATrS.weak (hw _) ?_
 refine ATrS.range_eq (f:=74) rfl B74 ?_
 intro cx cy bA hbA hcx hcy
 have yb:Y.get (H.next+1)=some (.cells 3 [.int .i64 0]):=by rw[yo _ (by omega) (by omega),jo _ (by omega)];exact xb
 have ya:Y.get (H.next+1+1+1)=some (.cells 33 [.nils]):=by rw[yo _ (by omega) (by omega),jo _ (by omega)];exact xa
 have yi:Y.get (X.next+1)=some (.cells 3 [.int .i64 0]):=by rw[yo _ (by omega) (by omega)];exact j2
 have yj:Y.get X.next=some (.cells 25 [.lst l.length (ndsH l)]):=by rw[yo _ (by omega) (by omega)];exact j1
 have yf:∀j,j<H.next→Y.get j=H.get j:=fun j hj=>by rw[yo _ (by omega) (by omega),jo _ (by omega)];exact xo j hj
 refine ACalls.mono (t_below1_ok G hv.len (fun m hm=>hv.upOk hm) (PtAt H l (X.next+1) X.next Y.next (H.next+1) (H.next+1+1) (H.next+1+1+1) bA cx cy) (fun m J h=>⟨h.2.1,h.2.2.1⟩) ?hK ?hy hv.len0 ?h0) ?hfin
 case hK=>
  rintro m A A' ⟨k1,k2,k3,k4,k5,⟨rl,k6,k7,k8,k9⟩,⟨p1,p2,p3,p4,p5,p6⟩,k10⟩ hA
  have hn:=hA.1
  refine⟨?_,?_,?_,?_,?_,⟨rl,?_,?_,?_,k9⟩,⟨?_,?_,?_,?_,?_,?_⟩,?_⟩
  all_goals first
   | (rw[hA.2];assumption)
   | omega
 case h0=>
  refine⟨AHeap.get_alloc_same _ _,?_,?_,?_,?_,⟨J.next,?_,?_,?_,?_⟩,⟨?_,?_,?_,?_,?_,?_⟩,fun j hj=>?_⟩
  ·rw[AHeap.get_alloc_ne _ _ (by omega)];exact yi
  ·rw[AHeap.get_alloc_ne _ _ (by omega)];exact yj
  ·rw[AHeap.get_alloc_ne _ _ (by omega)];exact yb
  ·rw[AHeap.get_alloc_ne _ _ (by omega)];exact ya
  ·rw[AHeap.get_alloc_ne _ _ (by omega)];exact yc
  ·rw[AHeap.get_alloc_ne _ _ (by omega)];exact yr
  ·simp only[AHeap.next_alloc];omega
  ·omega
  ·simp only[AHeap.next_alloc];omega
  ·simp only[AHeap.next_alloc];omega
  ·simp only[AHeap.next_alloc];omega
  ·simp only[AHeap.next_alloc];omega
  ·simp only[AHeap.next_alloc];omega
  ·simp only[AHeap.next_alloc];omega
  ·rw[AHeap.get_alloc_ne _ _ (by omega)];exact yf j hj
 case hy=>
  rintro m A ⟨k1,k2,k3,k4,k5,⟨rl,k6,k7,k8,k9⟩,⟨p1,p2,p3,p4,p5,p6⟩,k10⟩ hm hml hab
  refine⟨bA,_,cx,cy,k1,ARound.of hcx hcy rfl rfl rfl ?_⟩
  have hdoc:(l.getD m nd0).up=0→(l.getD m nd0).kind≠2:=fun h0 h2=>by
   have:=hv.placed m (by omega) hml
   have hu0:=hv.up m (by omega) hml
   unfold placedN at this
   rw[if_pos (⟨by rw[h0];show(l.getD 0 nd0).kind≠1;omega,.inr h2⟩)]at this
   cases this
  have hst:kidsTo l (m+1)=kidsTo l m++(if 1≤m∧(l.getD m nd0).up=0 then [m]else []):=rfl
  generalize l.getD m nd0=y at hdoc hst
  simp only[ndH]
  have w1:(A.next=Y.next)=False:=eq_false (by omega)
  have w2:(Y.next=A.next)=False:=eq_false (by omega)
  have v1:(H.next+1=Y.next)=False:=eq_false (by omega)
  have v2:(H.next+1=A.next)=False:=eq_false (by omega)
  subst hbA
  by_cases hy0:y.up=0
  ·have hne:=hdoc hy0
   have d0:((y.up:Int) != 0)=false:=by rw[hy0];rfl
   have d1:((y.kind:Int)==2)=false:=by rw[beq_eq_false_iff_ne];omega
   have hkl:=kidsTo_len l m
   have hll:=hv.len
   have hrk:rl≠Y.next:=fun e=>by rw[←e,k7]at k1;cases k1
   have hrc:rl≠H.next+1+1:=fun e=>by rw[←e,k7]at k6;cases k6
   have v3:(H.next+1+1=Y.next)=False:=eq_false (by omega)
   have v4:(H.next+1+1=A.next)=False:=eq_false (by omega)
   have v5:(rl=Y.next)=False:=eq_false hrk
   have v6:(rl=A.next)=False:=eq_false (by omega)
   have v7:(A.next+1==rl)=false:=by rw[beq_eq_false_iff_ne];omega
   have v8:((kidsTo l m).length+1≤maxApp)=True:=by simp[maxApp];omega
   have v9:(rl=A.next+1)=False:=eq_false (by omega)
   have v10:(H.next+1+1=A.next+1)=False:=eq_false (by omega)
   have v11:(H.next+1+1=rl)=False:=eq_false (Ne.symm hrc)
   have v12:(H.next+1+1=A.next+1+1)=False:=eq_false (by omega)
   simp (maxSteps:=400000) only[wF,storeA,reduceCtorEq,Nat.reduceAdd,Nat.reduceSub,Nat.reduceEqDiff,Nat.reduceLeDiff,Int.reduceToNat,Int.reduceLE,Int.reduceLT,Int.reduceAdd,Int.reduceNeg,Nat.reduceMul,T32,T15,T14,T36,putsA,w1,w2,k1,v1,v2,k4,d0,d1,v3,v4,v5,v6,v7,v8,v9,v10,v11,v12,k6,k7,buildA,appendA,appSrc,AV.isSlc,sliceLit,fillA,zerosA,srcCells,AV.boxable,Nat.le_refl,Nat.reduceLT,h_set_set,intsA_len,roundA]
   refine⟨by rw[if_neg (by omega),if_neg (by omega),if_neg (Ne.symm hrk),if_neg (by omega)],?_⟩
   generalize hZ:AHeap.set _ Y.next _=Z
   have z0:=congrFun (congrArg AHeap.get hZ.symm) Y.next
   rw[AHeap.get_set_same]at z0
   have zc:Z.get (H.next+1+1)=some (.cells 33 [.slc (A.next+1+1) ((kidsTo l m).length+1)]):=by rw[←hZ,AHeap.get_set_ne _ _ (by omega),AHeap.get_set_same]
   have zr:Z.get (A.next+1+1)=some (.row 3 1 (intsA (kidsTo l m)++[.int .i64 m])):=by rw[←hZ,AHeap.get_set_ne _ _ (by omega),AHeap.get_set_ne _ _ (by omega),AHeap.get_allocAt_same]
   have zn:Z.next=A.next+3:=by rw[←hZ];simp only[AHeap.next_set,AHeap.next_allocAt,AHeap.next_del];omega
   have zf:∀j,j<A.next→j≠Y.next→j≠rl→j≠H.next+1+1→Z.get j=A.get j:=fun j q1 q2 q3 q4=>by
    rw[←hZ,AHeap.get_set_ne _ _ (by omega),AHeap.get_set_ne _ _ (by omega),AHeap.get_allocAt_ne _ _ (by omega),AHeap.get_del_ne _ (by omega),AHeap.get_allocAt_ne _ _ (by omega),AHeap.get_set_ne _ _ (by omega),AHeap.get_set_ne _ _ (by omega),AHeap.get_allocAt_ne _ _ (by omega)]
   clear hZ
   have hri:rl≠X.next+1:=fun e=>by rw[←e,k7]at k2;cases k2
   have hrj:rl≠X.next:=fun e=>by rw[←e,k7]at k3;cases k3
   have hrn:rl≠H.next+1:=fun e=>by rw[←e,k7]at k4;cases k4
   have hra:rl≠H.next+1+1+1:=fun e=>by rw[←e,k7]at k5;cases k5
   rw[if_pos ⟨hm,hy0⟩]at hst
   refine⟨z0,?_,?_,?_,?_,⟨A.next+1+1,?_,?_,by omega,by omega⟩,⟨by omega,by omega,by omega,by omega,by omega,by omega⟩,fun j hj=>?_⟩
   ·rw[zf _ p2 (by omega) (Ne.symm hri) (by omega)];exact k2
   ·rw[zf _ p3 (by omega) (Ne.symm hrj) (by omega)];exact k3
   ·rw[zf _ p4 (by omega) (Ne.symm hrn) (by omega)];exact k4
   ·rw[zf _ p6 (by omega) (Ne.symm hra) (by omega)];exact k5
   ·rw[zc,hst];simp
   ·rw[zr,hst,intsA_snoc]
   ·rw[zf _ (by omega) (by omega) (by omega) (by omega)];exact k10 j hj
  ·have d0:((y.up:Int) != 0)=true:=by simpa using hy0
   simp (maxSteps:=400000) only[wF,storeA,reduceCtorEq,Nat.reduceAdd,Nat.reduceSub,Nat.reduceEqDiff,Nat.reduceLeDiff,Int.reduceToNat,Int.reduceLE,Int.reduceLT,Int.reduceAdd,Int.reduceNeg,Nat.reduceMul,T32,T15,T14,T36,putsA,w1,w2,k1,v1,v2,k4,d0,roundA,h_set_set]
   generalize hZ:AHeap.set (AHeap.set _ A.next _) Y.next _=Z
   have hrk:rl≠Y.next:=fun e=>by rw[←e,k7]at k1;cases k1
   have z0:=congrFun (congrArg AHeap.get hZ.symm) Y.next
   rw[AHeap.get_set_same]at z0
   have zn:Z.next=A.next+1:=by rw[←hZ];simp only[AHeap.next_set,AHeap.next_allocAt];omega
   have zf:∀j,j<A.next→j≠Y.next→Z.get j=A.get j:=fun j q1 q2=>by
    rw[←hZ,AHeap.get_set_ne _ _ (by omega),AHeap.get_set_ne _ _ (by omega),AHeap.get_allocAt_ne _ _ (by omega)]
   clear hZ
   rw[if_neg (fun hh=>hy0 hh.2),List.append_nil]at hst
   refine⟨z0,?_,?_,?_,?_,⟨rl,?_,?_,by omega,k9⟩,⟨by omega,by omega,by omega,by omega,by omega,by omega⟩,fun j hj=>?_⟩
   ·rw[zf _ p2 (by omega)];exact k2
   ·rw[zf _ p3 (by omega)];exact k3
   ·rw[zf _ p4 (by omega)];exact k4
   ·rw[zf _ p6 (by omega)];exact k5
   ·rw[zf _ p5 (by omega),hst];exact k6
   ·rw[zf _ k8 hrk,hst];exact k7
   ·rw[zf _ (by omega) (by omega)];exact k10 j hj
 case hfin=>
  rintro r A ⟨rfl,k1,k2,k3,k4,k5,⟨rl,k6,k7,k8,k9⟩,⟨p1,p2,p3,p4,p5,p6⟩,k10⟩
  refine .inl ⟨k1,?_⟩
  subst hbA
  simp (maxSteps:=400000) only[wF,storeA,reduceCtorEq,Nat.reduceAdd,Nat.reduceSub,Nat.reduceEqDiff,Nat.reduceLeDiff,Int.reduceToNat,Int.reduceLE,Int.reduceLT,Int.reduceAdd,Int.reduceNeg,Nat.reduceMul,T32]
  have hrk:rl≠Y.next:=fun e=>by rw[←e,k7]at k1;cases k1
  have hrc:rl≠H.next+1+1:=fun e=>by rw[←e,k7]at k6;cases k6
  have hra:rl≠H.next+1+1+1:=fun e=>by rw[←e,k7]at k5;cases k5
  rw[stop0 hv _ _ (by have:=hv.len0;omega) (by omega)]at k6 k7
  generalize hZ:A.del Y.next=Z
  have zc:Z.get (H.next+1+1)=some (.cells 33 [.slc rl (kidsTo l l.length).length]):=by rw[←hZ,AHeap.get_del_ne _ (by omega)];exact k6
  have za:Z.get (H.next+1+1+1)=some (.cells 33 [.nils]):=by rw[←hZ,AHeap.get_del_ne _ (by omega)];exact k5
  have zr:Z.get rl=some (.row 3 1 (intsA (kidsTo l l.length))):=by rw[←hZ,AHeap.get_del_ne _ hrk];exact k7
  have zn:Z.next=A.next:=by rw[←hZ,AHeap.next_del]
  have zf:∀j,j<H.next→Z.get j=H.get j:=fun j hj=>by rw[←hZ,AHeap.get_del_ne _ (by omega)];exact k10 j hj
  clear hZ
  have q1:(H.next+1+1+1=H.next+1+1)=False:=eq_false (by omega)
  have q2:(H.next+1+1=H.next+1+1+1)=False:=eq_false (by omega)
  refine drawW_fixed mixedOrders L32_8_eq P32_8_eq ?_
  simp (maxSteps:=400000) only[wF,storeA,reduceCtorEq,Nat.reduceAdd,Nat.reduceSub,Nat.reduceEqDiff,Nat.reduceLeDiff,Int.reduceToNat,Int.reduceLE,Int.reduceLT,Int.reduceAdd,Int.reduceNeg,Nat.reduceMul,L32_8,T32,zc,za,q1,q2]
  refine⟨⟨by simp,by simp⟩,?_⟩
  generalize hV:AHeap.set (Z.set _ _) _ _=V
  have vr:V.get rl=some (.row 3 1 (intsA (kidsTo l l.length))):=by rw[←hV,AHeap.get_set_ne _ _ hra,AHeap.get_set_ne _ _ hrc];exact zr
  have vn:V.next=Z.next:=by rw[←hV];rfl
  have vf:∀j,j<H.next→V.get j=H.get j:=fun j hj=>by rw[←hV,AHeap.get_set_ne _ _ (by omega),AHeap.get_set_ne _ _ (by omega)];exact zf j hj
  clear hV
  refine⟨_,_,Weak.h_freezeVal G (j:=rl) (e:=3) (size:=1) (cs:=intsA (kidsTo l l.length)) vr (by omega) (v' := .tup [.lst (kidsTo l l.length).length (intsA (kidsTo l l.length)),.nils]) (.tup' ⟨.slc _ _ rfl,.same _,trivial⟩),rfl,by simp only[AHeap.next_del];omega,fun j hj=>?_⟩
  rw[AHeap.get_del_ne _ (by omega)]
  exact vf j hj
set_option maxHeartbeats 8000000 in
set_option maxRecDepth 100000 in
theorem t_axis_ok {G:Nat→Option (List AV)} (E:Env G) (X:EnvH G) (T:EnvT G) {l:List Nd} (hv:ValidN l) (h0k:(l.getD 0 nd0).kind=0) :
  PureCall Tryz.prog G 14 [.agg [.lst l.length (ndsH l)],.int .i64 0,.int .i64 0] (.lst (kidsTo l l.length).length (intsA (kidsTo l l.length))):=by
 intro H
 refine ACalls.keep (ACalls.of Tryz.func14 S14_eq R14 N14 rfl rfl ?_)
 simp (maxSteps:=400000) only[wF,storeA,reduceCtorEq,Nat.reduceAdd,Nat.reduceSub,Nat.reduceEqDiff,Nat.reduceLeDiff,Int.reduceToNat,Int.reduceLE,Int.reduceLT,Int.reduceAdd,Int.reduceNeg,Nat.reduceMul,S14,N14,R14,T14,AV.boxable]
 generalize hX:AHeap.allocAt _ _ _=X1
 have x0:X1.get H.next=some (.cells 25 [.lst l.length (ndsH l)]):=by rw[←hX,AHeap.get_allocAt_same]
 have xn:X1.next=H.next+1:=by rw[←hX];simp only[AHeap.next_allocAt];omega
 have xo:∀j,j<H.next→X1.get j=H.get j:=fun j hj=>by rw[←hX,AHeap.get_allocAt_ne _ _ (by omega)]
 clear hX
 refine AInv.pureK B31 (t_in_ok E X T hv (node:=0) hv.len0) fun H1 h1=>?_
 have p1:=h1.1
 have y0:=(congrFun h1.2 _).trans x0
 have z:((0:Int)==0)=true:=rfl
 simp (maxSteps:=400000) only[wF,storeA,reduceCtorEq,Nat.reduceAdd,Nat.reduceSub,Nat.reduceEqDiff,Nat.reduceLeDiff,Int.reduceToNat,Int.reduceLE,Int.reduceLT,Int.reduceAdd,Int.reduceNeg,Nat.reduceMul,T14,Bool.not_true,y0,z]
 refine AInv.pureK B32 (t_parts_ok hv h0k) fun H2 h2=>?_
 have p2:=h2.1
 simp (maxSteps:=400000) only[wF,storeA,reduceCtorEq,Nat.reduceAdd,Nat.reduceSub,Nat.reduceEqDiff,Nat.reduceLeDiff,Int.reduceToNat,Int.reduceLE,Int.reduceLT,Int.reduceAdd,Int.reduceNeg,Nat.reduceMul,T14]
 refine⟨by omega,fun j hj=>?_⟩
 rw[h2.2,h1.2]
 exact xo j hj
end Go.Ab
