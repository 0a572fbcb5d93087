/- ReparseLong, walked. -/
import Derived.Test.YtojncnpmlhhccaaGreatDoorHTD
set_option linter.all false
namespace Go.Ab
open Go Go.Lib Go.Proofs
def Rep (G:Nat→Option (List AV)):Prop:=∀(s:List UInt8) (c:Nat),s.length*c≤140737488355328→c≤1000000000000→PureCall Tryz.prog G 16 [.str s,.int .i64 c] (.str (Lib.repeatL s c))
theorem rp120:∀m,Lib.repeatL [120] m=List.replicate m 120
 | 0=>rfl
 | m+1=>by
  rw[repeatL_s,rp120 m]
  rfl
theorem foldT_ok:∀(l:List Ev) {t t':TSt},TOk t→foldT l t = .ok t'→TOk t'
 | [],t,t',h,e=>by cases e;exact h
 | x::l,t,t',h,e=>by
  simp only[foldT]at e
  split at e
  ·cases e
  ·rename_i t1 h1
   exact foldT_ok l (h.event h1).1 e
theorem buildS_len {l:List Ev} {m:List Nd} (h:buildS l = .ok m):m.length≤65536:=by
 unfold buildS at h
 split at h
 ·cases h
 ·rename_i t ht
  have:=(foldT_ok l TOk.init ht).len
  split at h
  ·cases h
  ·cases h
   exact this
def longS (which r:Nat):List UInt8:=if which % 3=0 then Lib.repeatL [120] (1048574+r)else if which % 3=1 then Lib.repeatL br (65533+r)else Lib.repeatL bO (198+r)++Lib.repeatL bC (198+r)
theorem modK4 (w:Nat):((w:Int).tmod 4)=((w % 4:Nat):Int):=by
 rw[Int.tmod_eq_emod_of_nonneg (by omega)];omega
set_option maxHeartbeats 8000000 in
set_option maxRecDepth 100000 in
theorem reparseLong_ok {G:Nat→Option (List AV)} (E:Env G) (B:EnvB G) (P:EnvP G) (X:EnvH G) (T:EnvT G) (hR:Rep G) (rB:bodyT Tryz.prog 16=true) (more which:Nat) (H:AHeap) :
  ACalls Tryz.prog G 5 [.int .u8 more,.int .u8 which] H fun r H'=>r = .ret (.bool true)∧Kept H H':=by
 have hB:=t_build_ok E X T
 refine ACalls.of Tryz.func5 S5_eq R5 N5 rfl rfl ?_
 have z3:((3:Int)=0)=False:=by simp
 have z4:((4:Int)=0)=False:=by simp
 obtain⟨r,hr,hrl⟩:∃r,r=more % 4∧r<4:=⟨_,rfl,by omega⟩
 have ek:IntKind.i64.wrap (((more % 4:Nat):Int)-2)=(r:Int)-2:=by rw[wrap64]<;>omega
 obtain⟨q,hq,hql⟩:∃q,q=which % 3∧q<3:=⟨_,rfl,by omega⟩
 have ew4:IntKind.i64.wrap ((more % 4:Nat):Int)=((more % 4:Nat):Int):=by rw[wrap64]<;>omega
 simp (maxSteps:=400000) only[wF,storeA,reduceCtorEq,Nat.reduceAdd,Nat.reduceSub,Nat.reduceEqDiff,Nat.reduceLeDiff,Int.reduceToNat,Int.reduceLE,Int.reduceLT,Int.reduceAdd,Int.reduceNeg,Nat.reduceMul,S5,N5,R5,T5,z3,z4,modK,modK4,ew4,ek,convA]
 have hq2:q=0∨q=1∨q=2:=by omega
 have hnil:∀J:AHeap,ACalls Tryz.prog G 17 [.nils] J fun r H'=>r = .ret (treeA (.ok [nd0]))∧Kept J H':=fun J=>
  ACalls.weak (args':=[.lst 0 []]) (Weak.nilLst ⟨.nil _ rfl,trivial⟩) (hB [] J (by simp) (by simp))
 rcases hq2 with h0 | h0 | h0
 case' inl=>
  have b0:(((which % 3:Nat):Int)==0)=true:=by rw[←hq,h0];rfl
  have e6:IntKind.i64.wrap (1048576+((r:Int)-2))=((1048574+r:Nat):Int):=by rw[wrap64]<;>omega
  simp (maxSteps:=400000) only[wF,storeA,reduceCtorEq,Nat.reduceAdd,Nat.reduceSub,Nat.reduceEqDiff,Nat.reduceLeDiff,Int.reduceToNat,Int.reduceLE,Int.reduceLT,Int.reduceAdd,Int.reduceNeg,Nat.reduceMul,T5,b0,e6]
  refine AInv.pureK rB (hR [120] (1048574+r) (by simp;omega) (by omega)) fun H1 h1=>?_
  have hS:(r≤2→∃l,htmlS (Lib.repeatL [120] (1048574+r)) = .ok l∧1≤l.length)∧(r=3→htmlS (Lib.repeatL [120] (1048574+r)) = .error 2):=by
   refine⟨fun h=>?_,fun h=>?_⟩
   ·rw[rp120]
    exact⟨_,html_x _ (by omega) (by omega),by simp⟩
   ·exact html_long (by rw[rp120,List.length_replicate];omega)
  generalize Lib.repeatL [120] (1048574+r)=text at hS
 case' inr.inl=>
  have b0:(((which % 3:Nat):Int)==0)=false:=by rw[←hq,h0];rfl
  have b1:(((which % 3:Nat):Int)==1)=true:=by rw[←hq,h0];rfl
  have e6:IntKind.i64.wrap (65535+((r:Int)-2))=((65533+r:Nat):Int):=by rw[wrap64]<;>omega
  simp (maxSteps:=400000) only[wF,storeA,reduceCtorEq,Nat.reduceAdd,Nat.reduceSub,Nat.reduceEqDiff,Nat.reduceLeDiff,Int.reduceToNat,Int.reduceLE,Int.reduceLT,Int.reduceAdd,Int.reduceNeg,Nat.reduceMul,T5,b0,b1,e6]
  refine AInv.pureK rB (hR [60,98,114,62] (65533+r) (by simp;omega) (by omega)) fun H1 h1=>?_
  have hS:(r≤2→∃l,htmlS (Lib.repeatL [60,98,114,62] (65533+r)) = .ok l∧1≤l.length)∧(r=3→htmlS (Lib.repeatL [60,98,114,62] (65533+r)) = .error 2):=by
   have hb:=html_br (65533+r) (by omega) (by omega)
   refine⟨fun h=>?_,fun h=>?_⟩
   ·rw[if_pos (by omega)]at hb
    exact hb
   ·rw[if_neg (by omega)]at hb
    exact hb
  generalize Lib.repeatL [60,98,114,62] (65533+r)=text at hS
 case' inr.inr=>
  have b0:(((which % 3:Nat):Int)==0)=false:=by rw[←hq,h0];rfl
  have b1:(((which % 3:Nat):Int)==1)=false:=by rw[←hq,h0];rfl
  have e6:IntKind.i64.wrap (200+((r:Int)-2))=((198+r:Nat):Int):=by rw[wrap64]<;>omega
  simp (maxSteps:=400000) only[wF,storeA,reduceCtorEq,Nat.reduceAdd,Nat.reduceSub,Nat.reduceEqDiff,Nat.reduceLeDiff,Int.reduceToNat,Int.reduceLE,Int.reduceLT,Int.reduceAdd,Int.reduceNeg,Nat.reduceMul,T5,b0,b1,e6]
  refine AInv.pureK rB (hR [60,98,62] (198+r) (by simp;omega) (by omega)) fun H1 h1=>?_
  simp (maxSteps:=400000) only[wF,storeA,reduceCtorEq,Nat.reduceAdd,Nat.reduceSub,Nat.reduceEqDiff,Nat.reduceLeDiff,Int.reduceToNat,Int.reduceLE,Int.reduceLT,Int.reduceAdd,Int.reduceNeg,Nat.reduceMul,T5,e6]
  refine AInv.pureK rB (hR [60,47,98,62] (198+r) (by simp;omega) (by omega)) fun H2 h2=>?_
  have hS:=html_deep (198+r) (by omega) (by omega)
 case inr.inr=>
  have c2:(((which % 3:Nat):Int)==2)=true:=by rw[←hq,h0];rfl
  simp (maxSteps:=400000) only[wF,storeA,reduceCtorEq,Nat.reduceAdd,Nat.reduceSub,Nat.reduceEqDiff,Nat.reduceLeDiff,Int.reduceToNat,Int.reduceLE,Int.reduceLT,Int.reduceAdd,Int.reduceNeg,Nat.reduceMul,T5]
  refine⟨by simp only[List.length_append,repeatL_len3,List.length_cons,List.length_nil,maxStr];omega,?_⟩
  refine AInv.retK B9 (h_html_ok E B P X hB _ H2) (fun v H3 hq=>?_) (fun v H3 hq=>by cases hq.1)
  obtain⟨hv,h3⟩:=hq
  cases hv
  rw[show htmlS (Lib.repeatL [60,98,62] (198+r)++Lib.repeatL [60,47,98,62] (198+r))=buildS (List.replicate (198+r) evB++List.replicate (198+r) evC1)from hS]
  generalize hL:List.replicate (198+r) evB++List.replicate (198+r) evC1=L
  have hLl:L.length=198+r+(198+r):=by rw[←hL,List.length_append,List.length_replicate,List.length_replicate]
  have hLx:∀x∈L,EvB 10000000 x:=by
   intro x hx
   rw[←hL,List.mem_append]at hx
   rcases hx with hx | hx
   ·rw[List.eq_of_mem_replicate hx];simp[EvB,evB]
   ·rw[List.eq_of_mem_replicate hx];simp[EvB,evC1]
  have hdep:=hl_depth_ok G (which:=which) (by omega) (k:=(r:Int)-2) (n:=198+r) (by omega) (by omega)
  rw[hL,←hLl]at hdep
  have k3:=(h1.kept.trans h2.kept).trans h3
  have hbl:∀J:AHeap,ACalls Tryz.prog G 17 [.lst L.length (evsH L)] J fun r H'=>r = .ret (treeA (buildS L))∧Kept J H':=fun J=>hB L J (by omega) hLx
  obtain⟨l,e,hle,hee⟩:∃(l:List Nd) (e:Nat),treeA (buildS L) = .tup [.agg [.lst l.length (ndsH l)],.int .i64 e]∧l.length≤65536:=by
   cases ho:buildS L with
   | error e=>exact⟨[],e,rfl,by simp⟩
   | ok l=>exact⟨l,0,rfl,buildS_len ho⟩
  rw[hle]
  simp (maxSteps:=400000) only[wF,storeA,reduceCtorEq,Nat.reduceAdd,Nat.reduceSub,Nat.reduceEqDiff,Nat.reduceLeDiff,Int.reduceToNat,Int.reduceLE,Int.reduceLT,Int.reduceAdd,Int.reduceNeg,Nat.reduceMul,T5,AV.boxable]
  generalize hX:AHeap.set _ H3.next _=X1
  have x0:X1.get H3.next=some (.cells 25 [.lst l.length (ndsH l)]):=by rw[←hX,AHeap.get_set_same]
  have xn:X1.next=H3.next+1:=by rw[←hX];simp only[AHeap.next_set,AHeap.next_allocAt];omega
  have xo:∀j,j<H3.next→X1.get j=H3.get j:=fun j hj=>by rw[←hX,AHeap.get_set_ne _ _ (by omega),AHeap.get_allocAt_ne _ _ (by omega)]
  clear hX
  refine AInv.pureK B18 hdep fun H4 h4=>?_
  simp (maxSteps:=400000) only[wF,storeA,reduceCtorEq,Nat.reduceAdd,Nat.reduceSub,Nat.reduceEqDiff,Nat.reduceLeDiff,Int.reduceToNat,Int.reduceLE,Int.reduceLT,Int.reduceAdd,Int.reduceNeg,Nat.reduceMul,T5]
  refine AInv.retK B17 (hbl H4) (fun v H5 hq=>?_) (fun v H5 hq=>by cases hq.1)
  obtain⟨hv,h5⟩:=hq
  rw[hle]at hv
  cases hv
  have n3:=h4.1
  have n4:=h5.1
  have w0:H5.get H3.next=some (.cells 25 [.lst l.length (ndsH l)]):=by rw[h5.2 _ (by omega),h4.2];exact x0
  have u1:(H3.next=H5.next)=False:=by simp;omega
  have ee:((e:Int)==(e:Int))=true:=by simp
  simp (maxSteps:=400000) only[wF,storeA,reduceCtorEq,Nat.reduceAdd,Nat.reduceSub,Nat.reduceEqDiff,Nat.reduceLeDiff,Int.reduceToNat,Int.reduceLE,Int.reduceLT,Int.reduceAdd,Int.reduceNeg,Nat.reduceMul,T5,AV.boxable,modK,z3,c2,w0,u1,ee]
  generalize hY:AHeap.set _ H5.next _=Y
  have yn:Y.next=H5.next+1:=by rw[←hY];simp only[AHeap.next_set,AHeap.next_allocAt];omega
  have yo:∀j,j<H5.next→Y.get j=H5.get j:=fun j hj=>by rw[←hY,AHeap.get_set_ne _ _ (by omega),AHeap.get_allocAt_ne _ _ (by omega)]
  clear hY
  have heq:=e_equal_ok G (l:=l) (m:=l) (by omega)
  rw[decide_eq_true (rfl:l=l)]at heq
  refine AInv.pureK B11 heq fun H6 h6=>?_
  simp (maxSteps:=400000) only[wF,storeA,reduceCtorEq,Nat.reduceAdd,Nat.reduceSub,Nat.reduceEqDiff,Nat.reduceLeDiff,Int.reduceToNat,Int.reduceLE,Int.reduceLT,Int.reduceAdd,Int.reduceNeg,Nat.reduceMul,T5]
  refine AInv.retK B8 (hl_works_ok E B P X T H6) (fun v H7 hq=>?_) (fun v H7 hq=>by cases hq.1)
  obtain⟨hv,h7⟩:=hq
  cases hv
  simp (maxSteps:=400000) only[wF,storeA,reduceCtorEq,Nat.reduceAdd,Nat.reduceSub,Nat.reduceEqDiff,Nat.reduceLeDiff,Int.reduceToNat,Int.reduceLE,Int.reduceLT,Int.reduceAdd,Int.reduceNeg,Nat.reduceMul,T5]
  have n2:=k3.1
  have n6:=h6.1
  have n7:=h7.1
  have fin:Kept H H7:=⟨by omega,fun j hj=>by rw[h7.2 _ (by omega),h6.2,yo _ (by omega),h5.2 _ (by omega),h4.2,xo _ (by omega)];exact k3.2 j hj⟩
  first | exact⟨rfl,fin⟩ | exact fin
 all_goals
  have c2:(((which % 3:Nat):Int)==2)=false:=by rw[←hq,h0];rfl
  simp (maxSteps:=400000) only[wF,storeA,reduceCtorEq,Nat.reduceAdd,Nat.reduceSub,Nat.reduceEqDiff,Nat.reduceLeDiff,Int.reduceToNat,Int.reduceLE,Int.reduceLT,Int.reduceAdd,Int.reduceNeg,Nat.reduceMul,T5]
  refine AInv.retK B9 (h_html_ok E B P X hB text H1) (fun v H2 hq=>?_) (fun v H2 hq=>by cases hq.1)
  obtain⟨hv,h2⟩:=hq
  cases hv
  have k2:=h1.kept.trans h2
  by_cases hr3:r=3
  ·rw[hS.2 hr3]
   have d0:decide ((r:Int)-2>0)=true:=by simp;omega
   have d1:(((2:Nat):Int)==2)=true:=rfl
   have d2:(((0:Nat):Int)==0)=true:=rfl
   simp only[treeA]
   simp (maxSteps:=400000) only[wF,storeA,reduceCtorEq,Nat.reduceAdd,Nat.reduceSub,Nat.reduceEqDiff,Nat.reduceLeDiff,Int.reduceToNat,Int.reduceLE,Int.reduceLT,Int.reduceAdd,Int.reduceNeg,Nat.reduceMul,T5,AV.boxable]
   generalize hX:AHeap.set _ H2.next _=X1
   have x0:X1.get H2.next=some (.cells 25 [.lst 0 []]):=by rw[←hX,AHeap.get_set_same]
   have xn:X1.next=H2.next+1:=by rw[←hX];simp only[AHeap.next_set,AHeap.next_allocAt];omega
   have xo:∀j,j<H2.next→X1.get j=H2.get j:=fun j hj=>by rw[←hX,AHeap.get_set_ne _ _ (by omega),AHeap.get_allocAt_ne _ _ (by omega)]
   clear hX
   refine AInv.pureK B18 (hl_depth_no G (by omega) _) fun H3 h3=>?_
   simp (maxSteps:=400000) only[wF,storeA,reduceCtorEq,Nat.reduceAdd,Nat.reduceSub,Nat.reduceEqDiff,Nat.reduceLeDiff,Int.reduceToNat,Int.reduceLE,Int.reduceLT,Int.reduceAdd,Int.reduceNeg,Nat.reduceMul,T5]
   refine AInv.retK B17 (hnil H3) (fun v H4 hq=>?_) (fun v H4 hq=>by cases hq.1)
   obtain⟨hv,h4⟩:=hq
   cases hv
   have n3:=h3.1
   have n4:=h4.1
   have w0:H4.get H2.next=some (.cells 25 [.lst 0 []]):=by rw[h4.2 _ (by omega),h3.2];exact x0
   have u1:(H2.next=H4.next)=False:=by simp;omega
   simp only[treeA]
   simp (maxSteps:=400000) only[wF,storeA,reduceCtorEq,Nat.reduceAdd,Nat.reduceSub,Nat.reduceEqDiff,Nat.reduceLeDiff,Int.reduceToNat,Int.reduceLE,Int.reduceLT,Int.reduceAdd,Int.reduceNeg,Nat.reduceMul,T5,AV.boxable,modK,z3,c2,w0,u1,d0,d1,d2]
   generalize hY:AHeap.set _ H4.next _=Y
   have yn:Y.next=H4.next+1:=by rw[←hY];simp only[AHeap.next_set,AHeap.next_allocAt];omega
   have yo:∀j,j<H4.next→Y.get j=H4.get j:=fun j hj=>by rw[←hY,AHeap.get_set_ne _ _ (by omega),AHeap.get_allocAt_ne _ _ (by omega)]
   clear hY
   refine AInv.retK B8 (hl_works_ok E B P X T Y) (fun v H5 hq=>?_) (fun v H5 hq=>by cases hq.1)
   obtain⟨hv,h5⟩:=hq
   cases hv
   simp (maxSteps:=400000) only[wF,storeA,reduceCtorEq,Nat.reduceAdd,Nat.reduceSub,Nat.reduceEqDiff,Nat.reduceLeDiff,Int.reduceToNat,Int.reduceLE,Int.reduceLT,Int.reduceAdd,Int.reduceNeg,Nat.reduceMul,T5]
   have n2:=k2.1
   have n5:=h5.1
   have fin:Kept H H5:=⟨by omega,fun j hj=>by rw[h5.2 _ (by omega),yo _ (by omega),h4.2 _ (by omega),h3.2,xo _ (by omega)];exact k2.2 j hj⟩
   first | exact⟨rfl,fin⟩ | exact fin
  ·obtain⟨l,hl,hl1⟩:=hS.1 (by omega)
   rw[hl]
   have d0:decide ((r:Int)-2>0)=false:=by simp;omega
   have d1:((0:Int)==0)=true:=rfl
   have d2:decide ((l.length:Int)>0)=true:=by simp;omega
   simp only[treeA]
   simp (maxSteps:=400000) only[wF,storeA,reduceCtorEq,Nat.reduceAdd,Nat.reduceSub,Nat.reduceEqDiff,Nat.reduceLeDiff,Int.reduceToNat,Int.reduceLE,Int.reduceLT,Int.reduceAdd,Int.reduceNeg,Nat.reduceMul,T5,AV.boxable]
   generalize hX:AHeap.set _ H2.next _=X1
   have x0:X1.get H2.next=some (.cells 25 [.lst l.length (ndsH l)]):=by rw[←hX,AHeap.get_set_same]
   have xn:X1.next=H2.next+1:=by rw[←hX];simp only[AHeap.next_set,AHeap.next_allocAt];omega
   have xo:∀j,j<H2.next→X1.get j=H2.get j:=fun j hj=>by rw[←hX,AHeap.get_set_ne _ _ (by omega),AHeap.get_allocAt_ne _ _ (by omega)]
   clear hX
   refine AInv.pureK B18 (hl_depth_no G (by omega) _) fun H3 h3=>?_
   simp (maxSteps:=400000) only[wF,storeA,reduceCtorEq,Nat.reduceAdd,Nat.reduceSub,Nat.reduceEqDiff,Nat.reduceLeDiff,Int.reduceToNat,Int.reduceLE,Int.reduceLT,Int.reduceAdd,Int.reduceNeg,Nat.reduceMul,T5]
   refine AInv.retK B17 (hnil H3) (fun v H4 hq=>?_) (fun v H4 hq=>by cases hq.1)
   obtain⟨hv,h4⟩:=hq
   cases hv
   have n3:=h3.1
   have n4:=h4.1
   have w0:H4.get H2.next=some (.cells 25 [.lst l.length (ndsH l)]):=by rw[h4.2 _ (by omega),h3.2];exact x0
   have u1:(H2.next=H4.next)=False:=by simp;omega
   simp only[treeA]
   simp (maxSteps:=400000) only[wF,storeA,reduceCtorEq,Nat.reduceAdd,Nat.reduceSub,Nat.reduceEqDiff,Nat.reduceLeDiff,Int.reduceToNat,Int.reduceLE,Int.reduceLT,Int.reduceAdd,Int.reduceNeg,Nat.reduceMul,T5,AV.boxable,modK,z3,c2,w0,u1,d0,d1,d2]
   generalize hY:AHeap.set _ H4.next _=Y
   have yn:Y.next=H4.next+1:=by rw[←hY];simp only[AHeap.next_set,AHeap.next_allocAt];omega
   have yo:∀j,j<H4.next→Y.get j=H4.get j:=fun j hj=>by rw[←hY,AHeap.get_set_ne _ _ (by omega),AHeap.get_allocAt_ne _ _ (by omega)]
   clear hY
   refine AInv.retK B8 (hl_works_ok E B P X T Y) (fun v H5 hq=>?_) (fun v H5 hq=>by cases hq.1)
   obtain⟨hv,h5⟩:=hq
   cases hv
   simp (maxSteps:=400000) only[wF,storeA,reduceCtorEq,Nat.reduceAdd,Nat.reduceSub,Nat.reduceEqDiff,Nat.reduceLeDiff,Int.reduceToNat,Int.reduceLE,Int.reduceLT,Int.reduceAdd,Int.reduceNeg,Nat.reduceMul,T5]
   have n2:=k2.1
   have n5:=h5.1
   have fin:Kept H H5:=⟨by omega,fun j hj=>by rw[h5.2 _ (by omega),yo _ (by omega),h4.2 _ (by omega),h3.2,xo _ (by omega)];exact k2.2 j hj⟩
   first | exact⟨rfl,fin⟩ | exact fin
end Go.Ab
