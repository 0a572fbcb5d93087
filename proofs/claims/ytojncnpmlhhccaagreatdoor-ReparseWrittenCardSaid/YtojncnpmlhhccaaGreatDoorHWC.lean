/- reparse's piece and HTML, walked, over what tree.Build returns. reparse.HTML, walked, over what tree.Build returns. reparse.HTML, walked, over what tree.Build returns. -/
import Derived.Test.YtojncnpmlhhccaaGreatDoorHW5
import Derived.Test.YtojncnpmlhhccaaGreatDoorCodesH2
set_option linter.all false
namespace Go.Ab
open Go Go.Lib Go.Proofs
def seqO (i:Nat) (h:HSt):Except Nat (Option HSt):=
 match i with
 | 0=>rawO h
 | 1=>textO h
 | 2=>endO h
 | 3=>commentO h
 | 4=>instrO h
 | 5=>startO h
 | _ => .ok none
def outO:Except Nat (Option HSt)→Except Nat HSt
 | .error e => .error e
 | .ok (some h') => .ok h'
 | .ok none => .error 5
theorem outO_ite (c:Prop) [Decidable c] (a b:Except Nat (Option HSt)):outO (if c then a else b)=if c then outO a else outO b:=by split<;>rfl
theorem outO_err (e:Nat):outO (.error e) = .error e:=rfl
theorem outO_some (h:HSt):outO (.ok (some h)) = .ok h:=rfl
theorem piece_seq (h:HSt) {i:Nat} {o:Except Nat (Option HSt)} (hi:i≤5) (hp:∀k,k<i→seqO k h = .ok none) (ho:seqO i h=o) (hn:o ≠ .ok none):pieceHS h=outO o:=by
 have hp0:=hp 0
 have hp1:=hp 1
 have hp2:=hp 2
 have hp3:=hp 3
 have hp4:=hp 4
 simp only[seqO,rawO,textO,endO,commentO,instrO]at hp0 hp1 hp2 hp3 hp4
 unfold pieceHS
 have r0:0<i→¬rawNow h=true:=fun h0 e=>by
  have:=hp0 h0
  rw[if_pos e]at this
  split at this<;>cases this
 have r1:1<i→¬h.s.getD 0 0≠60:=fun h0 e=>by
  have:=hp1 h0
  rw[if_pos e]at this
  split at this<;>cases this
 have r2:2<i→endHS h.s=none:=fun h0=>by
  have:=hp2 h0
  cases he:endHS h.s with
  | none=>rfl
  | some x=>rw[he]at this;simp only at this;split at this<;>cases this
 have r3:3<i→commentHS h.s=none:=fun h0=>by
  have:=hp3 h0
  cases he:commentHS h.s with
  | none=>rfl
  | some x=>rw[he]at this;cases this
 have r4:4<i→instrHS h.s=none:=fun h0=>by
  have:=hp4 h0
  cases he:instrHS h.s with
  | none=>rfl
  | some x=>rw[he]at this;cases this
 match i,hi with
 | 0,_=>
  simp only[seqO,rawO]at ho
  by_cases h1:rawNow h=true
  ·rw[if_pos h1]at ho ⊢
   rw[←ho]
   simp only[outO_ite,outO_err,outO_some]
  ·rw[if_neg h1]at ho
   exact absurd ho.symm hn
 | 1,_=>
  rw[if_neg (r0 (by omega))]
  simp only[seqO,textO]at ho
  by_cases h1:h.s.getD 0 0≠60
  ·rw[if_pos h1]at ho ⊢
   rw[←ho]
   simp only[outO_ite,outO_err,outO_some]
  ·rw[if_neg h1]at ho
   exact absurd ho.symm hn
 | 2,_=>
  rw[if_neg (r0 (by omega)),if_neg (r1 (by omega))]
  simp only[seqO,endO]at ho
  cases he:endHS h.s with
  | none=>rw[he]at ho;exact absurd ho.symm hn
  | some x=>
   rw[he]at ho
   rw[←ho]
   try simp only
   simp only[outO_ite,outO_err,outO_some]
 | 3,_=>
  rw[if_neg (r0 (by omega)),if_neg (r1 (by omega)),r2 (by omega)]
  simp only[seqO,commentO]at ho
  cases he:commentHS h.s with
  | none=>rw[he]at ho;exact absurd ho.symm hn
  | some x=>rw[he]at ho;rw[←ho];rfl
 | 4,_=>
  rw[if_neg (r0 (by omega)),if_neg (r1 (by omega)),r2 (by omega),r3 (by omega)]
  simp only[seqO,instrO]at ho
  cases he:instrHS h.s with
  | none=>rw[he]at ho;exact absurd ho.symm hn
  | some x=>rw[he]at ho;rw[←ho];rfl
 | 5,_=>
  rw[if_neg (r0 (by omega)),if_neg (r1 (by omega)),r2 (by omega),r3 (by omega),r4 (by omega)]
  simp only[seqO,startO]at ho
  cases he:startHS h.s with
  | none=>rw[he]at ho;exact absurd ho.symm hn
  | some x=>
   rw[he]at ho
   rw[←ho]
   try simp only
   simp only[outO_ite,outO_err,outO_some]
theorem piece_none (h:HSt) (hp:∀k,k<6→seqO k h = .ok none):pieceHS h = .error 5:=by
 have hp0:=hp 0 (by omega)
 have hp1:=hp 1 (by omega)
 have hp2:=hp 2 (by omega)
 have hp3:=hp 3 (by omega)
 have hp4:=hp 4 (by omega)
 have hp5:=hp 5 (by omega)
 simp only[seqO,rawO,textO,endO,commentO,instrO,startO]at hp0 hp1 hp2 hp3 hp4 hp5
 unfold pieceHS
 rw[if_neg (fun e=>by rw[if_pos e]at hp0;split at hp0<;>cases hp0),if_neg (fun e=>by rw[if_pos e]at hp1;split at hp1<;>cases hp1)]
 cases he:endHS h.s with
 | some x=>rw[he]at hp2;simp only at hp2;split at hp2<;>cases hp2
 | none=>
 cases hc:commentHS h.s with
 | some x=>rw[hc]at hp3;cases hp3
 | none=>
 cases hi:instrHS h.s with
 | some x=>rw[hi]at hp4;cases hp4
 | none=>
 cases hs:startHS h.s with
 | some x=>
  rw[hs]at hp5
  simp only at hp5
  split at hp5
  ·cases hp5
  ·split at hp5<;>cases hp5
 | none=>rfl
def PcRd (h:HSt) (J:AHeap) (rid kl ko:Nat) (o:Except Nat HSt) (r:ARes) (J':AHeap):Prop:=
 match o with
 | .error e=>r = .pan (hwrongA e)∧J.next≤J'.next∧∀j,j<J.next→j≠rid→j≠kl→j≠ko→J'.get j=J.get j
 | .ok h'=>(∃v,r = .ret v)∧∃kl' ko',RdrAt J' rid kl' ko' h'∧HKeep J rid kl ko J' kl' ko'
def PcAt (h:HSt) (H:AHeap) (rid kl ko:Nat) (row:AObj) (x:Nat × AHeap):Prop:=
 x.1≤6∧RdrAt x.2 rid kl ko h∧HKeep H rid kl ko x.2 kl ko∧x.2.get H.next=some row∧H.next<x.2.next∧∀k,k<x.1→seqO k h = .ok none
set_option maxHeartbeats 8000000 in
set_option maxRecDepth 100000 in
theorem h_piece_ok {G:Nat→Option (List AV)} (E:Env G) (B:EnvB G) (P:EnvP G) (X:EnvH G) {H:AHeap} {rid kl ko:Nat} {h:HSt} (hr:RdrAt H rid kl ko h) (hs:h.s.length≤900000000) (hne:h.s≠[]) (hl:h.l.length<10000000) (ho:h.opens.length<10000000) (hnm:∀x∈h.l,x.name.length≤900000000) :
  ACalls Tryz.prog G 25 [.ptr rid 0] H (PcRd h H rid kl ko (pieceHS h)):=by
 refine ACalls.of Tryz.func25 S25_eq R25 N25 rfl rfl ?_
 simp (maxSteps:=400000) only[wF,storeA,reduceCtorEq,Nat.reduceAdd,Nat.reduceSub,Nat.reduceEqDiff,Nat.reduceLeDiff,Int.reduceToNat,Int.reduceLE,Int.reduceLT,Int.reduceAdd,Int.reduceNeg,Nat.reduceMul,S25,N25,R25,T25,sliceLit,fillA,zerosA,AV.boxable,Nat.le_refl,Nat.reduceLT]
 generalize hX0:AHeap.allocAt H H.next _=X0
 have x0:X0.get H.next=some (.row 108 1 [.func 59 [],.func 60 [],.func 61 [],.func 62 [],.func 63 [],.func 64 []]):=by rw[←hX0,AHeap.get_allocAt_same]
 have xn:X0.next=H.next+1:=by rw[←hX0];simp only[AHeap.next_allocAt];omega
 have xo:∀j,j<H.next→X0.get j=H.get j:=fun j hj=>by rw[←hX0,AHeap.get_allocAt_ne _ _ (by omega)]
 clear hX0
 obtain⟨r0,k0⟩:=hr.keep (J':=X0) ⟨by omega,xo⟩
 refine ATrS.loopK (κ:=Nat × AHeap) (fun x=>[.ptr rid 0,.und,.und,.und,.slc H.next 6,.int .i64 6,.int .i64 x.1]++List.replicate 9 .und) (fun x=>x.2)
  (PcAt h H rid kl ko (.row 108 1 [.func 59 [],.func 60 [],.func 61 [],.func 62 [],.func 63 [],.func 64 []])) (fun x=>6-x.1) ⟨(0,X0),⟨by simp,r0,k0,x0,by simp only;omega,fun k hk=>by simp at hk⟩,by simp[Fg],HW.refl _⟩ ?_
 rintro⟨i,J⟩ ⟨hi,r1,k1,hrow,hJn,hprev⟩
 simp only at hi r1 k1 hrow hJn hprev
 have ew:IntKind.i64.wrap ((i:Int)+1)=((i+1:Nat):Int):=by rw[wrap64]<;>omega
 by_cases h6:i=6
 ·have d0:decide ((i:Int)<6)=false:=by rw[h6];rfl
  rw[piece_none h (fun k hk=>hprev k (by omega))]
  simp (maxSteps:=400000) only[wF,storeA,reduceCtorEq,Nat.reduceAdd,Nat.reduceSub,Nat.reduceEqDiff,Nat.reduceLeDiff,Int.reduceToNat,Int.reduceLE,Int.reduceLT,Int.reduceAdd,Int.reduceNeg,Nat.reduceMul,T25,d0,buildA,fillA,ifaceA,AV.boxable]
  exact⟨rfl,k1.1,k1.2.2.2⟩
 ·have d0:decide ((i:Int)<6)=true:=by simp;omega
  have q0:((0:Int)≤(i:Int))=True:=by simp
  have q1:((i:Int)<6)=True:=by simp;omega
  have hcase:i=0∨i=1∨i=2∨i=3∨i=4∨i=5:=by omega
  obtain⟨g,hg,hbt,hO⟩:∃g,([.func 59 [],.func 60 [],.func 61 [],.func 62 [],.func 63 [],.func 64 []]:List AV)[i]?=some (.func g [])∧bodyT Tryz.prog g=true∧ACalls Tryz.prog G g [.ptr rid 0] J (RdPost h J rid kl ko (seqO i h)):=by
   rcases hcase with rfl | rfl | rfl | rfl | rfl | rfl
   ·exact⟨59,rfl,B59,h_raw_ok E r1 hs (by omega) hnm⟩
   ·exact⟨60,rfl,B60,h_text_ok E B P r1 hs hne (by omega)⟩
   ·exact⟨61,rfl,B61,h_end_ok E r1 hs (by omega) (by omega)⟩
   ·exact⟨62,rfl,B62,h_comment_ok E r1 hs (by omega)⟩
   ·exact⟨63,rfl,B63,h_instruction_ok E r1 hs (by omega)⟩
   ·exact⟨64,rfl,B64,h_start_ok E B P X r1 hs hne hl ho⟩
  simp (maxSteps:=400000) only[wF,storeA,reduceCtorEq,Nat.reduceAdd,Nat.reduceSub,Nat.reduceEqDiff,Nat.reduceLeDiff,Int.reduceToNat,Int.reduceLE,Int.reduceLT,Int.reduceAdd,Int.reduceNeg,Nat.reduceMul,T25,d0,q0,q1,hrow,indexAddrA,Nat.mul_one,hg]
  refine⟨by omega,AInv.retK hbt hO (fun v J1 hq=>?_) (fun v J1 hq=>?_)⟩
  ·cases hs5:seqO i h with
   | error e=>rw[hs5]at hq;cases hq.1
   | ok o=>
    cases o with
    | none=>
     rw[hs5]at hq
     obtain⟨hv,r2,k2⟩:=hq
     cases hv
     simp (maxSteps:=400000) only[wF,storeA,reduceCtorEq,Nat.reduceAdd,Nat.reduceSub,Nat.reduceEqDiff,Nat.reduceLeDiff,Int.reduceToNat,Int.reduceLE,Int.reduceLT,Int.reduceAdd,Int.reduceNeg,Nat.reduceMul,T25,ew]
     obtain⟨_,_,_,a4,a5,a6,a7,a8,a9⟩:=hr
     refine⟨(i+1,J1),⟨by simp only;omega,r2,k1.trans k2,?_,?_,fun k hk=>?_⟩,by simp only;omega,by simp[Fg],HW.refl _⟩
     ·exact(k2.2.2.2 H.next hJn (by omega) (by omega) (by omega)).trans hrow
     ·have:=k2.1;simp only;omega
     ·by_cases hki:k=i
      ·rw[hki];exact hs5
      ·exact hprev k (by simp only at hk;omega)
    | some h'=>
     rw[hs5]at hq
     obtain⟨hv,kl',ko',r2,k2⟩:=hq
     cases hv
     rw[piece_seq h (i:=i) (by omega) hprev hs5 (by simp),outO]
     simp (maxSteps:=400000) only[wF,storeA,reduceCtorEq,Nat.reduceAdd,Nat.reduceSub,Nat.reduceEqDiff,Nat.reduceLeDiff,Int.reduceToNat,Int.reduceLE,Int.reduceLT,Int.reduceAdd,Int.reduceNeg,Nat.reduceMul,T25]
     exact⟨⟨_,rfl⟩,kl',ko',r2,k1.trans k2⟩
  ·cases hs5:seqO i h with
   | ok o=>cases o with
    | none=>rw[hs5]at hq;cases hq.1
    | some h'=>rw[hs5]at hq;cases hq.1
   | error e=>
    rw[hs5]at hq
    obtain⟨hv,n2,f2⟩:=hq
    cases hv
    rw[piece_seq h (i:=i) (by omega) hprev hs5 (by simp),outO]
    simp (maxSteps:=400000) only[wF,storeA,reduceCtorEq,Nat.reduceAdd,Nat.reduceSub,Nat.reduceEqDiff,Nat.reduceLeDiff,Int.reduceToNat,Int.reduceLE,Int.reduceLT,Int.reduceAdd,Int.reduceNeg,Nat.reduceMul,T25]
    exact⟨rfl,by have:=k1.1;omega,fun j j1 j2 j3 j4=>by rw[f2 j (by have:=k1.1;omega) j2 j3 j4];exact k1.2.2.2 j j1 j2 j3 j4⟩
end Go.Ab
namespace Go.Ab
open Go Go.Lib Go.Proofs
def EvB (n:Nat) (x:Ev):Prop:=x.name.length≤n∧x.text.length≤n∧x.attrs.length≤n∧(∀a∈x.attrs,a.1.length≤n∧a.2.length≤n)∧x.kind≤4
theorem EvB.mono {n m:Nat} {x:Ev} (h:EvB n x) (hm:n≤m):EvB m x:=⟨by have:=h.1;omega,by have:=h.2.1;omega,by have:=h.2.2.1;omega,fun a ha=>by have:=h.2.2.2.1 a ha;omega,h.2.2.2.2⟩
theorem tagHF_attrs {s:List UInt8}:∀(f k:Nat) (l:List (List UInt8 × List UInt8)) (tw:Bool) {x},tagHF f s k l tw=some x→(∀a∈l,a.1.length≤s.length∧a.2.length≤s.length)→∀a∈x.2.1,a.1.length≤s.length∧a.2.length≤s.length
 | 0,_,_,_,_,h,_=>by simp[tagHF]at h
 | f+1,k,l,tw,x,h,hl=>by
  simp only[tagHF]at h
  split at h
  ·split at h
   ·rename_i ha
    have hb:=attrHS_bound ha
    simp only[List.length_drop]at hb
    refine tagHF_attrs f _ _ _ h fun a hm=>?_
    rcases List.mem_append.1 hm with hm | hm
    ·exact hl a hm
    ·simp only[List.mem_singleton]at hm
     subst hm
     omega
   ·cases h
  ·cases h
   exact hl
theorem startHS_EvB {s:List UInt8} {x:Ev × Nat × Bool} (h:startHS s=some x):EvB s.length x.1:=by
 have hb:=startHS_bound h
 unfold startHS at h
 simp only at h
 split at h
 case isFalse=>cases h
 split at h
 ·cases h
 rename_i k2 l tw ht
 have hat:=tagHF_attrs _ _ _ _ ht (by simp)
 split at h
 ·cases h
  refine⟨?_,Nat.zero_le _,hb.2.2.1,hat,by simp⟩
  simp only[List.length_drop,List.length_take]
  omega
 ·cases h
theorem pieceHS_EvB {h h':HSt} (e:pieceHS h = .ok h'):∀x∈h'.l,x∈h.l∨EvB h.s.length x:=by
 have one:∀(k:Nat) (name text rest:List UInt8),k≤4→name.length≤h.s.length→text.length≤h.s.length→∀x∈(h.add k name text rest).l,x∈h.l∨EvB h.s.length x:=fun k name text rest hk hn ht x hx=>by
  simp only[HSt.add,List.mem_append,List.mem_singleton]at hx
  rcases hx with hx | hx
  ·exact .inl hx
  ·subst hx
   exact .inr ⟨hn,ht,Nat.zero_le _,by simp,hk⟩
 unfold pieceHS at e
 split at e
 ·split at e
  ·cases e
  ·cases e
   exact one _ _ _ _ (by omega) (by simp) (by simp only[List.length_take];omega)
 split at e
 ·split at e
  ·cases e
   refine one _ _ _ _ (by omega) (by simp) ?_
   have:=unescS_len (Lib.cut h.s [60]).1
   have:=cut_len h.s [60]
   omega
  ·cases e
 split at e
 ·rename_i name rest he
  have:=endHS_bound he
  simp only at this
  split at e
  ·cases e
   exact one 1 name [] rest (by omega) (by omega) (by simp)
  ·cases e
 split at e
 ·rename_i text rest he
  have:=commentHS_bound he
  simp only at this
  cases e
  exact one _ _ _ _ (by omega) (by simp) (by omega)
 split at e
 ·rename_i name text rest he
  have:=instrHS_bound he
  simp only at this
  cases e
  exact one _ _ _ _ (by omega) (by omega) (by omega)
 split at e
 ·cases e
 rename_i x k tw he
 have hb:=startHS_EvB he
 simp only at hb
 split at e
 ·cases e
 split at e
 ·cases e
  intro y hy
  simp only[List.mem_append,List.mem_cons,List.not_mem_nil,or_false]at hy
  rcases hy with hy | rfl | rfl
  ·exact .inl hy
  ·exact .inr hb
  ·exact .inr ⟨hb.1,Nat.zero_le _,Nat.zero_le _,by simp,by simp⟩
 ·cases e
  intro y hy
  simp only[List.mem_append,List.mem_cons,List.not_mem_nil,or_false]at hy
  rcases hy with hy | rfl
  ·exact .inl hy
  ·exact .inr hb
def ndH (x:Nd):List AV:=[.int .i64 x.kind,.str x.name,.str x.text,.int .i64 x.up]
def ndsH (l:List Nd):List AV:=l.flatMap ndH
def treeA (o:Except Nat (List Nd)):AV:=
 match o with
 | .error e => .tup [.agg [.lst 0 []],.int .i64 e]
 | .ok l => .tup [.agg [.lst l.length (ndsH l)],.int .i64 0]
def BuildOk (G:Nat→Option (List AV)):Prop:=∀(l:List Ev) (H:AHeap),l.length≤10000000→(∀x∈l,EvB 10000000 x)→ACalls Tryz.prog G 17 [.lst l.length (evsH l)] H fun r H'=>r = .ret (treeA (buildS l))∧Kept H H'
set_option maxRecDepth 100000 in
theorem h_closure_ok (G:Nat→Option (List AV)) {H:AHeap} {tp ep e:Nat} {x:AV} {e0:AV} {K:AHeap→Prop} (h1:H.get tp=some (.cells 25 [x])) (h2:H.get ep=some (.cells 26 [e0])) (d:tp≠ep) (n1:tp<H.next) (n2:ep<H.next)
  (hK:∀H',H.next≤H'.next→H'.get tp=some (.cells 25 [.nils])→H'.get ep=some (.cells 26 [.int .i64 e])→(∀j,j<H.next→j≠tp→j≠ep→H'.get j=H.get j)→K H') :
  DCalls Tryz.prog G 24 [.ptr tp 0,.ptr ep 0] H (some (hwrongA e)) K:=by
 refine DCalls.of Tryz.func24 S24_eq N24 rfl rfl ?_
 simp (maxSteps:=400000) only[wF,storeA,reduceCtorEq,Nat.reduceAdd,Nat.reduceSub,Nat.reduceEqDiff,Nat.reduceLeDiff,Int.reduceToNat,Int.reduceLE,Int.reduceLT,Int.reduceAdd,Int.reduceNeg,Nat.reduceMul,N24,R24,T24,pvA,hwrongA,assertA,eqNeq,AV.isConst,Bool.or_true,AV.boxable]
 generalize hX:(H.allocAt H.next _).set H.next _=X
 have xn:X.next=H.next+1:=by rw[←hX];simp only[AHeap.next_set,AHeap.next_allocAt];omega
 have xw:X.get H.next=some (.cells 53 [.int .i64 e]):=by rw[←hX,AHeap.get_set_same]
 have xo:∀j,j<H.next→X.get j=H.get j:=fun j hj=>by rw[←hX,AHeap.get_set_ne _ _ (by omega),AHeap.get_allocAt_ne _ _ (by omega)]
 clear hX
 have y1:=(xo _ n1).trans h1
 have y2:=(xo _ n2).trans h2
 have u1:(ep=tp)=False:=by simp;omega
 have u2:(H.next=tp)=False:=by simp;omega
 refine drawW_fixed mixedOrders L24_5_eq P24_5_eq ?_
 simp (maxSteps:=400000) only[wF,storeA,reduceCtorEq,Nat.reduceAdd,Nat.reduceSub,Nat.reduceEqDiff,Nat.reduceLeDiff,Int.reduceToNat,Int.reduceLE,Int.reduceLT,Int.reduceAdd,Int.reduceNeg,Nat.reduceMul,L24_5,T24,xw,y1,y2,u1,u2,buildA,fillA,AV.boxable,endA]
 refine⟨by simp;omega,hK _ (by simp only[AHeap.next_set];omega) ?_ ?_ fun j k1 k2 k3=>?_⟩
 ·rw[AHeap.get_set_ne _ _ d,AHeap.get_set_same]
 ·rw[AHeap.get_set_same]
 ·rw[AHeap.get_set_ne _ _ k3,AHeap.get_set_ne _ _ k2,xo j k1]
theorem h_closure_nil (G:Nat→Option (List AV)) {H:AHeap} {tp ep:Nat} {K:AHeap→Prop} (hK:K H) :
  DCalls Tryz.prog G 24 [.ptr tp 0,.ptr ep 0] H none K:=by
 refine DCalls.of Tryz.func24 S24_eq N24 rfl rfl ?_
 simp (maxSteps:=400000) only[wF,storeA,reduceCtorEq,Nat.reduceAdd,Nat.reduceSub,Nat.reduceEqDiff,Nat.reduceLeDiff,Int.reduceToNat,Int.reduceLE,Int.reduceLT,Int.reduceAdd,Int.reduceNeg,Nat.reduceMul,N24,R24,T24,pvA,eqNeq,AV.isConst,Bool.or_true,endA]
 exact hK
end Go.Ab
namespace Go.Ab
open Go Go.Lib Go.Proofs
theorem Weak.h_nilField (G:Nat→Option (List AV)) {H:AHeap} {k:Nat} {e:TypeId} {cs:List AV} (cs':List AV) (hk:H.get k=some (.cells e cs)) (hkn:k<H.next) (re:TypeId) (size:Nat) (hcs:Tzs 0 (fun _=>none) (some (.slc H.next 0)) cs cs') :
  ∃H',(∀a,Weak G a H a H')∧H'.get k=some (.cells e cs')∧H'.get H.next=some (.row re size [])∧H'.next=H.next+1∧∀j,j≠k→j≠H.next→H'.get j=H.get j:=by
 refine⟨⟨H.next+1,fun j=>if j=H.next then some (.row re size [])else if j=k then some (.cells e cs')else H.get j⟩,fun a=>Weak.nilRow H.next re size (Nat.le_refl _) (Nat.lt_succ_self _) (by simp) ?_ (Tzs.refl a),?_,by simp,rfl,?_⟩
 ·intro j
  by_cases h1:j=H.next
  ·exact .inl h1
  ·by_cases h2:j=k
   ·subst h2
    exact .inr (.inr ⟨_,.cells e cs',hk,by simp[h1],.cells _ _ _ hcs⟩)
   ·cases hg:H.get j with
    | none=>exact .inr (.inl (by simp[h1,h2,hg]))
    | some o=>exact .inr (.inr ⟨o,o,rfl,by simp[h1,h2,hg],.same o⟩)
 ·have:k≠H.next:=by omega
  simp[this]
 ·intro j h1 h2
  simp[h1,h2]
theorem Weak.h_freezeVal (G:Nat→Option (List AV)) {H:AHeap} {j:Nat} {e:TypeId} {size:Nat} {cs:List AV} (hj:H.get j=some (.row e size cs)) (hsz:0<size) {v v':AV} (hv:Tz j (fun len=>some (.lst len cs)) none v v') :
  Weak G [v] H [v'] (H.del j):=
 Weak.freeze hj hsz (Nat.le_refl _) (by simp[AHeap.get_del]) (fun i=>by
  by_cases h:i=j
  ·exact .inr (.inl (by simp[AHeap.get_del,h]))
  ·cases hg:H.get i with
   | none=>exact .inr (.inl (by simp[AHeap.get_del,h,hg]))
   | some o=>exact .inr (.inr ⟨o,o,rfl,by simp[AHeap.get_del,h,hg],.same o⟩)) ⟨hv,trivial⟩
theorem Weak.treeNil (G:Nat→Option (List AV)) (e:Nat) (J:AHeap):Weak G [.tup [.agg [.nils],.int .i64 e]] J [treeA (.error e)] J:=
 Weak.nilLst ⟨.tup' ⟨.agg' ⟨.nil _ rfl,trivial⟩,.same _,trivial⟩,trivial⟩
def HtAt (text:List UInt8) (H:AHeap) (rid:Nat) (x:HSt × Nat × Nat × AHeap):Prop:=
 RdrAt x.2.2.2 rid x.2.1 x.2.2.1 x.1∧readHL x.1=eventsHS text∧x.1.l.length+2*x.1.s.length≤2*text.length∧x.1.opens.length+x.1.s.length≤text.length∧(∀e∈x.1.l,EvB 1048576 e) ∧
 x.2.2.2.get H.next=some (.cells 25 [.nils])∧x.2.2.2.get (H.next+1)=some (.cells 26 [.int .i64 0])∧H.next+1<rid∧H.next+1<x.2.1∧H.next+1<x.2.2.1∧∀j,j<H.next→x.2.2.2.get j=H.get j
set_option maxHeartbeats 8000000 in
set_option maxRecDepth 100000 in
theorem h_html_ok {G:Nat→Option (List AV)} (E:Env G) (B:EnvB G) (P:EnvP G) (X:EnvH G) (hBuild:BuildOk G) (text:List UInt8) (H:AHeap) :
  ACalls Tryz.prog G 9 [.str text] H fun r H'=>r = .ret (treeA (htmlS text))∧Kept H H':=by
 refine ACalls.wf fun wf=>?_
 refine ACalls.ret (ACalls.of_defer Tryz.func9 S9_eq B24 R9 N9 rfl rfl ?_)
 have b1:(H.next=H.next+1)=False:=by simp
 have b2:(H.next+1=H.next)=False:=by simp
 by_cases hlong:1048576<text.length
 ·have d1:decide ((text.length:Int)>1048576)=true:=by simp;omega
  have hR:htmlS text = .error 2:=by unfold htmlS;rw[if_pos hlong]
  simp (maxSteps:=400000) only[wF,storeA,reduceCtorEq,Nat.reduceAdd,Nat.reduceSub,Nat.reduceEqDiff,Nat.reduceLeDiff,Int.reduceToNat,Int.reduceLE,Int.reduceLT,Int.reduceAdd,Int.reduceNeg,Nat.reduceMul,N9,R9,T9,d1,b1,b2,buildA,fillA,AV.boxable]
  refine⟨_,_,Weak.treeNil G 2 _,by rw[hR],by simp only[AHeap.next_set,AHeap.next_allocAt];omega,fun j hj=>?_⟩
  rw[AHeap.get_set_ne _ _ (by omega),AHeap.get_set_ne _ _ (by omega),AHeap.get_allocAt_ne _ _ (by omega),AHeap.get_allocAt_ne _ _ (by omega)]
 have d1:decide ((text.length:Int)>1048576)=false:=by simp;omega
 simp (maxSteps:=400000) only[wF,storeA,reduceCtorEq,Nat.reduceAdd,Nat.reduceSub,Nat.reduceEqDiff,Nat.reduceLeDiff,Int.reduceToNat,Int.reduceLE,Int.reduceLT,Int.reduceAdd,Int.reduceNeg,Nat.reduceMul,N9,R9,T9,d1,b1,b2]
 generalize hX0:AHeap.allocAt _ (H.next+1) _=X0
 have t0:X0.get H.next=some (.cells 25 [.nils]):=by rw[←hX0,AHeap.get_allocAt_ne _ _ (by omega),AHeap.get_allocAt_same]
 have t1:X0.get (H.next+1)=some (.cells 26 [.int .i64 0]):=by rw[←hX0,AHeap.get_allocAt_same]
 have xn0:X0.next=H.next+2:=by rw[←hX0];simp only[AHeap.next_allocAt];omega
 have xo0:∀j,j<H.next→X0.get j=H.get j:=fun j hj=>by rw[←hX0,AHeap.get_allocAt_ne _ _ (by omega),AHeap.get_allocAt_ne _ _ (by omega)]
 clear hX0
 refine AInv.pureK B23 (isText_ok E (by omega)) fun H1 h1=>?_
 have m1:=h1.1
 have s0:=(congrFun h1.2 _).trans t0
 have s1:=(congrFun h1.2 _).trans t1
 cases hT:isTextS text with
 | false=>
  have hR:htmlS text = .error 10:=by unfold htmlS;rw[if_neg hlong,hT,if_pos rfl]
  simp (maxSteps:=400000) only[wF,storeA,reduceCtorEq,Nat.reduceAdd,Nat.reduceSub,Nat.reduceEqDiff,Nat.reduceLeDiff,Int.reduceToNat,Int.reduceLE,Int.reduceLT,Int.reduceAdd,Int.reduceNeg,Nat.reduceMul,N9,R9,T9,Bool.not_false,b1,b2,s0,s1,buildA,fillA,AV.boxable]
  refine⟨_,_,Weak.treeNil G 10 _,by rw[hR],by simp only[AHeap.next_set];omega,fun j hj=>?_⟩
  rw[AHeap.get_set_ne _ _ (by omega),AHeap.get_set_ne _ _ (by omega),h1.2]
  exact xo0 j hj
 | true=>
 have hR:htmlS text=match eventsHS text with
   | .error e => .error e
   | .ok l=>buildS l:=by unfold htmlS;rw[if_neg hlong,hT,if_neg (by simp)];rfl
 simp (maxSteps:=400000) only[wF,storeA,reduceCtorEq,Nat.reduceAdd,Nat.reduceSub,Nat.reduceEqDiff,Nat.reduceLeDiff,Int.reduceToNat,Int.reduceLE,Int.reduceLT,Int.reduceAdd,Int.reduceNeg,Nat.reduceMul,N9,R9,T9,Bool.not_true]
 refine⟨(show(15:Nat)<42 by omega),AInv.pureK X.trimB (X.trim _ _) fun H2 h2=>?_⟩
 have m2:=h2.1
 have htl:=Lib.trimPrefix_le text sDoct
 have hEv:eventsHS text=readHL ⟨Lib.trimPrefix text sDoct,[],[]⟩:=rfl
 unfold sDoct at htl hEv
 generalize Lib.trimPrefix text [60,33,68,79,67,84,89,80,69,32,104,116,109,108,62,10]=u at htl hEv ⊢
 simp (maxSteps:=400000) only[wF,storeA,reduceCtorEq,Nat.reduceAdd,Nat.reduceSub,Nat.reduceEqDiff,Nat.reduceLeDiff,Int.reduceToNat,Int.reduceLE,Int.reduceLT,Int.reduceAdd,Int.reduceNeg,Nat.reduceMul,T9,buildA,fillA,AV.boxable]
 generalize hX3:AHeap.allocAt H2 H2.next _=X3
 have rr:X3.get H2.next=some (.cells 57 [.str u,.nils,.nils]):=by rw[←hX3,AHeap.get_allocAt_same]
 have xn3:X3.next=H2.next+1:=by rw[←hX3];simp only[AHeap.next_allocAt];omega
 have xo3:∀j,j<H2.next→X3.get j=H2.get j:=fun j hj=>by rw[←hX3,AHeap.get_allocAt_ne _ _ (by omega)]
 clear hX3
 obtain⟨Y1,w1,ya,yb,yn,yo⟩:=Weak.h_nilField G [.str u,.slc X3.next 0,.nils] rr (by omega) 88 6 ⟨.same _,.nil _ rfl,.same _,trivial⟩
 obtain⟨Y2,w2,za,zb,zn,zo⟩:=Weak.h_nilField G [.str u,.slc X3.next 0,.slc Y1.next 0] ya (by omega) 9 1 ⟨.same _,.same _,.nil _ rfl,trivial⟩
 have hfr:∀j,j<H2.next→Y2.get j=H2.get j:=fun j hj=>by rw[zo j (by omega) (by omega),yo j (by omega) (by omega),xo3 j hj]
 refine ATrS.weak ((w1 _).trans (w2 _)) (ATrS.loopK (κ:=HSt × Nat × Nat × AHeap) (fun x=>[.und,.und,.ptr H.next 0,.ptr (H.next+1) 0,.ptr H2.next 0]++List.replicate 37 .und) (fun x=>x.2.2.2)
  (HtAt text H H2.next) (fun x=>x.1.s.length) ⟨(⟨u,[],[]⟩,X3.next,Y1.next,Y2),⟨⟨za,?_,zb,by simp only;omega,by simp only;omega,by simp only;omega,by simp only;omega,by simp only;omega,by simp only;omega⟩,hEv.symm,by simp only[List.length_nil];omega,by simp only[List.length_nil];omega,by simp,?_,?_,by omega,by simp only;omega,by simp only;omega,fun j hj=>?_⟩,by simp[Fg],HW.refl _⟩ ?_)
 ·show Y2.get X3.next=_
  rw[zo _ (by omega) (by omega)]
  exact yb
 ·simp only;rw[hfr _ (by omega),h2.2];exact s0
 ·simp only;rw[hfr _ (by omega),h2.2];exact s1
 ·simp only;rw[hfr _ (by omega),h2.2,h1.2];exact xo0 j hj
 clear hfr w1 w2 ya yb za zb yo zo rr
 rintro⟨h,kl,ko,J⟩ ⟨hr,hrd,hl,ho,hev,gt,ge,g1,g2,g3,gf⟩
 simp only at hr hrd hl ho hev gt ge g1 g2 g3 gf
 have hst:=readHL_step h
 rw[hrd]at hst
 have hr0:=hr
 obtain⟨a1,a2,a3,a4,a5,a6,a7,a8,a9⟩:=hr
 by_cases hne:h.s=[]
 case neg=>
  have hse:(h.s==[])=false:=by simpa using hne
  rw[if_neg hne]at hst
  simp (maxSteps:=400000) only[wF,storeA,reduceCtorEq,Nat.reduceAdd,Nat.reduceSub,Nat.reduceEqDiff,Nat.reduceLeDiff,Int.reduceToNat,Int.reduceLE,Int.reduceLT,Int.reduceAdd,Int.reduceNeg,Nat.reduceMul,T9,a1,hse,Bool.not_false]
  refine AInv.retK B25 (h_piece_ok E B P X hr0 (by omega) hne (by omega) (by omega) fun x hx=>by have:=(hev x hx).1;omega) (fun v J1 hq=>?_) (fun v J1 hq=>?_)
  ·cases hp:pieceHS h with
   | error e=>rw[hp]at hq;cases hq.1
   | ok h'=>
    rw[hp]at hq hst
    simp only at hst
    obtain⟨-,kl',ko',r1,k1⟩:=hq
    have hless:=pieceHS_less hne hp
    have hevb:=pieceHS_EvB hp
    simp (maxSteps:=400000) only[wF,storeA,reduceCtorEq,Nat.reduceAdd,Nat.reduceSub,Nat.reduceEqDiff,Nat.reduceLeDiff,Int.reduceToNat,Int.reduceLE,Int.reduceLT,Int.reduceAdd,Int.reduceNeg,Nat.reduceMul,T9]
    refine⟨(h',kl',ko',J1),⟨r1,hst.symm,by simp only;omega,by simp only;omega,fun x hx=>?_,?_,?_,g1,?_,?_,fun j hj=>?_⟩,hless.1,by simp[Fg],HW.refl _⟩
    ·rcases hevb x hx with hx | hx
     ·exact hev x hx
     ·exact hx.mono (by omega)
    ·exact(k1.2.2.2 _ (by omega) (by omega) (by omega) (by omega)).trans gt
    ·exact(k1.2.2.2 _ (by omega) (by omega) (by omega) (by omega)).trans ge
    ·rcases k1.2.1 with e | e
     ·simp only;omega
     ·simp only;omega
    ·rcases k1.2.2.1 with e | e
     ·simp only;omega
     ·simp only;omega
    ·exact(k1.2.2.2 _ (by omega) (by omega) (by omega) (by omega)).trans (gf j hj)
  ·cases hp:pieceHS h with
   | ok h'=>
    rw[hp]at hq
    obtain⟨⟨_,hh⟩,_⟩:=hq
    cases hh
   | error e=>
    rw[hp]at hq hst
    simp only at hst
    obtain⟨hv,n2,f2⟩:=hq
    cases hv
    simp (maxSteps:=400000) only[wF,storeA,reduceCtorEq,Nat.reduceAdd,Nat.reduceSub,Nat.reduceEqDiff,Nat.reduceLeDiff,Int.reduceToNat,Int.reduceLE,Int.reduceLT,Int.reduceAdd,Int.reduceNeg,Nat.reduceMul,T9,deferA]
    refine h_closure_ok G ((f2 _ (by omega) (by omega) (by omega) (by omega)).trans gt) ((f2 _ (by omega) (by omega) (by omega) (by omega)).trans ge) (by omega) (by omega) (by omega) ?_
    intro H' c1 c2 c3 c4
    simp (maxSteps:=400000) only[wF,storeA,reduceCtorEq,Nat.reduceAdd,Nat.reduceSub,Nat.reduceEqDiff,Nat.reduceLeDiff,Int.reduceToNat,Int.reduceLE,Int.reduceLT,Int.reduceAdd,Int.reduceNeg,Nat.reduceMul,T9,c2,c3]
    refine⟨_,_,Weak.treeNil G e _,by rw[hR,hst]<;>rfl,by omega,fun j hj=>?_⟩
    rw[c4 j (by omega) (by omega) (by omega),f2 j (by omega) (by omega) (by omega) (by omega)]
    exact gf j hj
 case pos=>
  have hse:(h.s==[])=true:=by simpa using hne
  rw[if_pos hne]at hst
  by_cases hop:h.opens=[]
  case neg=>
   rw[if_neg hop]at hst
   have hol:h.opens.length≠0:=fun e=>hop (List.length_eq_zero_iff.1 e)
   have d2:decide ((h.opens.length:Int)>0)=true:=by simp;omega
   simp (maxSteps:=400000) only[wF,storeA,reduceCtorEq,Nat.reduceAdd,Nat.reduceSub,Nat.reduceEqDiff,Nat.reduceLeDiff,Int.reduceToNat,Int.reduceLE,Int.reduceLT,Int.reduceAdd,Int.reduceNeg,Nat.reduceMul,T9,a1,hse,Bool.not_true,d2,buildA,fillA,ifaceA,AV.boxable,deferA]
   refine h_closure_ok G (e:=110) gt ge (by omega) (by omega) (by omega) ?_
   intro H' c1 c2 c3 c4
   simp (maxSteps:=400000) only[wF,storeA,reduceCtorEq,Nat.reduceAdd,Nat.reduceSub,Nat.reduceEqDiff,Nat.reduceLeDiff,Int.reduceToNat,Int.reduceLE,Int.reduceLT,Int.reduceAdd,Int.reduceNeg,Nat.reduceMul,T9,c2,c3]
   refine⟨_,_,Weak.treeNil G 110 _,by rw[hR,hst]<;>rfl,by omega,fun j hj=>?_⟩
   rw[c4 j (by omega) (by omega) (by omega)]
   exact gf j hj
  case pos=>
   rw[if_pos hop]at hst
   have d2:decide ((h.opens.length:Int)>0)=false:=by rw[hop];rfl
   rw[hst]at hR
   simp only at hR
   simp (maxSteps:=400000) only[wF,storeA,reduceCtorEq,Nat.reduceAdd,Nat.reduceSub,Nat.reduceEqDiff,Nat.reduceLeDiff,Int.reduceToNat,Int.reduceLE,Int.reduceLT,Int.reduceAdd,Int.reduceNeg,Nat.reduceMul,T9,a1,hse,Bool.not_true,d2]
   refine AInv.retK B17 (ACalls.weak (Weak.h_freezeVal G a2 (by omega) (.slc _ _ rfl)) (hBuild h.l _ (by omega) fun x hx=>(hev x hx).mono (by omega))) (fun v J1 hq=>?_) (fun v J1 hq=>by cases hq.1)
   obtain⟨hv,k1⟩:=hq
   cases hv
   have n1:=k1.1
   simp only[AHeap.next_del]at n1
   have f1:∀j,j<J.next→j≠kl→J1.get j=J.get j:=fun j j1 j2=>by rw[k1.2 j (by simp only[AHeap.next_del];omega),AHeap.get_del_ne _ j2]
   have gt1:=(f1 _ (by omega) (by omega)).trans gt
   have ge1:=(f1 _ (by omega) (by omega)).trans ge
   have gf1:∀j,j<H.next→J1.get j=H.get j:=fun j hj=>(f1 j (by omega) (by omega)).trans (gf j hj)
   rw[←hR]at *
   cases hO:htmlS text with
   | error e=>
    simp only[treeA]
    simp (maxSteps:=400000) only[wF,storeA,reduceCtorEq,Nat.reduceAdd,Nat.reduceSub,Nat.reduceEqDiff,Nat.reduceLeDiff,Int.reduceToNat,Int.reduceLE,Int.reduceLT,Int.reduceAdd,Int.reduceNeg,Nat.reduceMul,T9,gt1,ge1,b1,b2,AV.boxable,deferA]
    refine h_closure_nil G ?_
    simp (maxSteps:=400000) only[wF,storeA,reduceCtorEq,Nat.reduceAdd,Nat.reduceSub,Nat.reduceEqDiff,Nat.reduceLeDiff,Int.reduceToNat,Int.reduceLE,Int.reduceLT,Int.reduceAdd,Int.reduceNeg,Nat.reduceMul,T9,b1,b2]
    refine⟨_,_,h_weak_refl G _ _,rfl,by simp only[AHeap.next_set];omega,fun j hj=>?_⟩
    rw[AHeap.get_set_ne _ _ (by omega),AHeap.get_set_ne _ _ (by omega)]
    exact gf1 j hj
   | ok l=>
    simp only[treeA]
    simp (maxSteps:=400000) only[wF,storeA,reduceCtorEq,Nat.reduceAdd,Nat.reduceSub,Nat.reduceEqDiff,Nat.reduceLeDiff,Int.reduceToNat,Int.reduceLE,Int.reduceLT,Int.reduceAdd,Int.reduceNeg,Nat.reduceMul,T9,gt1,ge1,b1,b2,AV.boxable,deferA]
    refine h_closure_nil G ?_
    simp (maxSteps:=400000) only[wF,storeA,reduceCtorEq,Nat.reduceAdd,Nat.reduceSub,Nat.reduceEqDiff,Nat.reduceLeDiff,Int.reduceToNat,Int.reduceLE,Int.reduceLT,Int.reduceAdd,Int.reduceNeg,Nat.reduceMul,T9,b1,b2]
    refine⟨_,_,h_weak_refl G _ _,rfl,by simp only[AHeap.next_set];omega,fun j hj=>?_⟩
    rw[AHeap.get_set_ne _ _ (by omega),AHeap.get_set_ne _ _ (by omega)]
    exact gf1 j hj
end Go.Ab
