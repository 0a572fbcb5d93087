/- reparse's piece and HTML, walked, over what tree.Build returns. -/
import Derived.Test.YtojncnpmlhhccaaGreatDoorHW5
import Derived.Test.YtojncnpmlhhccaaGreatDoorH3
set_option linter.all false
namespace Go.Ab
open Go Go.Lib Go.Proofs
def seqO (i:Nat) (h:HSt):Except Nat (Option HSt):=
 match i with
 | 0=>rawO h
 | 1=>textO h
 | 2=>endO h
 | 3=>commentO h
 | 4=>instrO h
 | 5=>startO h
 | _ => .ok none
def outO:Except Nat (Option HSt)→Except Nat HSt
 | .error e => .error e
 | .ok (some h') => .ok h'
 | .ok none => .error 5
theorem outO_ite (c:Prop) [Decidable c] (a b:Except Nat (Option HSt)):outO (if c then a else b)=if c then outO a else outO b:=by split<;>rfl
theorem outO_err (e:Nat):outO (.error e) = .error e:=rfl
theorem outO_some (h:HSt):outO (.ok (some h)) = .ok h:=rfl
theorem piece_seq (h:HSt) {i:Nat} {o:Except Nat (Option HSt)} (hi:i≤5) (hp:∀k,k<i→seqO k h = .ok none) (ho:seqO i h=o) (hn:o ≠ .ok none):pieceHS h=outO o:=by
 have hp0:=hp 0
 have hp1:=hp 1
 have hp2:=hp 2
 have hp3:=hp 3
 have hp4:=hp 4
 simp only[seqO,rawO,textO,endO,commentO,instrO]at hp0 hp1 hp2 hp3 hp4
 unfold pieceHS
 have r0:0<i→¬rawNow h=true:=fun h0 e=>by
  have:=hp0 h0
  rw[if_pos e]at this
  split at this<;>cases this
 have r1:1<i→¬h.s.getD 0 0≠60:=fun h0 e=>by
  have:=hp1 h0
  rw[if_pos e]at this
  split at this<;>cases this
 have r2:2<i→endHS h.s=none:=fun h0=>by
  have:=hp2 h0
  cases he:endHS h.s with
  | none=>rfl
  | some x=>rw[he]at this;simp only at this;split at this<;>cases this
 have r3:3<i→commentHS h.s=none:=fun h0=>by
  have:=hp3 h0
  cases he:commentHS h.s with
  | none=>rfl
  | some x=>rw[he]at this;cases this
 have r4:4<i→instrHS h.s=none:=fun h0=>by
  have:=hp4 h0
  cases he:instrHS h.s with
  | none=>rfl
  | some x=>rw[he]at this;cases this
 match i,hi with
 | 0,_=>
  simp only[seqO,rawO]at ho
  by_cases h1:rawNow h=true
  ·rw[if_pos h1]at ho ⊢
   rw[←ho]
   simp only[outO_ite,outO_err,outO_some]
  ·rw[if_neg h1]at ho
   exact absurd ho.symm hn
 | 1,_=>
  rw[if_neg (r0 (by omega))]
  simp only[seqO,textO]at ho
  by_cases h1:h.s.getD 0 0≠60
  ·rw[if_pos h1]at ho ⊢
   rw[←ho]
   simp only[outO_ite,outO_err,outO_some]
  ·rw[if_neg h1]at ho
   exact absurd ho.symm hn
 | 2,_=>
  rw[if_neg (r0 (by omega)),if_neg (r1 (by omega))]
  simp only[seqO,endO]at ho
  cases he:endHS h.s with
  | none=>rw[he]at ho;exact absurd ho.symm hn
  | some x=>
   rw[he]at ho
   rw[←ho]
   try simp only
   simp only[outO_ite,outO_err,outO_some]
 | 3,_=>
  rw[if_neg (r0 (by omega)),if_neg (r1 (by omega)),r2 (by omega)]
  simp only[seqO,commentO]at ho
  cases he:commentHS h.s with
  | none=>rw[he]at ho;exact absurd ho.symm hn
  | some x=>rw[he]at ho;rw[←ho];rfl
 | 4,_=>
  rw[if_neg (r0 (by omega)),if_neg (r1 (by omega)),r2 (by omega),r3 (by omega)]
  simp only[seqO,instrO]at ho
  cases he:instrHS h.s with
  | none=>rw[he]at ho;exact absurd ho.symm hn
  | some x=>rw[he]at ho;rw[←ho];rfl
 | 5,_=>
  rw[if_neg (r0 (by omega)),if_neg (r1 (by omega)),r2 (by omega),r3 (by omega),r4 (by omega)]
  simp only[seqO,startO]at ho
  cases he:startHS h.s with
  | none=>rw[he]at ho;exact absurd ho.symm hn
  | some x=>
   rw[he]at ho
   rw[←ho]
   try simp only
   simp only[outO_ite,outO_err,outO_some]
theorem piece_none (h:HSt) (hp:∀k,k<6→seqO k h = .ok none):pieceHS h = .error 5:=by
 have hp0:=hp 0 (by omega)
 have hp1:=hp 1 (by omega)
 have hp2:=hp 2 (by omega)
 have hp3:=hp 3 (by omega)
 have hp4:=hp 4 (by omega)
 have hp5:=hp 5 (by omega)
 simp only[seqO,rawO,textO,endO,commentO,instrO,startO]at hp0 hp1 hp2 hp3 hp4 hp5
 unfold pieceHS
 rw[if_neg (fun e=>by rw[if_pos e]at hp0;split at hp0<;>cases hp0),if_neg (fun e=>by rw[if_pos e]at hp1;split at hp1<;>cases hp1)]
 cases he:endHS h.s with
 | some x=>rw[he]at hp2;simp only at hp2;split at hp2<;>cases hp2
 | none=>
 cases hc:commentHS h.s with
 | some x=>rw[hc]at hp3;cases hp3
 | none=>
 cases hi:instrHS h.s with
 | some x=>rw[hi]at hp4;cases hp4
 | none=>
 cases hs:startHS h.s with
 | some x=>
  rw[hs]at hp5
  simp only at hp5
  split at hp5
  ·cases hp5
  ·split at hp5<;>cases hp5
 | none=>rfl
def PcRd (h:HSt) (J:AHeap) (rid kl ko:Nat) (o:Except Nat HSt) (r:ARes) (J':AHeap):Prop:=
 match o with
 | .error e=>r = .pan (hwrongA e)∧J.next≤J'.next∧∀j,j<J.next→j≠rid→j≠kl→j≠ko→J'.get j=J.get j
 | .ok h'=>(∃v,r = .ret v)∧∃kl' ko',RdrAt J' rid kl' ko' h'∧HKeep J rid kl ko J' kl' ko'
def PcAt (h:HSt) (H:AHeap) (rid kl ko:Nat) (row:AObj) (x:Nat × AHeap):Prop:=
 x.1≤6∧RdrAt x.2 rid kl ko h∧HKeep H rid kl ko x.2 kl ko∧x.2.get H.next=some row∧H.next<x.2.next∧∀k,k<x.1→seqO k h = .ok none
set_option maxHeartbeats 8000000 in
set_option maxRecDepth 100000 in
theorem h_piece_ok {G:Nat→Option (List AV)} (E:Env G) (B:EnvB G) (P:EnvP G) (X:EnvH G) {H:AHeap} {rid kl ko:Nat} {h:HSt} (hr:RdrAt H rid kl ko h) (hs:h.s.length≤900000000) (hne:h.s≠[]) (hl:h.l.length<10000000) (ho:h.opens.length<10000000) (hnm:∀x∈h.l,x.name.length≤900000000) :
  ACalls Tryz.prog G 25 [.ptr rid 0] H (PcRd h H rid kl ko (pieceHS h)):=by
 refine ACalls.of Tryz.func25 S25_eq R25 N25 rfl rfl ?_
 simp (maxSteps:=400000) only[wF,storeA,reduceCtorEq,Nat.reduceAdd,Nat.reduceSub,Nat.reduceEqDiff,Nat.reduceLeDiff,Int.reduceToNat,Int.reduceLE,Int.reduceLT,Int.reduceAdd,Int.reduceNeg,Nat.reduceMul,S25,N25,R25,T25,sliceLit,fillA,zerosA,AV.boxable,Nat.le_refl,Nat.reduceLT]
 generalize hX0:AHeap.allocAt H H.next _=X0
 have x0:X0.get H.next=some (.row 108 1 [.func 59 [],.func 60 [],.func 61 [],.func 62 [],.func 63 [],.func 64 []]):=by rw[←hX0,AHeap.get_allocAt_same]
 have xn:X0.next=H.next+1:=by rw[←hX0];simp only[AHeap.next_allocAt];omega
 have xo:∀j,j<H.next→X0.get j=H.get j:=fun j hj=>by rw[←hX0,AHeap.get_allocAt_ne _ _ (by omega)]
 clear hX0
 obtain⟨r0,k0⟩:=hr.keep (J':=X0) ⟨by omega,xo⟩
 refine ATrS.loopK (κ:=Nat × AHeap) (fun x=>[.ptr rid 0,.und,.und,.und,.slc H.next 6,.int .i64 6,.int .i64 x.1]++List.replicate 9 .und) (fun x=>x.2)
  (PcAt h H rid kl ko (.row 108 1 [.func 59 [],.func 60 [],.func 61 [],.func 62 [],.func 63 [],.func 64 []])) (fun x=>6-x.1) ⟨(0,X0),⟨by simp,r0,k0,x0,by simp only;omega,fun k hk=>by simp at hk⟩,by simp[Fg],HW.refl _⟩ ?_
 rintro⟨i,J⟩ ⟨hi,r1,k1,hrow,hJn,hprev⟩
 simp only at hi r1 k1 hrow hJn hprev
 have ew:IntKind.i64.wrap ((i:Int)+1)=((i+1:Nat):Int):=by rw[wrap64]<;>omega
 by_cases h6:i=6
 ·have d0:decide ((i:Int)<6)=false:=by rw[h6];rfl
  rw[piece_none h (fun k hk=>hprev k (by omega))]
  simp (maxSteps:=400000) only[wF,storeA,reduceCtorEq,Nat.reduceAdd,Nat.reduceSub,Nat.reduceEqDiff,Nat.reduceLeDiff,Int.reduceToNat,Int.reduceLE,Int.reduceLT,Int.reduceAdd,Int.reduceNeg,Nat.reduceMul,T25,d0,buildA,fillA,ifaceA,AV.boxable]
  exact⟨rfl,k1.1,k1.2.2.2⟩
 ·have d0:decide ((i:Int)<6)=true:=by simp;omega
  have q0:((0:Int)≤(i:Int))=True:=by simp
  have q1:((i:Int)<6)=True:=by simp;omega
  have hcase:i=0∨i=1∨i=2∨i=3∨i=4∨i=5:=by omega
  obtain⟨g,hg,hbt,hO⟩:∃g,([.func 59 [],.func 60 [],.func 61 [],.func 62 [],.func 63 [],.func 64 []]:List AV)[i]?=some (.func g [])∧bodyT Tryz.prog g=true∧ACalls Tryz.prog G g [.ptr rid 0] J (RdPost h J rid kl ko (seqO i h)):=by
   rcases hcase with rfl | rfl | rfl | rfl | rfl | rfl
   ·exact⟨59,rfl,B59,h_raw_ok E r1 hs (by omega) hnm⟩
   ·exact⟨60,rfl,B60,h_text_ok E B P r1 hs hne (by omega)⟩
   ·exact⟨61,rfl,B61,h_end_ok E r1 hs (by omega) (by omega)⟩
   ·exact⟨62,rfl,B62,h_comment_ok E r1 hs (by omega)⟩
   ·exact⟨63,rfl,B63,h_instruction_ok E r1 hs (by omega)⟩
   ·exact⟨64,rfl,B64,h_start_ok E B P X r1 hs hne hl ho⟩
  simp (maxSteps:=400000) only[wF,storeA,reduceCtorEq,Nat.reduceAdd,Nat.reduceSub,Nat.reduceEqDiff,Nat.reduceLeDiff,Int.reduceToNat,Int.reduceLE,Int.reduceLT,Int.reduceAdd,Int.reduceNeg,Nat.reduceMul,T25,d0,q0,q1,hrow,indexAddrA,Nat.mul_one,hg]
  refine⟨by omega,AInv.retK hbt hO (fun v J1 hq=>?_) (fun v J1 hq=>?_)⟩
  ·cases hs5:seqO i h with
   | error e=>rw[hs5]at hq;cases hq.1
   | ok o=>
    cases o with
    | none=>
     rw[hs5]at hq
     obtain⟨hv,r2,k2⟩:=hq
     cases hv
     simp (maxSteps:=400000) only[wF,storeA,reduceCtorEq,Nat.reduceAdd,Nat.reduceSub,Nat.reduceEqDiff,Nat.reduceLeDiff,Int.reduceToNat,Int.reduceLE,Int.reduceLT,Int.reduceAdd,Int.reduceNeg,Nat.reduceMul,T25,ew]
     obtain⟨_,_,_,a4,a5,a6,a7,a8,a9⟩:=hr
     refine⟨(i+1,J1),⟨by simp only;omega,r2,k1.trans k2,?_,?_,fun k hk=>?_⟩,by simp only;omega,by simp[Fg],HW.refl _⟩
     ·exact(k2.2.2.2 H.next hJn (by omega) (by omega) (by omega)).trans hrow
     ·have:=k2.1;simp only;omega
     ·by_cases hki:k=i
      ·rw[hki];exact hs5
      ·exact hprev k (by simp only at hk;omega)
    | some h'=>
     rw[hs5]at hq
     obtain⟨hv,kl',ko',r2,k2⟩:=hq
     cases hv
     rw[piece_seq h (i:=i) (by omega) hprev hs5 (by simp),outO]
     simp (maxSteps:=400000) only[wF,storeA,reduceCtorEq,Nat.reduceAdd,Nat.reduceSub,Nat.reduceEqDiff,Nat.reduceLeDiff,Int.reduceToNat,Int.reduceLE,Int.reduceLT,Int.reduceAdd,Int.reduceNeg,Nat.reduceMul,T25]
     exact⟨⟨_,rfl⟩,kl',ko',r2,k1.trans k2⟩
  ·cases hs5:seqO i h with
   | ok o=>cases o with
    | none=>rw[hs5]at hq;cases hq.1
    | some h'=>rw[hs5]at hq;cases hq.1
   | error e=>
    rw[hs5]at hq
    obtain⟨hv,n2,f2⟩:=hq
    cases hv
    rw[piece_seq h (i:=i) (by omega) hprev hs5 (by simp),outO]
    simp (maxSteps:=400000) only[wF,storeA,reduceCtorEq,Nat.reduceAdd,Nat.reduceSub,Nat.reduceEqDiff,Nat.reduceLeDiff,Int.reduceToNat,Int.reduceLE,Int.reduceLT,Int.reduceAdd,Int.reduceNeg,Nat.reduceMul,T25]
    exact⟨rfl,by have:=k1.1;omega,fun j j1 j2 j3 j4=>by rw[f2 j (by have:=k1.1;omega) j2 j3 j4];exact k1.2.2.2 j j1 j2 j3 j4⟩
end Go.Ab
