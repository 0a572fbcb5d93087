/- reparse.HTML, walked, over what tree.Build returns. -/
import Derived.Test.YtojncnpmlhhccaaGreatDoorHW7
import Derived.Test.YtojncnpmlhhccaaGreatDoorCodesH2
set_option linter.all false
namespace Go.Ab
open Go Go.Lib Go.Proofs
theorem Weak.h_nilField (G:Nat→Option (List AV)) {H:AHeap} {k:Nat} {e:TypeId} {cs:List AV} (cs':List AV) (hk:H.get k=some (.cells e cs)) (hkn:k<H.next) (re:TypeId) (size:Nat) (hcs:Tzs 0 (fun _=>none) (some (.slc H.next 0)) cs cs') :
  ∃H',(∀a,Weak G a H a H')∧H'.get k=some (.cells e cs')∧H'.get H.next=some (.row re size [])∧H'.next=H.next+1∧∀j,j≠k→j≠H.next→H'.get j=H.get j:=by
 refine⟨⟨H.next+1,fun j=>if j=H.next then some (.row re size [])else if j=k then some (.cells e cs')else H.get j⟩,fun a=>Weak.nilRow H.next re size (Nat.le_refl _) (Nat.lt_succ_self _) (by simp) ?_ (Tzs.refl a),?_,by simp,rfl,?_⟩
 ·intro j
  by_cases h1:j=H.next
  ·exact .inl h1
  ·by_cases h2:j=k
   ·subst h2
    exact .inr (.inr ⟨_,.cells e cs',hk,by simp[h1],.cells _ _ _ hcs⟩)
   ·cases hg:H.get j with
    | none=>exact .inr (.inl (by simp[h1,h2,hg]))
    | some o=>exact .inr (.inr ⟨o,o,rfl,by simp[h1,h2,hg],.same o⟩)
 ·have:k≠H.next:=by omega
  simp[this]
 ·intro j h1 h2
  simp[h1,h2]
theorem Weak.h_freezeVal (G:Nat→Option (List AV)) {H:AHeap} {j:Nat} {e:TypeId} {size:Nat} {cs:List AV} (hj:H.get j=some (.row e size cs)) (hsz:0<size) {v v':AV} (hv:Tz j (fun len=>some (.lst len cs)) none v v') :
  Weak G [v] H [v'] (H.del j):=
 Weak.freeze hj hsz (Nat.le_refl _) (by simp[AHeap.get_del]) (fun i=>by
  by_cases h:i=j
  ·exact .inr (.inl (by simp[AHeap.get_del,h]))
  ·cases hg:H.get i with
   | none=>exact .inr (.inl (by simp[AHeap.get_del,h,hg]))
   | some o=>exact .inr (.inr ⟨o,o,rfl,by simp[AHeap.get_del,h,hg],.same o⟩)) ⟨hv,trivial⟩
theorem Weak.treeNil (G:Nat→Option (List AV)) (e:Nat) (J:AHeap):Weak G [.tup [.agg [.nils],.int .i64 e]] J [treeA (.error e)] J:=
 Weak.nilLst ⟨.tup' ⟨.agg' ⟨.nil _ rfl,trivial⟩,.same _,trivial⟩,trivial⟩
def HtAt (text:List UInt8) (H:AHeap) (rid:Nat) (x:HSt × Nat × Nat × AHeap):Prop:=
 RdrAt x.2.2.2 rid x.2.1 x.2.2.1 x.1∧readHL x.1=eventsHS text∧x.1.l.length+2*x.1.s.length≤2*text.length∧x.1.opens.length+x.1.s.length≤text.length∧(∀e∈x.1.l,EvB 1048576 e) ∧
 x.2.2.2.get H.next=some (.cells 25 [.nils])∧x.2.2.2.get (H.next+1)=some (.cells 26 [.int .i64 0])∧H.next+1<rid∧H.next+1<x.2.1∧H.next+1<x.2.2.1∧∀j,j<H.next→x.2.2.2.get j=H.get j
set_option maxHeartbeats 8000000 in
set_option maxRecDepth 100000 in
theorem h_html_ok {G:Nat→Option (List AV)} (E:Env G) (B:EnvB G) (P:EnvP G) (X:EnvH G) (hBuild:BuildOk G) (text:List UInt8) (H:AHeap) :
  ACalls Tryz.prog G 9 [.str text] H fun r H'=>r = .ret (treeA (htmlS text))∧Kept H H':=by
 refine ACalls.wf fun wf=>?_
 refine ACalls.ret (ACalls.of_defer Tryz.func9 S9_eq B24 R9 N9 rfl rfl ?_)
 have b1:(H.next=H.next+1)=False:=by simp
 have b2:(H.next+1=H.next)=False:=by simp
 by_cases hlong:1048576<text.length
 ·have d1:decide ((text.length:Int)>1048576)=true:=by simp;omega
  have hR:htmlS text = .error 2:=by unfold htmlS;rw[if_pos hlong]
  simp (maxSteps:=400000) only[wF,storeA,reduceCtorEq,Nat.reduceAdd,Nat.reduceSub,Nat.reduceEqDiff,Nat.reduceLeDiff,Int.reduceToNat,Int.reduceLE,Int.reduceLT,Int.reduceAdd,Int.reduceNeg,Nat.reduceMul,N9,R9,T9,d1,b1,b2,buildA,fillA,AV.boxable]
  refine⟨_,_,Weak.treeNil G 2 _,by rw[hR],by simp only[AHeap.next_set,AHeap.next_allocAt];omega,fun j hj=>?_⟩
  rw[AHeap.get_set_ne _ _ (by omega),AHeap.get_set_ne _ _ (by omega),AHeap.get_allocAt_ne _ _ (by omega),AHeap.get_allocAt_ne _ _ (by omega)]
 have d1:decide ((text.length:Int)>1048576)=false:=by simp;omega
 simp (maxSteps:=400000) only[wF,storeA,reduceCtorEq,Nat.reduceAdd,Nat.reduceSub,Nat.reduceEqDiff,Nat.reduceLeDiff,Int.reduceToNat,Int.reduceLE,Int.reduceLT,Int.reduceAdd,Int.reduceNeg,Nat.reduceMul,N9,R9,T9,d1,b1,b2]
 generalize hX0:AHeap.allocAt _ (H.next+1) _=X0
 have t0:X0.get H.next=some (.cells 25 [.nils]):=by rw[←hX0,AHeap.get_allocAt_ne _ _ (by omega),AHeap.get_allocAt_same]
 have t1:X0.get (H.next+1)=some (.cells 26 [.int .i64 0]):=by rw[←hX0,AHeap.get_allocAt_same]
 have xn0:X0.next=H.next+2:=by rw[←hX0];simp only[AHeap.next_allocAt];omega
 have xo0:∀j,j<H.next→X0.get j=H.get j:=fun j hj=>by rw[←hX0,AHeap.get_allocAt_ne _ _ (by omega),AHeap.get_allocAt_ne _ _ (by omega)]
 clear hX0
 refine AInv.pureK B23 (isText_ok E (by omega)) fun H1 h1=>?_
 have m1:=h1.1
 have s0:=(congrFun h1.2 _).trans t0
 have s1:=(congrFun h1.2 _).trans t1
 cases hT:isTextS text with
 | false=>
  have hR:htmlS text = .error 10:=by unfold htmlS;rw[if_neg hlong,hT,if_pos rfl]
  simp (maxSteps:=400000) only[wF,storeA,reduceCtorEq,Nat.reduceAdd,Nat.reduceSub,Nat.reduceEqDiff,Nat.reduceLeDiff,Int.reduceToNat,Int.reduceLE,Int.reduceLT,Int.reduceAdd,Int.reduceNeg,Nat.reduceMul,N9,R9,T9,Bool.not_false,b1,b2,s0,s1,buildA,fillA,AV.boxable]
  refine⟨_,_,Weak.treeNil G 10 _,by rw[hR],by simp only[AHeap.next_set];omega,fun j hj=>?_⟩
  rw[AHeap.get_set_ne _ _ (by omega),AHeap.get_set_ne _ _ (by omega),h1.2]
  exact xo0 j hj
 | true=>
 have hR:htmlS text=match eventsHS text with
   | .error e => .error e
   | .ok l=>buildS l:=by unfold htmlS;rw[if_neg hlong,hT,if_neg (by simp)];rfl
 simp (maxSteps:=400000) only[wF,storeA,reduceCtorEq,Nat.reduceAdd,Nat.reduceSub,Nat.reduceEqDiff,Nat.reduceLeDiff,Int.reduceToNat,Int.reduceLE,Int.reduceLT,Int.reduceAdd,Int.reduceNeg,Nat.reduceMul,N9,R9,T9,Bool.not_true]
 refine⟨(show(15:Nat)<42 by omega),AInv.pureK X.trimB (X.trim _ _) fun H2 h2=>?_⟩
 have m2:=h2.1
 have htl:=Lib.trimPrefix_le text sDoct
 have hEv:eventsHS text=readHL ⟨Lib.trimPrefix text sDoct,[],[]⟩:=rfl
 unfold sDoct at htl hEv
 generalize Lib.trimPrefix text [60,33,68,79,67,84,89,80,69,32,104,116,109,108,62,10]=u at htl hEv ⊢
 simp (maxSteps:=400000) only[wF,storeA,reduceCtorEq,Nat.reduceAdd,Nat.reduceSub,Nat.reduceEqDiff,Nat.reduceLeDiff,Int.reduceToNat,Int.reduceLE,Int.reduceLT,Int.reduceAdd,Int.reduceNeg,Nat.reduceMul,T9,buildA,fillA,AV.boxable]
 generalize hX3:AHeap.allocAt H2 H2.next _=X3
 have rr:X3.get H2.next=some (.cells 57 [.str u,.nils,.nils]):=by rw[←hX3,AHeap.get_allocAt_same]
 have xn3:X3.next=H2.next+1:=by rw[←hX3];simp only[AHeap.next_allocAt];omega
 have xo3:∀j,j<H2.next→X3.get j=H2.get j:=fun j hj=>by rw[←hX3,AHeap.get_allocAt_ne _ _ (by omega)]
 clear hX3
 obtain⟨Y1,w1,ya,yb,yn,yo⟩:=Weak.h_nilField G [.str u,.slc X3.next 0,.nils] rr (by omega) 88 6 ⟨.same _,.nil _ rfl,.same _,trivial⟩
 obtain⟨Y2,w2,za,zb,zn,zo⟩:=Weak.h_nilField G [.str u,.slc X3.next 0,.slc Y1.next 0] ya (by omega) 9 1 ⟨.same _,.same _,.nil _ rfl,trivial⟩
 have hfr:∀j,j<H2.next→Y2.get j=H2.get j:=fun j hj=>by rw[zo j (by omega) (by omega),yo j (by omega) (by omega),xo3 j hj]
 refine ATrS.weak ((w1 _).trans (w2 _)) (ATrS.loopK (κ:=HSt × Nat × Nat × AHeap) (fun x=>[.und,.und,.ptr H.next 0,.ptr (H.next+1) 0,.ptr H2.next 0]++List.replicate 37 .und) (fun x=>x.2.2.2)
  (HtAt text H H2.next) (fun x=>x.1.s.length) ⟨(⟨u,[],[]⟩,X3.next,Y1.next,Y2),⟨⟨za,?_,zb,by simp only;omega,by simp only;omega,by simp only;omega,by simp only;omega,by simp only;omega,by simp only;omega⟩,hEv.symm,by simp only[List.length_nil];omega,by simp only[List.length_nil];omega,by simp,?_,?_,by omega,by simp only;omega,by simp only;omega,fun j hj=>?_⟩,by simp[Fg],HW.refl _⟩ ?_)
 ·show Y2.get X3.next=_
  rw[zo _ (by omega) (by omega)]
  exact yb
 ·simp only;rw[hfr _ (by omega),h2.2];exact s0
 ·simp only;rw[hfr _ (by omega),h2.2];exact s1
 ·simp only;rw[hfr _ (by omega),h2.2,h1.2];exact xo0 j hj
 clear hfr w1 w2 ya yb za zb yo zo rr
 rintro⟨h,kl,ko,J⟩ ⟨hr,hrd,hl,ho,hev,gt,ge,g1,g2,g3,gf⟩
 simp only at hr hrd hl ho hev gt ge g1 g2 g3 gf
 have hst:=readHL_step h
 rw[hrd]at hst
 have hr0:=hr
 obtain⟨a1,a2,a3,a4,a5,a6,a7,a8,a9⟩:=hr
 by_cases hne:h.s=[]
 case neg=>
  have hse:(h.s==[])=false:=by simpa using hne
  rw[if_neg hne]at hst
  simp (maxSteps:=400000) only[wF,storeA,reduceCtorEq,Nat.reduceAdd,Nat.reduceSub,Nat.reduceEqDiff,Nat.reduceLeDiff,Int.reduceToNat,Int.reduceLE,Int.reduceLT,Int.reduceAdd,Int.reduceNeg,Nat.reduceMul,T9,a1,hse,Bool.not_false]
  refine AInv.retK B25 (h_piece_ok E B P X hr0 (by omega) hne (by omega) (by omega) fun x hx=>by have:=(hev x hx).1;omega) (fun v J1 hq=>?_) (fun v J1 hq=>?_)
  ·cases hp:pieceHS h with
   | error e=>rw[hp]at hq;cases hq.1
   | ok h'=>
    rw[hp]at hq hst
    simp only at hst
    obtain⟨-,kl',ko',r1,k1⟩:=hq
    have hless:=pieceHS_less hne hp
    have hevb:=pieceHS_EvB hp
    simp (maxSteps:=400000) only[wF,storeA,reduceCtorEq,Nat.reduceAdd,Nat.reduceSub,Nat.reduceEqDiff,Nat.reduceLeDiff,Int.reduceToNat,Int.reduceLE,Int.reduceLT,Int.reduceAdd,Int.reduceNeg,Nat.reduceMul,T9]
    refine⟨(h',kl',ko',J1),⟨r1,hst.symm,by simp only;omega,by simp only;omega,fun x hx=>?_,?_,?_,g1,?_,?_,fun j hj=>?_⟩,hless.1,by simp[Fg],HW.refl _⟩
    ·rcases hevb x hx with hx | hx
     ·exact hev x hx
     ·exact hx.mono (by omega)
    ·exact(k1.2.2.2 _ (by omega) (by omega) (by omega) (by omega)).trans gt
    ·exact(k1.2.2.2 _ (by omega) (by omega) (by omega) (by omega)).trans ge
    ·rcases k1.2.1 with e | e
     ·simp only;omega
     ·simp only;omega
    ·rcases k1.2.2.1 with e | e
     ·simp only;omega
     ·simp only;omega
    ·exact(k1.2.2.2 _ (by omega) (by omega) (by omega) (by omega)).trans (gf j hj)
  ·cases hp:pieceHS h with
   | ok h'=>
    rw[hp]at hq
    obtain⟨⟨_,hh⟩,_⟩:=hq
    cases hh
   | error e=>
    rw[hp]at hq hst
    simp only at hst
    obtain⟨hv,n2,f2⟩:=hq
    cases hv
    simp (maxSteps:=400000) only[wF,storeA,reduceCtorEq,Nat.reduceAdd,Nat.reduceSub,Nat.reduceEqDiff,Nat.reduceLeDiff,Int.reduceToNat,Int.reduceLE,Int.reduceLT,Int.reduceAdd,Int.reduceNeg,Nat.reduceMul,T9,deferA]
    refine h_closure_ok G ((f2 _ (by omega) (by omega) (by omega) (by omega)).trans gt) ((f2 _ (by omega) (by omega) (by omega) (by omega)).trans ge) (by omega) (by omega) (by omega) ?_
    intro H' c1 c2 c3 c4
    simp (maxSteps:=400000) only[wF,storeA,reduceCtorEq,Nat.reduceAdd,Nat.reduceSub,Nat.reduceEqDiff,Nat.reduceLeDiff,Int.reduceToNat,Int.reduceLE,Int.reduceLT,Int.reduceAdd,Int.reduceNeg,Nat.reduceMul,T9,c2,c3]
    refine⟨_,_,Weak.treeNil G e _,by rw[hR,hst]<;>rfl,by omega,fun j hj=>?_⟩
    rw[c4 j (by omega) (by omega) (by omega),f2 j (by omega) (by omega) (by omega) (by omega)]
    exact gf j hj
 case pos=>
  have hse:(h.s==[])=true:=by simpa using hne
  rw[if_pos hne]at hst
  by_cases hop:h.opens=[]
  case neg=>
   rw[if_neg hop]at hst
   have hol:h.opens.length≠0:=fun e=>hop (List.length_eq_zero_iff.1 e)
   have d2:decide ((h.opens.length:Int)>0)=true:=by simp;omega
   simp (maxSteps:=400000) only[wF,storeA,reduceCtorEq,Nat.reduceAdd,Nat.reduceSub,Nat.reduceEqDiff,Nat.reduceLeDiff,Int.reduceToNat,Int.reduceLE,Int.reduceLT,Int.reduceAdd,Int.reduceNeg,Nat.reduceMul,T9,a1,hse,Bool.not_true,d2,buildA,fillA,ifaceA,AV.boxable,deferA]
   refine h_closure_ok G (e:=110) gt ge (by omega) (by omega) (by omega) ?_
   intro H' c1 c2 c3 c4
   simp (maxSteps:=400000) only[wF,storeA,reduceCtorEq,Nat.reduceAdd,Nat.reduceSub,Nat.reduceEqDiff,Nat.reduceLeDiff,Int.reduceToNat,Int.reduceLE,Int.reduceLT,Int.reduceAdd,Int.reduceNeg,Nat.reduceMul,T9,c2,c3]
   refine⟨_,_,Weak.treeNil G 110 _,by rw[hR,hst]<;>rfl,by omega,fun j hj=>?_⟩
   rw[c4 j (by omega) (by omega) (by omega)]
   exact gf j hj
  case pos=>
   rw[if_pos hop]at hst
   have d2:decide ((h.opens.length:Int)>0)=false:=by rw[hop];rfl
   rw[hst]at hR
   simp only at hR
   simp (maxSteps:=400000) only[wF,storeA,reduceCtorEq,Nat.reduceAdd,Nat.reduceSub,Nat.reduceEqDiff,Nat.reduceLeDiff,Int.reduceToNat,Int.reduceLE,Int.reduceLT,Int.reduceAdd,Int.reduceNeg,Nat.reduceMul,T9,a1,hse,Bool.not_true,d2]
   refine AInv.retK B17 (ACalls.weak (Weak.h_freezeVal G a2 (by omega) (.slc _ _ rfl)) (hBuild h.l _ (by omega) fun x hx=>(hev x hx).mono (by omega))) (fun v J1 hq=>?_) (fun v J1 hq=>by cases hq.1)
   obtain⟨hv,k1⟩:=hq
   cases hv
   have n1:=k1.1
   simp only[AHeap.next_del]at n1
   have f1:∀j,j<J.next→j≠kl→J1.get j=J.get j:=fun j j1 j2=>by rw[k1.2 j (by simp only[AHeap.next_del];omega),AHeap.get_del_ne _ j2]
   have gt1:=(f1 _ (by omega) (by omega)).trans gt
   have ge1:=(f1 _ (by omega) (by omega)).trans ge
   have gf1:∀j,j<H.next→J1.get j=H.get j:=fun j hj=>(f1 j (by omega) (by omega)).trans (gf j hj)
   rw[←hR]at *
   cases hO:htmlS text with
   | error e=>
    simp only[treeA]
    simp (maxSteps:=400000) only[wF,storeA,reduceCtorEq,Nat.reduceAdd,Nat.reduceSub,Nat.reduceEqDiff,Nat.reduceLeDiff,Int.reduceToNat,Int.reduceLE,Int.reduceLT,Int.reduceAdd,Int.reduceNeg,Nat.reduceMul,T9,gt1,ge1,b1,b2,AV.boxable,deferA]
    refine h_closure_nil G ?_
    simp (maxSteps:=400000) only[wF,storeA,reduceCtorEq,Nat.reduceAdd,Nat.reduceSub,Nat.reduceEqDiff,Nat.reduceLeDiff,Int.reduceToNat,Int.reduceLE,Int.reduceLT,Int.reduceAdd,Int.reduceNeg,Nat.reduceMul,T9,b1,b2]
    refine⟨_,_,h_weak_refl G _ _,rfl,by simp only[AHeap.next_set];omega,fun j hj=>?_⟩
    rw[AHeap.get_set_ne _ _ (by omega),AHeap.get_set_ne _ _ (by omega)]
    exact gf1 j hj
   | ok l=>
    simp only[treeA]
    simp (maxSteps:=400000) only[wF,storeA,reduceCtorEq,Nat.reduceAdd,Nat.reduceSub,Nat.reduceEqDiff,Nat.reduceLeDiff,Int.reduceToNat,Int.reduceLE,Int.reduceLT,Int.reduceAdd,Int.reduceNeg,Nat.reduceMul,T9,gt1,ge1,b1,b2,AV.boxable,deferA]
    refine h_closure_nil G ?_
    simp (maxSteps:=400000) only[wF,storeA,reduceCtorEq,Nat.reduceAdd,Nat.reduceSub,Nat.reduceEqDiff,Nat.reduceLeDiff,Int.reduceToNat,Int.reduceLE,Int.reduceLT,Int.reduceAdd,Int.reduceNeg,Nat.reduceMul,T9,b1,b2]
    refine⟨_,_,h_weak_refl G _ _,rfl,by simp only[AHeap.next_set];omega,fun j hj=>?_⟩
    rw[AHeap.get_set_ne _ _ (by omega),AHeap.get_set_ne _ _ (by omega)]
    exact gf1 j hj
end Go.Ab
