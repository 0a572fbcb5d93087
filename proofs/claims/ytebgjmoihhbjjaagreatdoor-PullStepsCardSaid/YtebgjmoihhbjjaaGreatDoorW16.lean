/- Events, walked. -/
import Derived.Test.YtebgjmoihhbjjaaGreatDoorW15
set_option linter.all false
namespace Go.Ab
open Go Go.Lib Go.Proofs
def EventPost (r:Except Wrong (Option (Ev × Nat) × Pst)) (H:AHeap) (pid ko:Nat) (s:List UInt8) (p:Pst) (l0 l1 l2 s0 s1 s2 er:AV) (x:ARes) (H':AHeap):Prop:=
 match r with
 | .ok (some (ev,n),q)=>x = .ret (.tup [evA ev,.int .i64 n,.bool true])∧EmNew H pid H'∧∃ko',PAt H' pid ko' s q l0 l1 l2 s0 s1 s2 er∧PKeep H pid ko ko' H'
 | .ok (none,q)=>x = .ret (.tup [evA noEv,.int .i64 0,.bool false])∧∃ko',PAt H' pid ko' s q l0 l1 l2 s0 s1 s2 er∧PKeep H pid ko ko' H'
 | .error w=>x = .pan (wrongA w)∧∃i,PAt H' pid ko s ⟨i,p.opens,p.any,none⟩ l0 l1 l2 s0 s1 s2 er∧PKeep H pid ko ko H'
theorem Weak.refl (G:Nat→Option (List AV)) (a:List AV) (H:AHeap):Weak G a H a H:=fun C _ R hH=>⟨C,hH,R,Adv.refl C _,fun _ h=>h⟩
theorem Weak.evNil3 (G:Nat→Option (List AV)) (k:Int) (a b:List UInt8) (n:Int) (o:Bool) (J:AHeap) :
  Weak G [.tup [.agg [.int .i64 k,.str a,.str b,.nils,.int .i64 0,.int .i64 0],.int .i64 n,.bool o]] J [.tup [.agg [.int .i64 k,.str a,.str b,.lst 0 [],.int .i64 0,.int .i64 0],.int .i64 n,.bool o]] J:=
 Weak.nilLst ⟨.tup' ⟨.agg' ⟨.same _,.same _,.same _,.nil _ rfl,.same _,.same _,trivial⟩,.same _,.same _,trivial⟩,trivial⟩
theorem rowF_true {s:List UInt8} {top:Bool}:∀(f i:Nat) (acc:List UInt8) (x),rowF f top s i acc true = .ok x→x.2.1=true
 | 0,i,acc,x,h=>by
  simp only[rowF,Except.ok.injEq]at h
  subst h
  rfl
 | f+1,i,acc,x,h=>by
  simp only[rowF]at h
  split at h
  case isFalse=>cases h;rfl
  split at h
  ·split at h
   ·cases h
   ·exact rowF_true f _ _ _ h
  split at h
  ·cases h;rfl
  ·split at h
   ·cases h
   ·exact rowF_true f _ _ _ h
theorem rowF_false {s:List UInt8} {top:Bool}:∀(f i:Nat) (acc:List UInt8) (x),rowF f top s i acc false = .ok x→x.2.1=false→x.2.2=i
 | 0,i,acc,x,h,_=>by
  simp only[rowF,Except.ok.injEq]at h
  subst h
  rfl
 | f+1,i,acc,x,h,hx=>by
  simp only[rowF]at h
  split at h
  case isFalse=>cases h;rfl
  split at h
  ·split at h
   ·cases h
   ·have:=rowF_true f _ _ _ h
    rw[this]at hx
    cases hx
  split at h
  ·cases h;rfl
  ·split at h
   ·cases h
   ·have:=rowF_true f _ _ _ h
    rw[this]at hx
    cases hx
theorem pieceS_empty {s:List UInt8} {p q:Pst} {x:Ev} (h:pieceS s p = .ok (x,q)) (hp:p.empty=none) (e:Ev) (he:q.empty=some e):e.kind=1:=by
 unfold pieceS at h
 split at h
 ·cases h
  simp[hp]at he
 split at h
 ·cases h
  simp[hp]at he
 split at h
 ·split at h
  ·cases h
   simp[hp]at he
  ·cases h
 split at h
 ·cases h
 ·split at h
  ·cases h
  split at h
  ·cases h
  split at h
  ·cases h
  cases h
  split at he
  ·simp only[Option.some.injEq]at he
   subst he
   rfl
  ·simp[hp]at he
def EvAt (R:Except Wrong (Option (Ev × Nat) × Pst)) (s:List UInt8) (H:AHeap) (pid ko:Nat) (opens:List (List UInt8)) (any:Bool) (l0 l1 l2 s0 s1 s2 er:AV) (x:Nat × AHeap):Prop:=
 x.1≤s.length∧eventL s ⟨x.1,opens,any,none⟩=R∧PAt x.2 pid ko s ⟨x.1,opens,any,none⟩ l0 l1 l2 s0 s1 s2 er ∧
 x.2.get H.next=some (.cells 39 [.int .i64 0,.str [],.str [],.nils,.int .i64 0,.int .i64 0])∧H.next<x.2.next∧∀j,j<H.next→j≠pid→x.2.get j=H.get j
set_option maxRecDepth 100000 in
set_option maxHeartbeats 2000000 in
theorem event_ok {G:Nat→Option (List AV)} (E:Env G) (B:EnvB G) (P:EnvP G) {H:AHeap} {s:List UInt8} {pid ko:Nat} {p:Pst} {l0 l1 l2 s0 s1 s2 er:AV}
  (hp:PAt H pid ko s p l0 l1 l2 s0 s1 s2 er) (hi:p.i≤s.length) (hs:s.length≤400000000) (hem:p.empty=none) (hol:p.opens.length≤1000) :
  ACalls Tryz.prog G 35 [.ptr pid 0] H (EventPost (eventS s p) H pid ko s p l0 l1 l2 s0 s1 s2 er):=by
 refine ACalls.wf fun wf=>?_
 have hp':=hp
 obtain⟨hpk,⟨em,hpo,hem'⟩,hro⟩:=hp
 rw[hem]at hem'
 have hem':em = .nilp:=hem'
 subst hem'
 have hpn:=wf _ _ hpo
 have hkn:=wf _ _ hro
 obtain⟨i,opens,any,empty⟩:=p
 simp only at hem hpo hro hi hol
 subst hem
 refine ACalls.ret (ACalls.of Tryz.func35 S35_eq R35 N35 rfl rfl ?_)
 have hne0:(pid=H.next)=False:=by simp;omega
 have hne0':(H.next=pid)=False:=by simp;omega
 simp (maxSteps:=400000) only[wF,storeA,reduceCtorEq,Nat.reduceAdd,Nat.reduceSub,Nat.reduceEqDiff,Nat.reduceLeDiff,Int.reduceToNat,Int.reduceLE,Int.reduceLT,Int.reduceAdd,Int.reduceNeg,Nat.reduceMul,S35,N35,R35,T35,hpo,hne0]
 generalize hH0:H.allocAt H.next _=H0
 have g0:H0.get H.next=some (.cells 39 [.int .i64 0,.str [],.str [],.nils,.int .i64 0,.int .i64 0]):=by rw[←hH0];simp
 have n0:H0.next=H.next+1:=by rw[←hH0];simp[AHeap.next_allocAt]
 have f0:∀j,j<H.next→H0.get j=H.get j:=fun j hj=>by rw[←hH0,AHeap.get_allocAt_ne _ _ (by omega)]
 refine AInv.pureK B61 (declaration_ok E (by omega)) fun H1 h1=>?_
 have g1:=g0
 rw[←h1.2]at g1
 have n1:=h1.1
 have f1:∀j,j<H.next→H1.get j=H.get j:=fun j hj=>by rw[h1.2];exact f0 j hj
 have p1:=(f1 pid hpn).trans hpo
 have r1:=(f1 ko hkn).trans hro
 have hE:eventS s ⟨i,opens,any,none⟩=if i=0∧declS s≠0 then(if declS s<0 then .error ⟨0,5⟩else eventL s ⟨(declS s).toNat,opens,any,none⟩)else eventL s ⟨i,opens,any,none⟩:=rfl
 by_cases hi0:i=0∧declS s≠0∧declS s<0
 ·obtain⟨hi0,hd0,hneg⟩:=hi0
  rw[if_pos ⟨hi0,hd0⟩,if_pos hneg]at hE
  have e0:((i:Int)==0)=true:=by simp[hi0]
  have e1:(declS s != 0)=true:=by simp[hd0]
  have d1:decide (declS s<0)=true:=decide_eq_true hneg
  simp (maxSteps:=400000) only[wF,storeA,reduceCtorEq,Nat.reduceAdd,Nat.reduceSub,Nat.reduceEqDiff,Nat.reduceLeDiff,Int.reduceToNat,Int.reduceLE,Int.reduceLT,Int.reduceAdd,Int.reduceNeg,Nat.reduceMul,T35,p1,e0,e1,d1,buildA,fillA,ifaceA,AV.boxable]
  rw[hE]
  exact⟨rfl,i,⟨hpk,⟨.nilp,p1,rfl⟩,r1⟩,.inl rfl,by omega,fun j h1 h2 h3=>f1 j h1⟩
 have hthree:(i=0∧declS s≠0∧¬declS s<0)∨(i=0∧declS s=0)∨¬i=0:=by
  by_cases h1:i=0
  ·by_cases h2:declS s=0
   ·exact .inr (.inl ⟨h1,h2⟩)
   ·exact .inl ⟨h1,h2,fun h3=>hi0 ⟨h1,h2,h3⟩⟩
  ·exact .inr (.inr h1)
 clear hi0
 rcases hthree with ⟨hi0,hd0,hneg⟩ | ⟨hi0,hd0⟩ | hi0
 case' inl=>
  rw[if_pos ⟨hi0,hd0⟩,if_neg hneg]at hE
  have e0:((i:Int)==0)=true:=by simp[hi0]
  have e1:(declS s != 0)=true:=by simp[hd0]
  have d1:decide (declS s<0)=false:=decide_eq_false hneg
  have hb:=declS_bound (s:=s) (by omega)
  obtain⟨dd,hdd⟩:∃dd:Nat,declS s=dd:=⟨(declS s).toNat,by omega⟩
  rw[hdd]at hb hE e1 d1 ⊢
  rw[Int.toNat_natCast]at hb hE
  simp (maxSteps:=400000) only[wF,storeA,reduceCtorEq,Nat.reduceAdd,Nat.reduceSub,Nat.reduceEqDiff,Nat.reduceLeDiff,Int.reduceToNat,Int.reduceLE,Int.reduceLT,Int.reduceAdd,Int.reduceNeg,Nat.reduceMul,T35,p1,e0,e1,d1]
  have hstart:EvAt (eventS s ⟨i,opens,any,none⟩) s H pid ko opens any l0 l1 l2 s0 s1 s2 er (dd,H1.set pid (.cells 54 [.str s,.int .i64 dd,l0,l1,l2,s0,s1,s2,.slc ko opens.length,.bool any,.nilp,er])):=
   ⟨hb,hE.symm,⟨hpk,⟨.nilp,by simp,rfl⟩,by simp only;rw[AHeap.get_set_ne _ _ (Ne.symm hpk)];exact r1⟩,by simp only;rw[AHeap.get_set_ne _ _ (by omega)];exact g1,by simp only[AHeap.next_set];omega,fun j h1 h2=>by simp only;rw[AHeap.get_set_ne _ _ h2];exact f1 j h1⟩
 case' inr.inl=>
  rw[if_neg (fun h=>h.2 hd0)]at hE
  have e0:((i:Int)==0)=true:=by simp[hi0]
  have e1:(declS s != 0)=false:=by simp[hd0]
  simp (maxSteps:=400000) only[wF,storeA,reduceCtorEq,Nat.reduceAdd,Nat.reduceSub,Nat.reduceEqDiff,Nat.reduceLeDiff,Int.reduceToNat,Int.reduceLE,Int.reduceLT,Int.reduceAdd,Int.reduceNeg,Nat.reduceMul,T35,p1,e0,e1]
  have hstart:EvAt (eventS s ⟨i,opens,any,none⟩) s H pid ko opens any l0 l1 l2 s0 s1 s2 er (i,H1):=
   ⟨hi,hE.symm,⟨hpk,⟨.nilp,p1,rfl⟩,r1⟩,g1,by simp only;omega,fun j h1 h2=>f1 j h1⟩
 case' inr.inr=>
  rw[if_neg (fun h=>hi0 h.1)]at hE
  have e0:((i:Int)==0)=false:=by simp;omega
  simp (maxSteps:=400000) only[wF,storeA,reduceCtorEq,Nat.reduceAdd,Nat.reduceSub,Nat.reduceEqDiff,Nat.reduceLeDiff,Int.reduceToNat,Int.reduceLE,Int.reduceLT,Int.reduceAdd,Int.reduceNeg,Nat.reduceMul,T35,p1,e0]
  have hstart:EvAt (eventS s ⟨i,opens,any,none⟩) s H pid ko opens any l0 l1 l2 s0 s1 s2 er (i,H1):=
   ⟨hi,hE.symm,⟨hpk,⟨.nilp,p1,rfl⟩,r1⟩,g1,by simp only;omega,fun j h1 h2=>f1 j h1⟩
 all_goals
  refine ATrS.loopK (κ:=Nat × AHeap) (fun x=>[.ptr pid 0,.und,.ptr H.next 0,.int .i64 0,.bool false]++List.replicate 76 .und) (fun x=>x.2)
   (EvAt (eventS s ⟨i,opens,any,none⟩) s H pid ko opens any l0 l1 l2 s0 s1 s2 er) (fun x=>s.length-x.1) ⟨_,hstart,by simp[Fg],HW.refl _⟩ ?_
  clear hstart
  rintro⟨x,J⟩ ⟨hx,hv,⟨_,⟨em,jp,hem⟩,jk⟩,gJ,nJ,fJ⟩
  simp only at hx hv jp jk gJ nJ fJ
  have hem:em = .nilp:=hem
  subst hem
  have hst:=eventL_step s ⟨x,opens,any,none⟩
  rw[hv]at hst
  have hne6:(H.next=pid)=False:=by simp;omega
  simp (maxSteps:=400000) only[wF,storeA,reduceCtorEq,Nat.reduceAdd,Nat.reduceSub,Nat.reduceEqDiff,Nat.reduceLeDiff,Int.reduceToNat,Int.reduceLE,Int.reduceLT,Int.reduceAdd,Int.reduceNeg,Nat.reduceMul,T35]
  refine drawW_fixed mixedOrders L35_6_eq P35_6_eq ?_
  by_cases hlt:x<s.length
  ·have d0:decide ((x:Int)<(s.length:Int))=true:=by simp;omega
   simp only[if_pos hlt]at hst
   simp (maxSteps:=400000) only[wF,storeA,reduceCtorEq,Nat.reduceAdd,Nat.reduceSub,Nat.reduceEqDiff,Nat.reduceLeDiff,Int.reduceToNat,Int.reduceLE,Int.reduceLT,Int.reduceAdd,Int.reduceNeg,Nat.reduceMul,L35_6,T35,jp,d0]
   refine AInv.call B62 (row_ok E B P (H:=J) (an := .bool any) (em := .nilp) jp (by omega) hs) fun r J1 hq=>?_
   have htop:(opens==[])=(opens.length==0):=by cases opens<;>rfl
   rw[htop]at hst
   cases hrow:rowS (opens.length==0) s x with
   | error w=>
    rw[hrow]at hst hq
    obtain⟨hq,y,hbut⟩:=hq
    subst hq
    simp (maxSteps:=400000) only[wF,storeA,reduceCtorEq,Nat.reduceAdd,Nat.reduceSub,Nat.reduceEqDiff,Nat.reduceLeDiff,Int.reduceToNat,Int.reduceLE,Int.reduceLT,Int.reduceAdd,Int.reduceNeg,Nat.reduceMul,T35]
    rw[hst]
    have b1:=hbut.2 pid (by omega)
    rw[AHeap.get_set_same]at b1
    have b2:=hbut.2 ko (by omega)
    rw[AHeap.get_set_ne _ _ (Ne.symm hpk)]at b2
    have b3:=hbut.1
    exact⟨rfl,y,⟨hpk,⟨.nilp,b1,rfl⟩,b2.trans jk⟩,.inl rfl,by omega,fun j g1 g2 g3=>by rw[hbut.2 j (by omega),AHeap.get_set_ne _ _ g2];exact fJ j g1 g2⟩
   | ok y=>
    rw[hrow]at hst hq
    have hrb:=rowS_bound hx hrow
    have hrf:=fun h=>rowF_false (s:=s) (top:=opens.length==0) _ _ _ y hrow h
    obtain⟨row,is,j⟩:=y
    obtain⟨hq,hbut⟩:=hq
    subst hq
    simp only at hrb hrf hst
    have b1:=hbut.2 pid (by omega)
    rw[AHeap.get_set_same]at b1
    have b2:=hbut.2 ko (by omega)
    rw[AHeap.get_set_ne _ _ (Ne.symm hpk)]at b2
    have b2:=b2.trans jk
    have b3:=hbut.1
    have b4:=hbut.2 H.next (by omega)
    rw[AHeap.get_set_ne _ _ (by omega)]at b4
    have b4:=b4.trans gJ
    have b5:∀j,j<H.next→j≠pid→J1.get j=H.get j:=fun j g1 g2=>by rw[hbut.2 j (by omega),AHeap.get_set_ne _ _ g2];exact fJ j g1 g2
    simp only
    cases his:is with
    | true=>
     subst his
     have hrb2:=hrb.2.2 rfl
     rw[if_pos rfl]at hst
     by_cases hre:row=[]
     ·have dr:(row==[])=true:=by simp[hre]
      rw[if_pos hre]at hst
      simp (maxSteps:=400000) only[wF,storeA,reduceCtorEq,Nat.reduceAdd,Nat.reduceSub,Nat.reduceEqDiff,Nat.reduceLeDiff,Int.reduceToNat,Int.reduceLE,Int.reduceLT,Int.reduceAdd,Int.reduceNeg,Nat.reduceMul,T35,dr]
      exact⟨(j,J1),⟨hrb.2.1,hst.symm,⟨hpk,⟨.nilp,b1,rfl⟩,b2⟩,b4,by simp only;omega,b5⟩,by simp only;omega,by simp[Fg],HW.refl _⟩
     ·have dr:(row==[])=false:=by simp[hre]
      rw[if_neg hre]at hst
      simp (maxSteps:=400000) only[wF,storeA,reduceCtorEq,Nat.reduceAdd,Nat.reduceSub,Nat.reduceEqDiff,Nat.reduceLeDiff,Int.reduceToNat,Int.reduceLE,Int.reduceLT,Int.reduceAdd,Int.reduceNeg,Nat.reduceMul,T35,dr,b4,buildA,fillA,AV.boxable]
      refine⟨_,_,Weak.evNil3 G _ _ _ _ _ _,?_⟩
      rw[hst]
      have hgp:=(AHeap.get_set_ne J1 (.cells 39 [.int .i64 2,.str [],.str row,.nils,.int .i64 0,.int .i64 0]) (show pid≠H.next by omega)).trans b1
      refine⟨rfl,.nil hgp,ko,⟨hpk,⟨.nilp,hgp,rfl⟩,?_⟩,.inl rfl,by simp only[AHeap.next_set];omega,fun j g1 g2 g3=>?_⟩
      ·rw[AHeap.get_set_ne _ _ (by omega)];exact b2
      ·rw[AHeap.get_set_ne _ _ (by omega)];exact b5 j g1 g2
    | false=>
     subst his
     rw[if_neg (by simp)]at hst
     have hj:=hrf rfl
     subst hj
     simp (maxSteps:=400000) only[wF,storeA,reduceCtorEq,Nat.reduceAdd,Nat.reduceSub,Nat.reduceEqDiff,Nat.reduceLeDiff,Int.reduceToNat,Int.reduceLE,Int.reduceLT,Int.reduceAdd,Int.reduceNeg,Nat.reduceMul,T35]
     refine AInv.call B63 (piece_ok E B P (H:=J1) (p:=⟨j,opens,any,none⟩) ⟨hpk,⟨.nilp,b1,rfl⟩,b2⟩ hlt hs rfl hol) fun r J2 hq=>?_
     cases hpc:pieceS s ⟨j,opens,any,none⟩with
     | error w=>
      rw[hpc]at hst hq
      obtain⟨hq,hK⟩:=hq
      subst hq
      have k1:=hK.1
      simp (maxSteps:=400000) only[wF,storeA,reduceCtorEq,Nat.reduceAdd,Nat.reduceSub,Nat.reduceEqDiff,Nat.reduceLeDiff,Int.reduceToNat,Int.reduceLE,Int.reduceLT,Int.reduceAdd,Int.reduceNeg,Nat.reduceMul,T35]
      rw[hst]
      exact⟨rfl,j,⟨hpk,⟨.nilp,(hK.2 pid (by omega)).trans b1,rfl⟩,(hK.2 ko (by omega)).trans b2⟩,.inl rfl,by omega,fun j g1 g2 g3=>(hK.2 j (by omega)).trans (b5 j g1 g2)⟩
     | ok z=>
      obtain⟨x1,q⟩:=z
      rw[hpc]at hst hq
      obtain⟨hq,hnew,ko',hPA,hko,hn2,hf2⟩:=hq
      subst hq
      have c4:=(hf2 H.next (by omega) (by omega) (by omega)).trans b4
      simp only[evA]
      simp (maxSteps:=400000) only[wF,storeA,reduceCtorEq,Nat.reduceAdd,Nat.reduceSub,Nat.reduceEqDiff,Nat.reduceLeDiff,Int.reduceToNat,Int.reduceLE,Int.reduceLT,Int.reduceAdd,Int.reduceNeg,Nat.reduceMul,T35,c4]
      refine⟨_,_,Weak.refl G _ _,?_⟩
      rw[hst]
      obtain⟨p1',⟨em',p2',p3'⟩,p4'⟩:=hPA
      have ck:ko'≠H.next:=by
       rcases hko with h | h<;>omega
      refine⟨rfl,fun cs ke u1 u2=>?_,ko',⟨p1',⟨em',?_,?_⟩,?_⟩,?_,by simp only[AHeap.next_set];omega,fun j g1 g2 g3=>?_⟩
      ·rw[AHeap.get_set_ne _ _ (by omega)]at u1
       have:=hnew cs ke u1 u2
       omega
      ·rw[AHeap.get_set_ne _ _ (by omega)];exact p2'
      ·revert p3'
       unfold EmAt
       cases hqe:q.empty with
       | none=>exact id
       | some e=>
        rintro⟨h1,ke,h2,h3,h4⟩
        refine⟨h1,ke,h2,h3,?_⟩
        rw[AHeap.get_set_ne _ _ ?_]
        ·exact h4
        ·intro hke
         rw[hke,c4]at h4
         have hkd:=pieceS_empty hpc rfl e hqe
         simp only[evO,Option.some.injEq,AObj.cells.injEq,List.cons.injEq,AV.int.injEq]at h4
         omega
      ·rw[AHeap.get_set_ne _ _ ck];exact p4'
      ·rcases hko with h | h
       ·exact .inl h
       ·exact .inr (by omega)
      ·rw[AHeap.get_set_ne _ _ (by omega),hf2 j (by omega) g2 g3]
       exact b5 j g1 g2
  ·have d0:decide ((x:Int)<(s.length:Int))=false:=by simp;omega
   simp only[if_neg hlt]at hst
   cases hno:decide ((opens.length:Int)>0)with
   | true=>
    have hon:opens≠[]:=by intro h;subst h;simp at hno
    rw[if_pos (.inl hon)]at hst
    simp (maxSteps:=400000) only[wF,storeA,reduceCtorEq,Nat.reduceAdd,Nat.reduceSub,Nat.reduceEqDiff,Nat.reduceLeDiff,Int.reduceToNat,Int.reduceLE,Int.reduceLT,Int.reduceAdd,Int.reduceNeg,Nat.reduceMul,L35_6,T35,jp,d0,hno,buildA,fillA,ifaceA,AV.boxable]
    rw[hst]
    exact⟨rfl,x,⟨hpk,⟨.nilp,jp,rfl⟩,jk⟩,.inl rfl,by omega,fun j g1 g2 g3=>fJ j g1 g2⟩
   | false=>
    have hon:opens=[]:=by
     cases opens with
     | nil=>rfl
     | cons a l=>simp at hno
    cases any with
    | false=>
     rw[if_pos (.inr rfl)]at hst
     simp (maxSteps:=400000) only[wF,storeA,reduceCtorEq,Nat.reduceAdd,Nat.reduceSub,Nat.reduceEqDiff,Nat.reduceLeDiff,Int.reduceToNat,Int.reduceLE,Int.reduceLT,Int.reduceAdd,Int.reduceNeg,Nat.reduceMul,L35_6,T35,jp,d0,hno,buildA,fillA,ifaceA,AV.boxable]
     rw[hst]
     exact⟨rfl,x,⟨hpk,⟨.nilp,jp,rfl⟩,jk⟩,.inl rfl,by omega,fun j g1 g2 g3=>fJ j g1 g2⟩
    | true=>
     rw[if_neg (by simp[hon])]at hst
     simp (maxSteps:=400000) only[wF,storeA,reduceCtorEq,Nat.reduceAdd,Nat.reduceSub,Nat.reduceEqDiff,Nat.reduceLeDiff,Int.reduceToNat,Int.reduceLE,Int.reduceLT,Int.reduceAdd,Int.reduceNeg,Nat.reduceMul,L35_6,T35,jp,d0,hno,gJ,buildA,fillA,AV.boxable]
     refine⟨_,_,Weak.evNil3 G _ _ _ _ _ _,?_⟩
     rw[hst]
     refine⟨rfl,ko,⟨hpk,⟨.nilp,?_,rfl⟩,?_⟩,.inl rfl,by simp only[AHeap.next_set];omega,fun j g1 g2 g3=>?_⟩
     ·rw[AHeap.get_set_ne _ _ (by omega)];exact jp
     ·rw[AHeap.get_set_ne _ _ (by omega)];exact jk
     ·rw[AHeap.get_set_ne _ _ (by omega)];exact fJ j g1 g2
end Go.Ab
