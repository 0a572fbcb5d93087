/- ReparseLong's events, walked. -/
import Derived.Test.YtojncnpmlhhccaaGreatDoorHT12
import Derived.Test.YtojncnpmlhhccaaGreatDoorH4
set_option linter.all false
namespace Go.Ab
open Go Go.Lib Go.Proofs
theorem modK (w:Nat):((w:Int).tmod 3)=((w % 3:Nat):Int):=by
 rw[Int.tmod_eq_emod_of_nonneg (by omega)];omega
set_option maxHeartbeats 4000000 in
set_option maxRecDepth 100000 in
theorem hl_depth_no (G:Nat→Option (List AV)) {which:Nat} (h2:which % 3≠2) (k:Int):PureCall Tryz.prog G 18 [.int .u8 which,.int .i64 k] .nils:=by
 intro H
 refine ACalls.keep (ACalls.of Tryz.func18 S18_eq R18 N18 rfl rfl ?_)
 have z3:((3:Int)=0)=False:=by simp
 have b1:(((which % 3:Nat):Int) != 2)=true:=by simp;omega
 simp (maxSteps:=400000) only[wF,storeA,reduceCtorEq,Nat.reduceAdd,Nat.reduceSub,Nat.reduceEqDiff,Nat.reduceLeDiff,Int.reduceToNat,Int.reduceLE,Int.reduceLT,Int.reduceAdd,Int.reduceNeg,Nat.reduceMul,S18,N18,R18,T18,z3,modK,b1]
 exact⟨by omega,fun j hj=>trivial⟩
def DpAt (H:AHeap) (l:List Ev) (n:Nat) (ev:Ev) (c:Nat × Nat × AHeap):Prop:=
 c.1≤n∧c.2.2.get c.2.1=some (.row 88 6 (evsH (l++List.replicate c.1 ev)))∧c.2.1<c.2.2.next∧H.next≤c.2.1∧∀j,j<H.next→c.2.2.get j=H.get j
set_option maxHeartbeats 4000000 in
set_option maxRecDepth 100000 in
theorem hl_depth_ok (G:Nat→Option (List AV)) {which:Nat} (h2:which % 3=2) {k:Int} {n:Nat} (hn:200+k=n) (hn2:n≤1000):PureCall Tryz.prog G 18 [.int .u8 which,.int .i64 k] (.lst (n+n) (evsH (List.replicate n evB++List.replicate n evC1))):=by
 intro H
 refine ACalls.keep (ACalls.ret (ACalls.of Tryz.func18 S18_eq R18 N18 rfl rfl ?_))
 have z3:((3:Int)=0)=False:=by simp
 have b1:(((which % 3:Nat):Int) != 2)=false:=by rw[h2];rfl
 have en:IntKind.i64.wrap (200+k)=(n:Int):=by rw[wrap64]<;>omega
 simp (maxSteps:=400000) only[wF,storeA,reduceCtorEq,Nat.reduceAdd,Nat.reduceSub,Nat.reduceEqDiff,Nat.reduceLeDiff,Int.reduceToNat,Int.reduceLE,Int.reduceLT,Int.reduceAdd,Int.reduceNeg,Nat.reduceMul,S18,N18,R18,T18,z3,modK,b1,en]
 have ap:∀(l:List Ev) (c:Nat) (ev:Ev),evsH (l++List.replicate (c+1) ev)=evsH (l++List.replicate c ev)++evH ev:=fun l c ev=>by
  rw[List.replicate_succ',←List.append_assoc]
  simp only[evsH,List.flatMap_append,List.flatMap_cons,List.flatMap_nil,List.append_nil]
 have hw:∀a a',Tzs 0 (fun _=>none) (some (.slc H.next 0)) a a'→Weak G a H a' ⟨H.next+1,fun j=>if j=H.next then some (.row 88 6 [])else H.get j⟩:=fun a a' ht=>by
  refine Weak.nilRow H.next 88 6 (Nat.le_refl _) (Nat.lt_succ_self _) (by simp) (fun j=>?_) ht
  by_cases h1:j=H.next
  ·exact .inl h1
  ·cases hg:H.get j with
   | none=>exact .inr (.inl (by simp[h1,hg]))
   | some o=>exact .inr (.inr ⟨o,o,rfl,by simp[h1,hg],.same o⟩)
 refine ATrS.weak (hw _ _ (show Tzs 0 (fun _=>none) (some (.slc H.next 0)) _ (AV.int .u8 which :: .int .i64 k :: .und :: .und :: .nils :: .slc H.next 0::_)from ⟨.same _,.same _,.und _,.und _,.same _,.nil _ rfl,Tzs.refl _⟩)) ?_
 refine ATrS.loopK (κ:=Nat × Nat × AHeap) (fun c=>[.int .u8 which,.int .i64 k,.und,.und,.nils,.slc c.2.1 c.1,.und,.und,.und,.und,.int .i64 n,.int .i64 c.1]++List.replicate 16 .und) (fun c=>c.2.2)
  (DpAt H [] n evB) (fun c=>n-c.1) ⟨(0,H.next,_),⟨Nat.zero_le _,by simp[evsH],by simp,Nat.le_refl _,fun j hj=>by simp only;rw[if_neg (by omega)]⟩,by simp[Fg],HW.refl _⟩ ?_
 rintro⟨c,kl,J⟩ ⟨hc,hk,hkn,hkH,hJ⟩
 simp only at hc hk hkn hkH hJ
 by_cases hlt:c<n
 ·have d0:decide ((c:Int)<(n:Int))=true:=by simp;omega
  have ew:IntKind.i64.wrap ((c:Int)+1)=((c+1:Nat):Int):=by rw[wrap64]<;>omega
  have u1:(J.next==kl)=false:=by simp;omega
  have u2:(c+1≤maxApp)=True:=by simp[maxApp];omega
  have u3:(kl=J.next)=False:=by simp;omega
  have hlen:(evsH (List.replicate c evB)).length=c*6:=by rw[evsH_len];simp
  simp (maxSteps:=400000) only[wF,storeA,reduceCtorEq,Nat.reduceAdd,Nat.reduceSub,Nat.reduceEqDiff,Nat.reduceLeDiff,Int.reduceToNat,Int.reduceLE,Int.reduceLT,Int.reduceAdd,Int.reduceNeg,Nat.reduceMul,T18,d0,ew,hk,u1,u2,u3,buildA,appendA,appSrc,AV.isSlc,sliceLit,fillA,zerosA,srcCells,AV.boxable,Nat.le_refl,Nat.reduceLT,h_set_set]
  refine⟨hlen,?_⟩
  generalize hZ:AHeap.allocAt _ (J.next+1) _=Z
  have z0:Z.get (J.next+1)=some (.row 88 6 (evsH ([]++List.replicate (c+1) evB))):=by rw[←hZ,AHeap.get_allocAt_same,ap];rfl
  have zn:J.next+1<Z.next:=by rw[←hZ];simp only[AHeap.next_allocAt,AHeap.next_del];omega
  have zo:∀j,j<H.next→Z.get j=H.get j:=fun j hj=>by
   rw[←hZ,AHeap.get_allocAt_ne _ _ (by omega),AHeap.get_del_ne _ (by omega),AHeap.get_allocAt_ne _ _ (by omega)]
   exact hJ j hj
  exact⟨(c+1,J.next+1,Z),⟨hlt,z0,zn,by simp only;omega,zo⟩,by simp only;omega,by simp[Fg],HW.refl _⟩
 ·have d0:decide ((c:Int)<(n:Int))=false:=by simp;omega
  have hcn:c=n:=by omega
  subst hcn
  simp (maxSteps:=400000) only[wF,storeA,reduceCtorEq,Nat.reduceAdd,Nat.reduceSub,Nat.reduceEqDiff,Nat.reduceLeDiff,Int.reduceToNat,Int.reduceLE,Int.reduceLT,Int.reduceAdd,Int.reduceNeg,Nat.reduceMul,T18,d0,en]
  refine ATrS.loopK (κ:=Nat × Nat × AHeap) (fun x=>[.und,.und,.und,.und,.nils,.slc x.2.1 (c+x.1)]++List.replicate 13 .und++[.int .i64 c,.int .i64 x.1]++List.replicate 7 .und) (fun x=>x.2.2)
   (DpAt H (List.replicate c evB) c evC1) (fun x=>c-x.1) ⟨(0,kl,J),⟨Nat.zero_le _,by simp only[List.replicate_zero,List.append_nil];exact hk,hkn,hkH,hJ⟩,by simp[Fg],HW.refl _⟩ ?_
  clear hk hkn hkH hJ
  rintro⟨m,kl,J⟩ ⟨hc,hk,hkn,hkH,hJ⟩
  simp only at hc hk hkn hkH hJ
  by_cases hlt:m<c
  ·have d0:decide ((m:Int)<(c:Int))=true:=by simp;omega
   have ew:IntKind.i64.wrap ((m:Int)+1)=((m+1:Nat):Int):=by rw[wrap64]<;>omega
   have u1:(J.next==kl)=false:=by simp;omega
   have u2:(c+m+1≤maxApp)=True:=by simp[maxApp];omega
   have u3:(kl=J.next)=False:=by simp;omega
   have hlen:(evsH (List.replicate c evB++List.replicate m evC1)).length=(c+m)*6:=by rw[evsH_len];simp
   simp (maxSteps:=400000) only[wF,storeA,reduceCtorEq,Nat.reduceAdd,Nat.reduceSub,Nat.reduceEqDiff,Nat.reduceLeDiff,Int.reduceToNat,Int.reduceLE,Int.reduceLT,Int.reduceAdd,Int.reduceNeg,Nat.reduceMul,T18,d0,ew,hk,u1,u2,u3,buildA,appendA,appSrc,AV.isSlc,sliceLit,fillA,zerosA,srcCells,AV.boxable,Nat.le_refl,Nat.reduceLT,hlen,h_set_set]
   generalize hZ:AHeap.allocAt _ (J.next+1) _=Z
   have z0:Z.get (J.next+1)=some (.row 88 6 (evsH (List.replicate c evB++List.replicate (m+1) evC1))):=by rw[←hZ,AHeap.get_allocAt_same,ap];rfl
   have zn:J.next+1<Z.next:=by rw[←hZ];simp only[AHeap.next_allocAt,AHeap.next_del];omega
   have zo:∀j,j<H.next→Z.get j=H.get j:=fun j hj=>by
    rw[←hZ,AHeap.get_allocAt_ne _ _ (by omega),AHeap.get_del_ne _ (by omega),AHeap.get_allocAt_ne _ _ (by omega)]
    exact hJ j hj
   exact⟨(m+1,J.next+1,Z),⟨hlt,z0,zn,by simp only;omega,zo⟩,by simp only;omega,by simp[Fg];omega,HW.refl _⟩
  ·have d0:decide ((m:Int)<(c:Int))=false:=by simp;omega
   have hcm:m=c:=by omega
   subst hcm
   simp (maxSteps:=400000) only[wF,storeA,reduceCtorEq,Nat.reduceAdd,Nat.reduceSub,Nat.reduceEqDiff,Nat.reduceLeDiff,Int.reduceToNat,Int.reduceLE,Int.reduceLT,Int.reduceAdd,Int.reduceNeg,Nat.reduceMul,T18,d0]
   refine⟨_,_,Weak.h_freezeVal G (j:=kl) (e:=88) (size:=6) (cs:=evsH (List.replicate m evB++List.replicate m evC1)) hk (by omega) (v' := .lst (m+m) (evsH (List.replicate m evB++List.replicate m evC1))) (.slc _ _ rfl),rfl,by simp only[AHeap.next_del];omega,fun j hj=>?_⟩
   rw[AHeap.get_del_ne _ (by omega)]
   exact hJ j hj
end Go.Ab
