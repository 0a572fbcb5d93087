/- Equal of two trees, walked. -/
import Derived.Test.YtojncnpmlhhccaaGreatDoorHT6
set_option linter.all false
namespace Go.Ab
open Go Go.Lib Go.Proofs
theorem T11:(fieldT Tryz.prog 25 0=some (0,23))∧(aggT Tryz.prog 23=some false)∧(szT Tryz.prog 23=some 1)∧(strT Tryz.prog 23=false)∧(mapT Tryz.prog 23=none)∧(elemT Tryz.prog 23=some 36)∧(szT Tryz.prog 36=some 4)∧(aggT Tryz.prog 36=some true) ∧
  (eqT Tryz.prog 36=some [(0,.i),(1,.s),(2,.s),(3,.i)]):=
 ⟨by kernel_rfl,by kernel_rfl,by kernel_rfl,by kernel_rfl,by kernel_rfl,by kernel_rfl,by kernel_rfl,by kernel_rfl,by kernel_rfl⟩
def ndEq (x y:Nd):Bool:=((x.kind:Int)==(y.kind:Int))&&((x.name==y.name)&&((x.text==y.text)&&(x.up==y.up)))
theorem ndEq_iff (x y:Nd):ndEq x y=true↔x=y:=by
 obtain⟨a,b,c,d⟩:=x
 obtain⟨a',b',c',d'⟩:=y
 simp only[ndEq,Bool.and_eq_true,beq_iff_eq,Nd.mk.injEq]
 constructor
 ·rintro⟨h1,h2,h3,h4⟩;exact⟨by omega,h2,h3,h4⟩
 ·rintro⟨h1,h2,h3,h4⟩;exact⟨by omega,h2,h3,h4⟩
set_option maxHeartbeats 4000000 in
set_option maxRecDepth 100000 in
theorem e_equal_ok (G:Nat→Option (List AV)) {l m:List Nd} (hl:l.length≤1000000000):PureCall Tryz.prog G 11 [.agg [.lst l.length (ndsH l)],.agg [.lst m.length (ndsH m)]] (.bool (decide (l=m))):=by
 intro H
 refine ACalls.keep (ACalls.of Tryz.func11 S11_eq R11 N11 rfl rfl ?_)
 by_cases hlm:l.length=m.length
 case neg=>
  have d0:((l.length:Int) != (m.length:Int))=true:=by simp;omega
  have u1:(H.next=H.next+1)=False:=by simp
  have u2:(H.next+1=H.next)=False:=by simp
  have hR:decide (l=m)=false:=by
   simp only[decide_eq_false_iff_not]
   rintro rfl
   exact hlm rfl
  simp (maxSteps:=400000) only[wF,storeA,reduceCtorEq,Nat.reduceAdd,Nat.reduceSub,Nat.reduceEqDiff,Nat.reduceLeDiff,Int.reduceToNat,Int.reduceLE,Int.reduceLT,Int.reduceAdd,Int.reduceNeg,Nat.reduceMul,S11,N11,R11,T11,AV.boxable,d0,u1,u2]
  refine⟨by rw[hR],by omega,fun j hj=>?_⟩
  rw[if_neg (by omega),if_neg (by omega)]
 have d0:((l.length:Int) != (m.length:Int))=false:=by simp;omega
 have u1:(H.next=H.next+1)=False:=by simp
 have u2:(H.next+1=H.next)=False:=by simp
 simp (maxSteps:=400000) only[wF,storeA,reduceCtorEq,Nat.reduceAdd,Nat.reduceSub,Nat.reduceEqDiff,Nat.reduceLeDiff,Int.reduceToNat,Int.reduceLE,Int.reduceLT,Int.reduceAdd,Int.reduceNeg,Nat.reduceMul,S11,N11,R11,T11,AV.boxable,d0,u1,u2]
 generalize hX0:AHeap.allocAt _ (H.next+1) _=X
 have x0:X.get H.next=some (.cells 25 [.lst l.length (ndsH l)]):=by rw[←hX0,AHeap.get_allocAt_ne _ _ (by omega),AHeap.get_allocAt_same]
 have x1:X.get (H.next+1)=some (.cells 25 [.lst m.length (ndsH m)]):=by rw[←hX0,AHeap.get_allocAt_same]
 have xn:X.next=H.next+2:=by rw[←hX0];simp only[AHeap.next_allocAt];omega
 have xo:∀j,j<H.next→X.get j=H.get j:=fun j hj=>by rw[←hX0,AHeap.get_allocAt_ne _ _ (by omega),AHeap.get_allocAt_ne _ _ (by omega)]
 clear hX0
 refine ATrS.loopK (κ:=Nat) (fun c=>[.und,.und,.ptr H.next 0,.ptr (H.next+1) 0,.und,.int .i64 c]++List.replicate 25 .und) (fun _=>X)
  (fun c=>c≤l.length∧l.take c=m.take c) (fun c=>l.length-c) ⟨0,⟨Nat.zero_le _,rfl⟩,by simp[Fg],HW.refl _⟩ ?_
 rintro c ⟨hc,ht⟩
 by_cases hlt:c<l.length
 ·have d1:decide ((c:Int)<(l.length:Int))=true:=by simp;omega
  have q0:((c:Int)<(l.length:Int))=True:=by simp;omega
  have q1:((c:Int)<(m.length:Int))=True:=by simp;omega
  have hat:=ndsH_at l c hlt
  have hat2:=ndsH_at m c (by omega)
  have hle:(c*4+4≤(ndsH l).length)=True:=by rw[ndsH_len];simp;omega
  have hle2:(c*4+4≤(ndsH m).length)=True:=by rw[ndsH_len];simp;omega
  have htl:l.take (c+1)=l.take c++[l[c]]:=by rw[List.take_succ,List.getElem?_eq_getElem hlt];rfl
  have htm:m.take (c+1)=m.take c++[m[c]]:=by rw[List.take_succ,List.getElem?_eq_getElem (by omega)];rfl
  have hne:l=m→l[c]=m[c]:=fun h=>by subst h;rfl
  generalize l[c]=x at hat htl hne
  generalize m[c]=y at hat2 htm hne
  simp only[ndH]at hat hat2
  have hq:=ndEq_iff x y
  unfold ndEq at hq
  have ew:IntKind.i64.wrap ((c:Int)+1)=((c+1:Nat):Int):=by rw[wrap64]<;>omega
  generalize hb:(((x.kind:Int)==(y.kind:Int))&&((x.name==y.name)&&((x.text==y.text)&&(x.up==y.up))))=b at hq
  simp (maxSteps:=400000) only[wF,storeA,reduceCtorEq,Nat.reduceAdd,Nat.reduceSub,Nat.reduceEqDiff,Nat.reduceLeDiff,Int.reduceToNat,Int.reduceLE,Int.reduceLT,Int.reduceAdd,Int.reduceNeg,Nat.reduceMul,T11,x0,d1]
  refine drawW_fixed mixedOrders L11_6_eq P11_6_eq ?_
  simp (maxSteps:=400000) only[wF,storeA,reduceCtorEq,Nat.reduceAdd,Nat.reduceSub,Nat.reduceEqDiff,Nat.reduceLeDiff,Int.reduceToNat,Int.reduceLE,Int.reduceLT,Int.reduceAdd,Int.reduceNeg,Nat.reduceMul,L11_6,T11,x0,x1,q0,q1,indexAddrA,hat,hat2,hle,hle2,eqCells,eqCell,eqNeq,hb]
  cases b with
  | false=>
   have hR:decide (l=m)=false:=by
    simp only[decide_eq_false_iff_not]
    intro h
    exact absurd (hq.2 (hne h)) (by simp)
   simp (maxSteps:=400000) only[wF,storeA,reduceCtorEq,Nat.reduceAdd,Nat.reduceSub,Nat.reduceEqDiff,Nat.reduceLeDiff,Int.reduceToNat,Int.reduceLE,Int.reduceLT,Int.reduceAdd,Int.reduceNeg,Nat.reduceMul,T11,Bool.not_false]
   first | exact⟨by rw[hR],by omega,xo⟩ | exact⟨hR.symm,by omega,xo⟩
  | true=>
   have hxy:=hq.1 rfl
   simp (maxSteps:=400000) only[wF,storeA,reduceCtorEq,Nat.reduceAdd,Nat.reduceSub,Nat.reduceEqDiff,Nat.reduceLeDiff,Int.reduceToNat,Int.reduceLE,Int.reduceLT,Int.reduceAdd,Int.reduceNeg,Nat.reduceMul,T11,Bool.not_true,ew]
   exact⟨c+1,⟨hlt,by rw[htl,htm,ht,hxy]⟩,by omega,by simp[Fg],HW.refl _⟩
 ·have d1:decide ((c:Int)<(l.length:Int))=false:=by simp;omega
  have hR:decide (l=m)=true:=by
   simp only[decide_eq_true_eq]
   have hcl:c=l.length:=by omega
   subst hcl
   rw[List.take_length,hlm,List.take_length]at ht
   exact ht
  simp (maxSteps:=400000) only[wF,storeA,reduceCtorEq,Nat.reduceAdd,Nat.reduceSub,Nat.reduceEqDiff,Nat.reduceLeDiff,Int.reduceToNat,Int.reduceLE,Int.reduceLT,Int.reduceAdd,Int.reduceNeg,Nat.reduceMul,T11,x0,d1]
  first | exact⟨by rw[hR],by omega,xo⟩ | exact⟨hR,by omega,xo⟩
end Go.Ab
