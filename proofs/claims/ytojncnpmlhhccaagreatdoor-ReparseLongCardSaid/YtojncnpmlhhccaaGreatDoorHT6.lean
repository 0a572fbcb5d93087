/- tree's allowed (documents, texts), above; Equal: walked. -/
import Derived.Test.YtojncnpmlhhccaaGreatDoorHT5
set_option linter.all false
namespace Go.Ab
open Go Go.Lib Go.Proofs
theorem t_allowed0_ok {G:Nat→Option (List AV)} (E:Env G) {name text:List UInt8} (ht:text.length≤1000000000):PureCall Tryz.prog G 56 [.int .i64 0,.str name,.str text] (.bool (allowedS 0 name text)):=by
 intro H
 refine ACalls.keep (ACalls.of Tryz.func56 S56_eq R56 N56 rfl rfl ?_)
 have z0:((0:Int)==0)=true:=rfl
 simp (maxSteps:=400000) only[wF,storeA,reduceCtorEq,Nat.reduceAdd,Nat.reduceSub,Nat.reduceEqDiff,Nat.reduceLeDiff,Int.reduceToNat,Int.reduceLE,Int.reduceLT,Int.reduceAdd,Int.reduceNeg,Nat.reduceMul,S56,N56,R56]
 refine AInv.pureK B23 (isText_ok E ht) fun H1 h1=>?_
 unfold allowedS
 cases hT:isTextS text with
 | false=>
  simp (maxSteps:=400000) only[wF,storeA,reduceCtorEq,Nat.reduceAdd,Nat.reduceSub,Nat.reduceEqDiff,Nat.reduceLeDiff,Int.reduceToNat,Int.reduceLE,Int.reduceLT,Int.reduceAdd,Int.reduceNeg,Nat.reduceMul,Bool.not_false]
  exact⟨by simp,h1.post⟩
 | true=>
  cases hN:(name==[])with
  | false=>
   simp (maxSteps:=400000) only[wF,storeA,reduceCtorEq,Nat.reduceAdd,Nat.reduceSub,Nat.reduceEqDiff,Nat.reduceLeDiff,Int.reduceToNat,Int.reduceLE,Int.reduceLT,Int.reduceAdd,Int.reduceNeg,Nat.reduceMul,Bool.not_true,z0,hN]
   first | exact⟨by simp,h1.post⟩ | exact h1.post
  | true=>
   simp (maxSteps:=400000) only[wF,storeA,reduceCtorEq,Nat.reduceAdd,Nat.reduceSub,Nat.reduceEqDiff,Nat.reduceLeDiff,Int.reduceToNat,Int.reduceLE,Int.reduceLT,Int.reduceAdd,Int.reduceNeg,Nat.reduceMul,Bool.not_true,z0,hN]
   first | exact⟨by simp,h1.post⟩ | exact h1.post
theorem t_allowed3_ok {G:Nat→Option (List AV)} (E:Env G) {name text:List UInt8} (ht:text.length≤1000000000):PureCall Tryz.prog G 56 [.int .i64 3,.str name,.str text] (.bool (allowedS 3 name text)):=by
 intro H
 refine ACalls.keep (ACalls.of Tryz.func56 S56_eq R56 N56 rfl rfl ?_)
 have z0:((3:Int)==0)=false:=rfl
 have z1:((3:Int)==1)=false:=rfl
 have z2:((3:Int)==2)=false:=rfl
 have z3:((3:Int)==3)=true:=rfl
 simp (maxSteps:=400000) only[wF,storeA,reduceCtorEq,Nat.reduceAdd,Nat.reduceSub,Nat.reduceEqDiff,Nat.reduceLeDiff,Int.reduceToNat,Int.reduceLE,Int.reduceLT,Int.reduceAdd,Int.reduceNeg,Nat.reduceMul,S56,N56,R56]
 refine AInv.pureK B23 (isText_ok E ht) fun H1 h1=>?_
 unfold allowedS
 cases hT:isTextS text with
 | false=>
  simp (maxSteps:=400000) only[wF,storeA,reduceCtorEq,Nat.reduceAdd,Nat.reduceSub,Nat.reduceEqDiff,Nat.reduceLeDiff,Int.reduceToNat,Int.reduceLE,Int.reduceLT,Int.reduceAdd,Int.reduceNeg,Nat.reduceMul,Bool.not_false]
  exact⟨by simp,h1.post⟩
 | true=>
  cases hN:(name==[])with
  | false=>
   simp (maxSteps:=400000) only[wF,storeA,reduceCtorEq,Nat.reduceAdd,Nat.reduceSub,Nat.reduceEqDiff,Nat.reduceLeDiff,Int.reduceToNat,Int.reduceLE,Int.reduceLT,Int.reduceAdd,Int.reduceNeg,Nat.reduceMul,Bool.not_true,z0,z1,z2,z3,hN]
   first | exact⟨by simp,h1.post⟩ | exact h1.post
  | true=>
   simp (maxSteps:=400000) only[wF,storeA,reduceCtorEq,Nat.reduceAdd,Nat.reduceSub,Nat.reduceEqDiff,Nat.reduceLeDiff,Int.reduceToNat,Int.reduceLE,Int.reduceLT,Int.reduceAdd,Int.reduceNeg,Nat.reduceMul,Bool.not_true,z0,z1,z2,z3,hN]
   first | exact⟨by cases text<;>rfl,h1.post⟩ | exact h1.post
def upN (l:List Nd) (a:Nat):Nat→Nat→Nat
 | 0,i=>i
 | f+1,i=>if a<i then upN l a f (l.getD i nd0).up.toNat else i
def aboveN (l:List Nd) (a i:Nat):Bool:=upN l a i i==a
def UpOk (l:List Nd) (i:Nat):Prop:=∀k,0<k→k≤i→0≤(l.getD k nd0).up∧(l.getD k nd0).up<k
theorem upN_fuel {l:List Nd} {a:Nat}:∀{f g i:Nat},UpOk l i→i≤f→i≤g→upN l a f i=upN l a g i
 | 0,g,i,h,hf,hg=>by
  have:i=0:=by omega
  subst this
  cases g with
  | zero=>rfl
  | succ g=>simp[upN]
 | f+1,0,i,h,hf,hg=>by
  have:i=0:=by omega
  subst this
  simp[upN]
 | f+1,g+1,i,h,hf,hg=>by
  simp only[upN]
  split
  ·rename_i hai
   have:=h i (by omega) (Nat.le_refl _)
   exact upN_fuel (fun k k1 k2=>h k k1 (by omega)) (by omega) (by omega)
  ·rfl
theorem upN_step {l:List Nd} {a i:Nat} (h:UpOk l i) (ha:a<i):upN l a i i=upN l a (l.getD i nd0).up.toNat (l.getD i nd0).up.toNat:=by
 have:=h i (by omega) (Nat.le_refl _)
 obtain⟨j,rfl⟩:∃j,i=j+1:=⟨i-1,by omega⟩
 conv=>lhs;rw[upN]
 rw[if_pos ha]
 exact upN_fuel (fun k k1 k2=>h k k1 (by omega)) (by omega) (Nat.le_refl _)
theorem upN_end {l:List Nd} {a i:Nat} (ha:¬a<i):upN l a i i=i:=by
 cases i with
 | zero=>rfl
 | succ i=>rw[upN,if_neg ha]
set_option maxHeartbeats 4000000 in
set_option maxRecDepth 100000 in
theorem t_above_ok (G:Nat→Option (List AV)) {l:List Nd} {a i:Nat} (hi:i<l.length) (hu:UpOk l i):PureCall Tryz.prog G 36 [.agg [.lst l.length (ndsH l)],.int .i64 a,.int .i64 i] (.bool (aboveN l a i)):=by
 intro H
 refine ACalls.keep (ACalls.of Tryz.func36 S36_eq R36 N36 rfl rfl ?_)
 simp (maxSteps:=400000) only[wF,storeA,reduceCtorEq,Nat.reduceAdd,Nat.reduceSub,Nat.reduceEqDiff,Nat.reduceLeDiff,Int.reduceToNat,Int.reduceLE,Int.reduceLT,Int.reduceAdd,Int.reduceNeg,Nat.reduceMul,S36,N36,R36,T36,AV.boxable]
 generalize hX0:AHeap.allocAt H H.next _=X
 have x0:X.get H.next=some (.cells 25 [.lst l.length (ndsH l)]):=by rw[←hX0,AHeap.get_allocAt_same]
 have xn:X.next=H.next+1:=by rw[←hX0];simp only[AHeap.next_allocAt];omega
 have xo:∀j,j<H.next→X.get j=H.get j:=fun j hj=>by rw[←hX0,AHeap.get_allocAt_ne _ _ (by omega)]
 clear hX0
 refine ATrS.loopK (κ:=Nat) (fun c=>[.und,.int .i64 a,.int .i64 c,.ptr H.next 0]++List.replicate 15 .und) (fun _=>X)
  (fun c=>c≤i∧upN l a c c=upN l a i i) (fun c=>c) ⟨i,⟨Nat.le_refl _,rfl⟩,by simp[Fg],HW.refl _⟩ ?_
 rintro c ⟨hc,hcu⟩
 have huc:UpOk l c:=fun k k1 k2=>hu k k1 (by omega)
 by_cases hlt:a<c
 ·have d0:decide ((c:Int)>(a:Int))=true:=by simp;omega
  have q0:((0:Int)≤(c:Int))=True:=by simp
  have q1:((c:Int)<(l.length:Int))=True:=by simp;omega
  have hcl:c<l.length:=by omega
  have g3:=ndsH_get l c 3 hcl (by omega)
  have hgd:l.getD c nd0=l[c]:=by rw[List.getD_eq_getElem?_getD,List.getElem?_eq_getElem hcl];rfl
  have hst:=upN_step huc hlt
  have hb:=huc c (by omega) (Nat.le_refl _)
  rw[hgd]at hst hb
  generalize l[c]=x at g3 hst hb
  simp only[ndH,List.getElem?_cons_zero,List.getElem?_cons_succ]at g3
  simp (maxSteps:=400000) only[wF,storeA,reduceCtorEq,Nat.reduceAdd,Nat.reduceSub,Nat.reduceEqDiff,Nat.reduceLeDiff,Int.reduceToNat,Int.reduceLE,Int.reduceLT,Int.reduceAdd,Int.reduceNeg,Nat.reduceMul,T36,d0,x0,q0,q1,indexAddrA,g3]
  have hx:x.up=((x.up.toNat:Nat):Int):=by omega
  exact⟨x.up.toNat,⟨by omega,by rw[←hst];exact hcu⟩,by omega,by simp[Fg];omega,HW.refl _⟩
 ·have d0:decide ((c:Int)>(a:Int))=false:=by simp;omega
  rw[upN_end hlt]at hcu
  have he:((c:Int)==(a:Int))=aboveN l a i:=by
   unfold aboveN
   rw[←hcu]
   by_cases h:c=a
   ·subst h;simp
   ·rw[beq_false_of_ne h,beq_false_of_ne (by omega)]
  simp (maxSteps:=400000) only[wF,storeA,reduceCtorEq,Nat.reduceAdd,Nat.reduceSub,Nat.reduceEqDiff,Nat.reduceLeDiff,Int.reduceToNat,Int.reduceLE,Int.reduceLT,Int.reduceAdd,Int.reduceNeg,Nat.reduceMul,T36,d0]
  first | exact⟨by rw[he],by omega,xo⟩ | exact⟨he,by omega,xo⟩
end Go.Ab
