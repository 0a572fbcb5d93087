/- tree's above and placed over a tree whose later nodes are of any kind, walked. tree.Check of any tree: OK only if it is valid; walked. -/
import Derived.Test.YtojncnpmlhhccaaGreatDoorHT9
set_option linter.all false
namespace Go.Ab
open Go Go.Lib Go.Proofs
def Cov (cs:List AV) (l:List Nd) (i:Nat):Prop:=cs.length=l.length*4∧∀(j:Nat) (h:j<l.length),j<i→(cs.drop (j*4)).take 4=ndH l[j]
theorem Cov.get {cs:List AV} {l:List Nd} {i j k:Nat} (h:Cov cs l i) (hj:j<l.length) (hji:j<i) (hk:k<4):cs[j*4+k]?=(ndH l[j])[k]?:=by
 rw[←h.2 j hj hji,List.getElem?_take,if_pos hk,List.getElem?_drop]
theorem Cov.low {cs:List AV} {l:List Nd} {i j:Nat} (h:Cov cs l i) (hj:j≤i):Cov cs l j:=⟨h.1,fun k h1 h2=>h.2 k h1 (by omega)⟩
theorem Cov.all {l:List Nd} {i:Nat}:Cov (ndsH l) l i:=⟨ndsH_len l,fun j h _=>ndsH_at l j h⟩
theorem Cov.mid {cs:List AV} {l:List Nd} {i u:Nat} (h:Cov cs l (i+1)) (hi:i≤l.length) (j:Nat) (hj:j<((l.take i).drop (u+1)).length):((((cs.take (i*4)).drop ((u+1)*4)).drop (j*4)).take 4)=ndH ((l.take i).drop (u+1))[j]:=by
 simp only[List.length_drop,List.length_take]at hj
 have h1:=h.2 (u+1+j) (by omega) (by omega)
 rw[List.getElem_drop,List.getElem_take,←h1,List.drop_drop,←Nat.add_mul,List.drop_take,List.take_take,show min 4 (i*4-(u+1+j)*4)=4 by omega]
theorem Cov.midLen {cs:List AV} {l:List Nd} {i u:Nat} (h:Cov cs l (i+1)) (hi:i≤l.length):((l.take i).drop (u+1)).length*4≤((cs.take (i*4)).drop ((u+1)*4)).length:=by
 simp only[List.length_drop,List.length_take,h.1];omega
set_option maxHeartbeats 4000000 in
set_option maxRecDepth 100000 in
theorem t_aboveC_ok (G:Nat→Option (List AV)) {cs:List AV} {l:List Nd} {a i:Nat} (hcov:Cov cs l (i+1)) (hi:i<l.length) (hu:UpOk l i):PureCall Tryz.prog G 36 [.agg [.lst l.length cs],.int .i64 a,.int .i64 i] (.bool (aboveN l a i)):=by
 intro H
 refine ACalls.keep (ACalls.of Tryz.func36 S36_eq R36 N36 rfl rfl ?_)
 simp (maxSteps:=400000) only[wF,storeA,reduceCtorEq,Nat.reduceAdd,Nat.reduceSub,Nat.reduceEqDiff,Nat.reduceLeDiff,Int.reduceToNat,Int.reduceLE,Int.reduceLT,Int.reduceAdd,Int.reduceNeg,Nat.reduceMul,S36,N36,R36,T36,AV.boxable]
 generalize hX0:AHeap.allocAt H H.next _=X
 have x0:X.get H.next=some (.cells 25 [.lst l.length cs]):=by rw[←hX0,AHeap.get_allocAt_same]
 have xn:X.next=H.next+1:=by rw[←hX0];simp only[AHeap.next_allocAt];omega
 have xo:∀j,j<H.next→X.get j=H.get j:=fun j hj=>by rw[←hX0,AHeap.get_allocAt_ne _ _ (by omega)]
 clear hX0
 refine ATrS.loopK (κ:=Nat) (fun c=>[.und,.int .i64 a,.int .i64 c,.ptr H.next 0]++List.replicate 15 .und) (fun _=>X)
  (fun c=>c≤i∧upN l a c c=upN l a i i) (fun c=>c) ⟨i,⟨Nat.le_refl _,rfl⟩,by simp[Fg],HW.refl _⟩ ?_
 rintro c ⟨hc,hcu⟩
 have huc:UpOk l c:=fun k k1 k2=>hu k k1 (by omega)
 by_cases hlt:a<c
 ·have d0:decide ((c:Int)>(a:Int))=true:=by simp;omega
  have q0:((0:Int)≤(c:Int))=True:=by simp
  have q1:((c:Int)<(l.length:Int))=True:=by simp;omega
  have hcl:c<l.length:=by omega
  have g3:=hcov.get (k:=3) hcl (by omega) (by omega)
  have hgd:l.getD c nd0=l[c]:=by rw[List.getD_eq_getElem?_getD,List.getElem?_eq_getElem hcl];rfl
  have hst:=upN_step huc hlt
  have hb:=huc c (by omega) (Nat.le_refl _)
  rw[hgd]at hst hb
  generalize l[c]=x at g3 hst hb
  simp only[ndH,List.getElem?_cons_zero,List.getElem?_cons_succ]at g3
  simp (maxSteps:=400000) only[wF,storeA,reduceCtorEq,Nat.reduceAdd,Nat.reduceSub,Nat.reduceEqDiff,Nat.reduceLeDiff,Int.reduceToNat,Int.reduceLE,Int.reduceLT,Int.reduceAdd,Int.reduceNeg,Nat.reduceMul,T36,d0,x0,q0,q1,indexAddrA,g3]
  have hx:x.up=((x.up.toNat:Nat):Int):=by omega
  exact⟨x.up.toNat,⟨by omega,by rw[←hst];exact hcu⟩,by omega,by simp[Fg];omega,HW.refl _⟩
 ·have d0:decide ((c:Int)>(a:Int))=false:=by simp;omega
  rw[upN_end hlt]at hcu
  have he:((c:Int)==(a:Int))=aboveN l a i:=by
   unfold aboveN
   rw[←hcu]
   by_cases h:c=a
   ·subst h;simp
   ·rw[beq_false_of_ne h,beq_false_of_ne (by omega)]
  simp (maxSteps:=400000) only[wF,storeA,reduceCtorEq,Nat.reduceAdd,Nat.reduceSub,Nat.reduceEqDiff,Nat.reduceLeDiff,Int.reduceToNat,Int.reduceLE,Int.reduceLT,Int.reduceAdd,Int.reduceNeg,Nat.reduceMul,T36,d0]
  first | exact⟨by rw[he],by omega,xo⟩ | exact⟨he,by omega,xo⟩
set_option maxHeartbeats 8000000 in
set_option maxRecDepth 100000 in
theorem t_placedC_ok (G:Nat→Option (List AV)) {cs:List AV} {l:List Nd} {i before:Nat} (hcov:Cov cs l (i+1)) (hi:i<l.length) (hl:l.length≤65536) (hu:0≤(l.getD i nd0).up∧(l.getD i nd0).up<i) (hb:before<i) :
  PureCall Tryz.prog G 57 [.agg [.lst l.length cs],.int .i64 i,.int .i64 before] (.bool (placedN l i before)):=by
 intro H
 refine ACalls.keep (ACalls.of Tryz.func57 S57_eq R57 N57 rfl rfl ?_)
 have hxe:=nd_getD hi
 have hbl:before<l.length:=by omega
 have hbe:=nd_getD hbl
 generalize hX:l.getD i nd0=x at hu hxe
 obtain⟨u,hue⟩:∃u:Nat,x.up=u:=⟨x.up.toNat,by omega⟩
 have hui:u<i:=by omega
 have hul:u<l.length:=by omega
 have hpe:=nd_getD hul
 have gi:=hcov.2 i hi (by omega)
 have g3:=hcov.get (k:=3) hi (by omega) (by omega)
 have gu0:=hcov.get (k:=0) hul (by omega) (by omega)
 have gb0:=hcov.get (k:=0) hbl (by omega) (by omega)
 have hut:x.up.toNat=u:=by omega
 unfold placedN
 rw[hX,hut]
 generalize l.getD u nd0=p at hpe
 generalize l.getD before nd0=q at hbe
 rw[←hxe]at gi g3
 rw[←hpe]at gu0
 rw[←hbe]at gb0
 have q0:((i:Int)<(l.length:Int))=True:=by simp;omega
 have q1:((u:Int)<(l.length:Int))=True:=by simp;omega
 have q2:((before:Int)<(l.length:Int))=True:=by simp;omega
 have hle:(i*4+4≤cs.length)=True:=by rw[hcov.1];simp;omega
 simp only[ndH,hue,List.getElem?_cons_zero,List.getElem?_cons_succ,Nat.add_zero]at gi g3 gu0 gb0
 have u1:(H.next=H.next+1)=False:=by simp
 have u2:(H.next+1=H.next)=False:=by simp
 simp (maxSteps:=400000) only[wF,storeA,reduceCtorEq,Nat.reduceAdd,Nat.reduceSub,Nat.reduceEqDiff,Nat.reduceLeDiff,Int.reduceToNat,Int.reduceLE,Int.reduceLT,Int.reduceAdd,Int.reduceNeg,Nat.reduceMul,S57,N57,R57,T57,AV.boxable]
 refine drawW_fixed mixedOrders L57_1_eq P57_1_eq ?_
 simp (maxSteps:=400000) only[wF,storeA,reduceCtorEq,Nat.reduceAdd,Nat.reduceSub,Nat.reduceEqDiff,Nat.reduceLeDiff,Int.reduceToNat,Int.reduceLE,Int.reduceLT,Int.reduceAdd,Int.reduceNeg,Nat.reduceMul,L57_1,T57,indexAddrA,u1,u2,q0,q1,gi,g3,gu0,hle,AV.boxable]
 refine⟨by simp,?_⟩
 generalize hX0:AHeap.set _ (H.next+1) _=X
 have x0:X.get H.next=some (.cells 25 [.lst l.length cs]):=by rw[←hX0,AHeap.get_set_ne _ _ (by omega),AHeap.get_allocAt_ne _ _ (by omega),AHeap.get_allocAt_same]
 have x1:X.get (H.next+1)=some (.cells 36 [.int .i64 x.kind,.str x.name,.str x.text,.int .i64 u]):=by rw[←hX0,AHeap.get_set_same]
 have xn:X.next=H.next+2:=by rw[←hX0];simp only[AHeap.next_set,AHeap.next_allocAt];omega
 have xo:∀j,j<H.next→X.get j=H.get j:=fun j hj=>by rw[←hX0,AHeap.get_set_ne _ _ (by omega),AHeap.get_allocAt_ne _ _ (by omega),AHeap.get_allocAt_ne _ _ (by omega)]
 clear hX0
 have fin:H.next≤X.next∧∀j,j<H.next→X.get j=H.get j:=⟨by omega,xo⟩
 have cast0:∀(n k:Nat),((n:Int)==(k:Int))=decide (n=k):=fun n k=>by
  by_cases h:n=k
  ·subst h;simp
  ·rw[beq_false_of_ne (by omega),decide_eq_false h]
 have castN:∀(n k:Nat),((n:Int) != (k:Int)) = !decide (n=k):=fun n k=>by rw[bne,cast0]
 have e2:=cast0 x.kind 2
 have n1:=castN p.kind 1
 have n0:=castN p.kind 0
 have b0:=cast0 before 0
 have k3:=castN x.kind 3
 have r2:=cast0 q.kind 2
 have r3:=castN q.kind 3
 simp only[Int.cast_ofNat_Int,Int.natCast_zero]at e2 n1 n0 b0 k3 r2 r3
 have ew:IntKind.i64.wrap ((u:Int)+1)=((u+1:Nat):Int):=by rw[wrap64]<;>omega
 by_cases hbad:p.kind≠1∧(p.kind≠0∨x.kind=2)
 ·rw[if_pos hbad]
  rw[decide_eq_false hbad.1]at n1
  by_cases h0:p.kind=0
  ·have h2:x.kind=2:=hbad.2.resolve_left (fun h=>h h0)
   rw[decide_eq_true h0]at n0
   rw[decide_eq_true h2]at e2
   simp (maxSteps:=400000) only[wF,storeA,reduceCtorEq,Nat.reduceAdd,Nat.reduceSub,Nat.reduceEqDiff,Nat.reduceLeDiff,Int.reduceToNat,Int.reduceLE,Int.reduceLT,Int.reduceAdd,Int.reduceNeg,Nat.reduceMul,x1,e2,n1,n0,Bool.not_true,Bool.not_false,T57]
   first | exact⟨rfl,fin⟩ | exact fin
  ·rw[decide_eq_false h0]at n0
   simp (maxSteps:=400000) only[wF,storeA,reduceCtorEq,Nat.reduceAdd,Nat.reduceSub,Nat.reduceEqDiff,Nat.reduceLeDiff,Int.reduceToNat,Int.reduceLE,Int.reduceLT,Int.reduceAdd,Int.reduceNeg,Nat.reduceMul,x1,e2,n1,n0,Bool.not_true,Bool.not_false,T57]
   first | exact⟨rfl,fin⟩ | exact fin
 rw[if_neg hbad]
 have hgood:p.kind=1∨p.kind=0∧x.kind≠2:=by
  by_cases h:p.kind=1
  ·exact .inl h
  ·by_cases h':p.kind=0
   ·exact .inr ⟨h',fun h2=>hbad ⟨h,.inr h2⟩⟩
   ·exact absurd ⟨h,.inl h'⟩ hbad
 by_cases hb0:before=0
 ·rw[if_pos hb0]
  rw[decide_eq_true hb0]at b0
  rcases hgood with hp | ⟨hp,hx2⟩
  ·rw[decide_eq_true hp]at n1
   simp (maxSteps:=400000) only[wF,storeA,reduceCtorEq,Nat.reduceAdd,Nat.reduceSub,Nat.reduceEqDiff,Nat.reduceLeDiff,Int.reduceToNat,Int.reduceLE,Int.reduceLT,Int.reduceAdd,Int.reduceNeg,Nat.reduceMul,x1,e2,n1,b0,Bool.not_true,Bool.not_false,T57]
   first | exact⟨rfl,fin⟩ | exact fin
  ·rw[decide_eq_false (by omega:¬p.kind=1)]at n1
   rw[decide_eq_true hp]at n0
   rw[decide_eq_false hx2]at e2
   simp (maxSteps:=400000) only[wF,storeA,reduceCtorEq,Nat.reduceAdd,Nat.reduceSub,Nat.reduceEqDiff,Nat.reduceLeDiff,Int.reduceToNat,Int.reduceLE,Int.reduceLT,Int.reduceAdd,Int.reduceNeg,Nat.reduceMul,x1,e2,n1,n0,b0,Bool.not_true,Bool.not_false,T57]
   first | exact⟨rfl,fin⟩ | exact fin
 rw[if_neg hb0]
 rw[decide_eq_false hb0]at b0
 by_cases hx2:x.kind=2
 ·rw[if_pos hx2]
  rw[decide_eq_true hx2]at e2
  have hp:p.kind=1:=hgood.resolve_right (fun h=>h.2 hx2)
  rw[decide_eq_true hp]at n1
  by_cases hq:q.kind=2
  ·rw[decide_eq_true hq]at r2
   have s1:((0:Int)≤(i:Int))=True:=by simp
   have s2:((i:Int)≤(l.length:Int))=True:=by simp;omega
   have s3:((0:Int)≤((u+1:Nat):Int))=True:=by simp;omega
   have s4:(((u+1:Nat):Int)≤(i:Int))=True:=by simp;omega
   simp (maxSteps:=400000) only[wF,storeA,reduceCtorEq,Nat.reduceAdd,Nat.reduceSub,Nat.reduceEqDiff,Nat.reduceLeDiff,Int.reduceToNat,Int.reduceLE,Int.reduceLT,Int.reduceAdd,Int.reduceNeg,Nat.reduceMul,x1,x0,e2,n1,b0,r2,q2,gb0,indexAddrA,ew,sliceA,boundA,s1,s2,s3,s4,Int.toNat_natCast,Bool.not_true,Bool.not_false,T57]
   refine⟨rfl,?_⟩
   have hml:((l.take i).drop (u+1)).length=i-(u+1):=by simp only[List.length_drop,List.length_take];omega
   rw[←hml]
   have hx1:X.get (H.next+1)=some (.cells 36 (ndH x)):=by rw[x1];simp only[ndH,hue]
   refine AInv.retK B90 (sl_ContainsFunc_ok G (x:=x) (m:=(l.take i).drop (u+1)) (fun j hj=>hcov.mid (by omega) j hj) (hcov.midLen (by omega)) (by omega) hx1 (by omega)) ?_ (fun v J2 hq=>by cases hq.1)
   rintro v J2 ⟨hv,h2⟩
   cases hv
   simp (maxSteps:=400000) only[wF,storeA,reduceCtorEq,Nat.reduceAdd,Nat.reduceSub,Nat.reduceEqDiff,Nat.reduceLeDiff,Int.reduceToNat,Int.reduceLE,Int.reduceLT,Int.reduceAdd,Int.reduceNeg,Nat.reduceMul,T57]
   have fin2:H.next≤J2.next∧∀j,j<H.next→J2.get j=H.get j:=⟨by have:=h2.1;omega,fun j hj=>by rw[h2.2];exact xo j hj⟩
   first | exact⟨by rw[hq];rfl,fin2⟩ | exact⟨rfl,fin2⟩ | exact fin2
  ·rw[decide_eq_false hq]at r2
   simp (maxSteps:=400000) only[wF,storeA,reduceCtorEq,Nat.reduceAdd,Nat.reduceSub,Nat.reduceEqDiff,Nat.reduceLeDiff,Int.reduceToNat,Int.reduceLE,Int.reduceLT,Int.reduceAdd,Int.reduceNeg,Nat.reduceMul,x1,x0,e2,n1,b0,r2,q2,gb0,indexAddrA,Bool.not_true,Bool.not_false,T57]
   first | exact⟨by rw[beq_false_of_ne hq];rfl,fin⟩ | exact⟨by rw[beq_false_of_ne hq,Bool.false_and],fin⟩
 ·rw[if_neg hx2]
  rw[decide_eq_false hx2]at e2
  have rw3:(x.kind != 3||q.kind != 3)=(!decide (x.kind=3) || !decide (q.kind=3)):=rfl
  rw[rw3]
  by_cases hk3:x.kind=3
  ·rw[decide_eq_true hk3]at k3 ⊢
   rcases hgood with hp | ⟨hp,_⟩
   ·rw[decide_eq_true hp]at n1
    simp (maxSteps:=400000) only[wF,storeA,reduceCtorEq,Nat.reduceAdd,Nat.reduceSub,Nat.reduceEqDiff,Nat.reduceLeDiff,Int.reduceToNat,Int.reduceLE,Int.reduceLT,Int.reduceAdd,Int.reduceNeg,Nat.reduceMul,x1,x0,e2,n1,b0,k3,r3,q2,gb0,indexAddrA,Bool.not_true,Bool.not_false,T57]
    first | exact⟨rfl,fin⟩ | exact⟨by simp,fin⟩
   ·rw[decide_eq_false (by omega:¬p.kind=1)]at n1
    rw[decide_eq_true hp]at n0
    simp (maxSteps:=400000) only[wF,storeA,reduceCtorEq,Nat.reduceAdd,Nat.reduceSub,Nat.reduceEqDiff,Nat.reduceLeDiff,Int.reduceToNat,Int.reduceLE,Int.reduceLT,Int.reduceAdd,Int.reduceNeg,Nat.reduceMul,x1,x0,e2,n1,n0,b0,k3,r3,q2,gb0,indexAddrA,Bool.not_true,Bool.not_false,T57]
    first | exact⟨rfl,fin⟩ | exact⟨by simp,fin⟩
  ·rw[decide_eq_false hk3]at k3 ⊢
   rcases hgood with hp | ⟨hp,_⟩
   ·rw[decide_eq_true hp]at n1
    simp (maxSteps:=400000) only[wF,storeA,reduceCtorEq,Nat.reduceAdd,Nat.reduceSub,Nat.reduceEqDiff,Nat.reduceLeDiff,Int.reduceToNat,Int.reduceLE,Int.reduceLT,Int.reduceAdd,Int.reduceNeg,Nat.reduceMul,x1,x0,e2,n1,b0,k3,r3,q2,gb0,indexAddrA,Bool.not_true,Bool.not_false,T57]
    first | exact⟨rfl,fin⟩ | exact fin | exact⟨by simp,fin⟩
   ·rw[decide_eq_false (by omega:¬p.kind=1)]at n1
    rw[decide_eq_true hp]at n0
    simp (maxSteps:=400000) only[wF,storeA,reduceCtorEq,Nat.reduceAdd,Nat.reduceSub,Nat.reduceEqDiff,Nat.reduceLeDiff,Int.reduceToNat,Int.reduceLE,Int.reduceLT,Int.reduceAdd,Int.reduceNeg,Nat.reduceMul,x1,x0,e2,n1,n0,b0,k3,r3,q2,gb0,indexAddrA,Bool.not_true,Bool.not_false,T57]
    first | exact⟨rfl,fin⟩ | exact fin | exact⟨by simp,fin⟩
end Go.Ab
namespace Go.Ab
open Go Go.Lib Go.Proofs
structure RN where
  kind:Int
  name:List UInt8
  text:List UInt8
  up:Int
def ndOf (x:RN):Nd:=⟨x.kind.toNat,x.name,x.text,x.up⟩
def rnH (x:RN):List AV:=[.int .i64 x.kind,.str x.name,.str x.text,.int .i64 x.up]
def rnsH (l:List RN):List AV:=l.flatMap rnH
theorem rnsH_len (l:List RN):(rnsH l).length=l.length*4:=by
  induction l with
  | nil=>rfl
  | cons a l ih=>simp only[rnsH,List.flatMap_cons,List.length_append,rnH,List.length_cons,List.length_nil]at ih ⊢;rw[ih];omega
theorem rnsH_at:∀(l:List RN) (i:Nat) (h:i<l.length),((rnsH l).drop (i*4)).take 4=rnH l[i]
  | [],i,h=>by simp at h
  | a::l,0,_=>rfl
  | a::l,i+1,h=>by
    have:=rnsH_at l i (by simpa using h)
    have e:(i+1)*4=i*4+1+1+1+1:=by omega
    simp only[rnsH,List.flatMap_cons,e,rnH,List.cons_append,List.nil_append,List.drop_succ_cons,List.getElem_cons_succ]at this ⊢
    exact this
theorem rnH_eq {x:RN} (h:0≤x.kind):rnH x=ndH (ndOf x):=by
  simp only[rnH,ndH,ndOf,Int.toNat_of_nonneg h]
theorem rnsH_eq:∀{l:List RN},(∀(j:Nat) (h:j<l.length),0≤l[j].kind)→rnsH l=ndsH (l.map ndOf)
  | [],_=>rfl
  | a::l,h=>by
    have h0:0≤a.kind:=h 0 (by simp)
    have ih:=rnsH_eq (l:=l) fun j hj=>h (j+1) (by simpa using hj)
    simp only[rnsH,ndsH,List.flatMap_cons,List.map_cons]at ih ⊢
    rw[ih,rnH_eq h0]
theorem cov_of {L:List RN} {i:Nat} (h:∀(j:Nat) (hj:j<L.length),j<i→0≤L[j].kind):Cov (rnsH L) (L.map ndOf) i:=
  ⟨by rw[rnsH_len,List.length_map],fun j hj hji=>by
    rw[List.length_map]at hj
    rw[rnsH_at L j hj,List.getElem_map,rnH_eq (h j hj hji)]⟩
theorem t_allowedK_ok {G:Nat→Option (List AV)} (E:Env G) {kind:Int} {name text:List UInt8} (hk:¬(0≤kind∧kind≤5)) (ht:text.length≤1000000000):PureCall Tryz.prog G 56 [.int .i64 kind,.str name,.str text] (.bool false):=by
  intro H
  refine ACalls.keep (ACalls.of Tryz.func56 S56_eq R56 N56 rfl rfl ?_)
  have z0:(kind==0)=false:=by rw[beq_eq_false_iff_ne];omega
  have z1:(kind==1)=false:=by rw[beq_eq_false_iff_ne];omega
  have z2:(kind==2)=false:=by rw[beq_eq_false_iff_ne];omega
  have z3:(kind==3)=false:=by rw[beq_eq_false_iff_ne];omega
  have z4:(kind==4)=false:=by rw[beq_eq_false_iff_ne];omega
  have z5:(kind==5)=false:=by rw[beq_eq_false_iff_ne];omega
  simp (maxSteps:=400000) only[wF,storeA,reduceCtorEq,Nat.reduceAdd,Nat.reduceSub,Nat.reduceEqDiff,Nat.reduceLeDiff,Int.reduceToNat,Int.reduceLE,Int.reduceLT,Int.reduceAdd,Int.reduceNeg,Nat.reduceMul,S56,N56,R56]
  refine AInv.pureK B23 (isText_ok E ht) fun H1 h1=>?_
  cases hT:isTextS text with
  | false=>
    simp (maxSteps:=400000) only[wF,storeA,reduceCtorEq,Nat.reduceAdd,Nat.reduceSub,Nat.reduceEqDiff,Nat.reduceLeDiff,Int.reduceToNat,Int.reduceLE,Int.reduceLT,Int.reduceAdd,Int.reduceNeg,Nat.reduceMul,Bool.not_false]
    first | exact⟨rfl,h1.post⟩ | exact h1.post
  | true=>
    simp (maxSteps:=400000) only[wF,storeA,reduceCtorEq,Nat.reduceAdd,Nat.reduceSub,Nat.reduceEqDiff,Nat.reduceLeDiff,Int.reduceToNat,Int.reduceLE,Int.reduceLT,Int.reduceAdd,Int.reduceNeg,Nat.reduceMul,Bool.not_true,z0,z1,z2,z3,z4,z5]
    first | exact⟨rfl,h1.post⟩ | exact h1.post
theorem t_allowed4n_ok {G:Nat→Option (List AV)} (E:Env G) {name text:List UInt8} (hn:name≠[]) (ht:text.length≤1000000000):PureCall Tryz.prog G 56 [.int .i64 4,.str name,.str text] (.bool false):=by
  intro H
  refine ACalls.keep (ACalls.of Tryz.func56 S56_eq R56 N56 rfl rfl ?_)
  have z0:((4:Int)==0)=false:=rfl
  have z1:((4:Int)==1)=false:=rfl
  have z2:((4:Int)==2)=false:=rfl
  have z3:((4:Int)==3)=false:=rfl
  have z4:((4:Int)==4)=true:=rfl
  have ze:(name==[])=false:=beq_eq_false_iff_ne.2 hn
  simp (maxSteps:=400000) only[wF,storeA,reduceCtorEq,Nat.reduceAdd,Nat.reduceSub,Nat.reduceEqDiff,Nat.reduceLeDiff,Int.reduceToNat,Int.reduceLE,Int.reduceLT,Int.reduceAdd,Int.reduceNeg,Nat.reduceMul,S56,N56,R56]
  refine AInv.pureK B23 (isText_ok E ht) fun H1 h1=>?_
  cases hT:isTextS text with
  | false=>
    simp (maxSteps:=400000) only[wF,storeA,reduceCtorEq,Nat.reduceAdd,Nat.reduceSub,Nat.reduceEqDiff,Nat.reduceLeDiff,Int.reduceToNat,Int.reduceLE,Int.reduceLT,Int.reduceAdd,Int.reduceNeg,Nat.reduceMul,Bool.not_false]
    first | exact⟨rfl,h1.post⟩ | exact h1.post
  | true=>
    simp (maxSteps:=400000) only[wF,storeA,reduceCtorEq,Nat.reduceAdd,Nat.reduceSub,Nat.reduceEqDiff,Nat.reduceLeDiff,Int.reduceToNat,Int.reduceLE,Int.reduceLT,Int.reduceAdd,Int.reduceNeg,Nat.reduceMul,Bool.not_true,z0,z1,z2,z3,z4,ze]
    first | exact⟨rfl,h1.post⟩ | exact h1.post
theorem t_allowed1n_ok {G:Nat→Option (List AV)} (E:Env G) (X:EnvH G) (T:EnvT G) {kind:Int} {name text:List UInt8} (hn:name.length≤1000000000) (ht:text.length≤1000000000) :
    PureCall Tryz.prog G 56 [.int .i64 kind,.str name,.str text] (.bool (decide (0≤kind∧kind≤5)&&allowedS kind.toNat name text)):=by
  by_cases hk:0≤kind∧kind≤5
  · rw[decide_eq_true hk,Bool.true_and]
    obtain⟨k,rfl⟩:∃k:Nat,kind=k:=⟨kind.toNat,by omega⟩
    have hk5:k≤5:=by omega
    rw[Int.toNat_natCast]
    match k,hk5 with
    | 0,_=>exact t_allowed0_ok E ht
    | 1,_=>exact t_allowed1_ok E hn ht
    | 2,_=>exact t_allowed2_ok E hn ht
    | 3,_=>exact t_allowed3_ok E ht
    | 4,_=>
      by_cases h0:name=[]
      · subst h0;exact t_allowed4_ok E X T ht
      · have e:allowedS 4 name text=false:=by
          simp[allowedS,h0]
        rw[e]
        exact t_allowed4n_ok E h0 ht
    | 5,_=>exact t_allowed5_ok E X T hn ht
  · rw[decide_eq_false hk,Bool.false_and]
    exact t_allowedK_ok E hk ht
structure ValidTo (l:List Nd) (i:Nat):Prop where
  up0:(l.getD 0 nd0).up = -1
  kind:∀j,j<i→(l.getD j nd0).kind≤5
  allowed:∀j,j<i→allowedS (l.getD j nd0).kind (l.getD j nd0).name (l.getD j nd0).text=true
  up:∀j,0<j→j<i→0≤(l.getD j nd0).up∧(l.getD j nd0).up<j
  above:∀j,0<j→j<i→aboveN l (l.getD j nd0).up.toNat (j-1)=true
  doc:∀j,0<j→j<i→(l.getD j nd0).kind≠0
  placed:∀j,0<j→j<i→placedN l j (lastN l (l.getD j nd0).up.toNat j)=true
  deep:∀j,0<j→j<i→(l.getD j nd0).kind≠2→depN l j j≤200
def CkPost (L:List RN) (H:AHeap) (r:ARes) (H':AHeap):Prop:=(r = .ret (.int .i64 0)∧ValidN (L.map ndOf)∧rnsH L=ndsH (L.map ndOf)∨r = .ret (.int .i64 1))∧Kept H H'
def ChkR (L:List RN) (H:AHeap) (x:Nat × List AV × List AV × AHeap):Prop:=
  x.1≤L.length∧x.2.1.length=L.length∧x.2.2.1.length=L.length∧(∀u,u<L.length→x.2.1[u]?=some (.int .i64 (lastN (L.map ndOf) u x.1)))∧(∀k,k<L.length→k<x.1∨k=0→x.2.2.1[k]?=some (.int .i64 (depN (L.map ndOf) k k))) ∧
  x.2.2.2.get H.next=some (.cells 25 [.lst L.length (rnsH L)])∧x.2.2.2.get (H.next+1)=some (.row 3 1 x.2.1)∧x.2.2.2.get (H.next+2)=some (.row 3 1 x.2.2.1)∧H.next+3≤x.2.2.2.next∧(∀j,j<H.next→x.2.2.2.get j=H.get j) ∧
  (∀(j:Nat) (h:j<L.length),j<x.1→0≤L[j].kind)∧ValidTo (L.map ndOf) x.1
set_option maxHeartbeats 16000000 in
set_option maxRecDepth 100000 in
theorem t_Check_any {G:Nat→Option (List AV)} (E:Env G) (X:EnvH G) (T:EnvT G) {L:List RN} (hn:L.length≤65536) (hbd:∀x∈L,x.name.length≤1000000000∧x.text.length≤1000000000) (H:AHeap) :
    ACalls Tryz.prog G 21 [.agg [.lst L.length (rnsH L)]] H (CkPost L H):=by
  refine ACalls.of Tryz.func21 S21_eq R21 N21 rfl rfl ?_
  have d2:decide ((L.length:Int)>65536)=false:=by simp;omega
  by_cases l0:L.length<1
  · have d1:decide ((L.length:Int)<1)=true:=by simp;omega
    simp (maxSteps:=400000) only[wF,storeA,reduceCtorEq,Nat.reduceAdd,Nat.reduceSub,Nat.reduceEqDiff,Nat.reduceLeDiff,Int.reduceToNat,Int.reduceLE,Int.reduceLT,Int.reduceAdd,Int.reduceNeg,Nat.reduceMul,S21,N21,R21,T21,AV.boxable,d1]
    refine⟨.inr rfl,by simp only[AHeap.next_allocAt];omega,fun j hj=>?_⟩
    rw[AHeap.get_allocAt_ne _ _ (by omega)]
  have d1:decide ((L.length:Int)<1)=false:=by simp;omega
  have q0:((0:Int)<(L.length:Int))=True:=by simp;omega
  obtain⟨l,hl⟩:∃l,l=L.map ndOf:=⟨_,rfl⟩
  have hll:l.length=L.length:=by rw[hl,List.length_map]
  have lget:∀(j:Nat) (h:j<L.length),l.getD j nd0=ndOf L[j]:=fun j h=>by
    rw[hl,List.getD_eq_getElem?_getD,List.getElem?_eq_getElem (by rw[List.length_map];exact h),List.getElem_map];rfl
  have hg0:=lget 0 (by omega)
  have g3:(rnsH L)[3]?=some (.int .i64 (L[0]'(by omega)).up):=by
    have:=rnsH_at L 0 (by omega)
    have e:(rnsH L)[3]?=(((rnsH L).drop (0*4)).take 4)[3]?:=by rw[List.getElem?_take,if_pos (by omega),List.getElem?_drop]
    rw[e,this];rfl
  by_cases hup0:(L[0]'(by omega)).up = -1
  case neg=>
    have n1:((L[0]'(by omega)).up != -1)=true:=by rw[bne_iff_ne];exact hup0
    simp (maxSteps:=400000) only[wF,storeA,reduceCtorEq,Nat.reduceAdd,Nat.reduceSub,Nat.reduceEqDiff,Nat.reduceLeDiff,Int.reduceToNat,Int.reduceLE,Int.reduceLT,Int.reduceAdd,Int.reduceNeg,Nat.reduceMul,S21,N21,R21,T21,AV.boxable,d1,d2,q0,g3,n1,indexAddrA,Int.toNat_natCast,Nat.zero_mul,Nat.zero_add]
    refine⟨.inr rfl,by simp only[AHeap.next_allocAt];omega,fun j hj=>?_⟩
    rw[AHeap.get_allocAt_ne _ _ (by omega)]
  have n1:((-1:Int) != -1)=false:=rfl
  rw[hup0]at g3
  have m1:((0:Int)≤(L.length:Int))=True:=by simp
  have m2:((L.length:Int)≤(maxApp:Int))=True:=by simp[maxApp];omega
  have u1:(H.next=H.next+1)=False:=by simp
  have u2:(H.next+1=H.next)=False:=by simp
  have u3:(H.next=H.next+2)=False:=by simp
  have u4:(H.next+1=H.next+2)=False:=by simp
  simp (maxSteps:=400000) only[wF,storeA,reduceCtorEq,Nat.reduceAdd,Nat.reduceSub,Nat.reduceEqDiff,Nat.reduceLeDiff,Int.reduceToNat,Int.reduceLE,Int.reduceLT,Int.reduceAdd,Int.reduceNeg,Nat.reduceMul,S21,N21,R21,T21,AV.boxable,d1,d2,q0,g3,n1,indexAddrA,makeA,m1,m2,u1,u2,u3,u4,Int.toNat_natCast,Int.le_refl]
  have zl:∀(z:AV) (n:Nat),zerosA [z] n=List.replicate n z:=fun z n=>by
    induction n with
    | zero=>rfl
    | succ n ih=>simp only[zerosA,ih,List.cons_append,List.nil_append,List.replicate_succ]
  rw[zl]
  refine⟨by simp;omega,?_⟩
  generalize hX0:AHeap.set _ (H.next+1+1) _=X0
  have x0:X0.get H.next=some (.cells 25 [.lst L.length (rnsH L)]):=by rw[←hX0,AHeap.get_set_ne _ _ (by omega),AHeap.get_allocAt_ne _ _ (by omega),AHeap.get_allocAt_ne _ _ (by omega),AHeap.get_allocAt_same]
  have x1:X0.get (H.next+1)=some (.row 3 1 (List.replicate L.length (.int .i64 0))):=by rw[←hX0,AHeap.get_set_ne _ _ (by omega),AHeap.get_allocAt_ne _ _ (by omega),AHeap.get_allocAt_same]
  have x2:X0.get (H.next+2)=some (.row 3 1 ((List.replicate L.length (.int .i64 0)).set 0 (.int .i64 1))):=by rw[←hX0,AHeap.get_set_same]
  have xn:X0.next=H.next+3:=by rw[←hX0];simp only[AHeap.next_set,AHeap.next_allocAt];omega
  have xo:∀j,j<H.next→X0.get j=H.get j:=fun j hj=>by rw[←hX0,AHeap.get_set_ne _ _ (by omega),AHeap.get_allocAt_ne _ _ (by omega),AHeap.get_allocAt_ne _ _ (by omega),AHeap.get_allocAt_ne _ _ (by omega)]
  clear hX0
  refine ATrS.loopK (κ:=Nat × List AV × List AV × AHeap) (fun c=>[.und,.ptr H.next 0,.und,.slc (H.next+1) L.length,.slc (H.next+2) L.length]++List.replicate 31 .und++[.lst L.length (rnsH L),.int .i64 L.length,.int .i64 c.1]++List.replicate 73 .und) (fun c=>c.2.2.2)
    (ChkR L H) (fun c=>L.length-c.1) ⟨(0,_,_,X0),⟨Nat.zero_le _,List.length_replicate,by rw[List.length_set,List.length_replicate],?_,?_,x0,x1,x2,by simp only;omega,xo,fun j _ h=>absurd h (by simp),⟨by rw[←hl,hg0];exact hup0,fun j h=>absurd h (by simp),fun j h=>absurd h (by simp),fun j _ h=>absurd h (by simp),fun j _ h=>absurd h (by simp),fun j _ h=>absurd h (by simp),fun j _ h=>absurd h (by simp),fun j _ h=>absurd h (by simp)⟩⟩,by simp[Fg],HW.refl _⟩ ?_
  · intro u hu
    simp only[List.getElem?_replicate,if_pos hu]
    rfl
  · intro k hk h
    have:k=0:=by rcases h with h | h;simp only at h;omega;exact h
    subst this
    simp only
    rw[List.getElem?_set_self (by rw[List.length_replicate];exact hk)]
    rfl
  clear x0 x1 x2 xo xn
  rintro⟨i,ll,dl,J⟩ ⟨hi,hlll,hdl,hlast,hdeep,gc,gl,gd,hnn,hJ,hkn,hV⟩
  simp only at hi hlll hdl hlast hdeep gc gl gd hnn hJ hkn hV
  rw[←hl]at hlast hdeep hV
  by_cases hlt:i<L.length
  case neg=>
    have d3:decide ((i:Int)<(L.length:Int))=false:=by simp;omega
    simp (maxSteps:=400000) only[wF,storeA,reduceCtorEq,Nat.reduceAdd,Nat.reduceSub,Nat.reduceEqDiff,Nat.reduceLeDiff,Int.reduceToNat,Int.reduceLE,Int.reduceLT,Int.reduceAdd,Int.reduceNeg,Nat.reduceMul,T21,d3]
    have hie:i=L.length:=by omega
    subst hie
    refine⟨.inl ⟨rfl,?_,rnsH_eq fun j h=>hkn j h h⟩,by omega,hJ⟩
    rw[←hl]
    exact⟨by omega,by omega,hV.up0,fun j h=>hV.kind j (by omega),fun j h=>hV.allowed j (by omega),fun j h=>by
      rw[lget j (by omega)]
      exact hbd _ (List.getElem_mem _),fun j h h2=>hV.up j h (by omega),fun j h h2=>hV.above j h (by omega),fun j h h2=>hV.doc j h (by omega),fun j h h2=>hV.placed j h (by omega),fun j h h2=>hV.deep j h (by omega)⟩
  have hil:i<l.length:=by omega
  have d3:decide ((i:Int)<(L.length:Int))=true:=by simp;omega
  have q1:((i:Int)<(L.length:Int))=True:=by simp;omega
  have hat:=rnsH_at L i hlt
  have hle:(i*4+4≤(rnsH L).length)=True:=by rw[rnsH_len];simp;omega
  have hbx:=hbd L[i] (List.getElem_mem _)
  have hgi:=lget i hlt
  generalize hlx:L[i]=x at hat hbx hgi
  simp only[rnH]at hat
  have ew:IntKind.i64.wrap ((i:Int)+1)=((i+1:Nat):Int):=by rw[wrap64]<;>omega
  simp (maxSteps:=400000) only[wF,storeA,reduceCtorEq,Nat.reduceAdd,Nat.reduceSub,Nat.reduceEqDiff,Nat.reduceLeDiff,Int.reduceToNat,Int.reduceLE,Int.reduceLT,Int.reduceAdd,Int.reduceNeg,Nat.reduceMul,T21,d3,q1,hat,hle,indexAddrA,AV.boxable]
  generalize hX1:AHeap.set _ J.next _=X1
  have y0:X1.get J.next=some (.cells 36 [.int .i64 x.kind,.str x.name,.str x.text,.int .i64 x.up]):=by rw[←hX1,AHeap.get_set_same]
  have yc:X1.get H.next=some (.cells 25 [.lst L.length (rnsH L)]):=by rw[←hX1,AHeap.get_set_ne _ _ (by omega),AHeap.get_allocAt_ne _ _ (by omega)];exact gc
  have yl:X1.get (H.next+1)=some (.row 3 1 ll):=by rw[←hX1,AHeap.get_set_ne _ _ (by omega),AHeap.get_allocAt_ne _ _ (by omega)];exact gl
  have yd:X1.get (H.next+2)=some (.row 3 1 dl):=by rw[←hX1,AHeap.get_set_ne _ _ (by omega),AHeap.get_allocAt_ne _ _ (by omega)];exact gd
  have yn:X1.next=J.next+1:=by rw[←hX1];simp only[AHeap.next_set,AHeap.next_allocAt];omega
  have yo:∀j,j<H.next→X1.get j=H.get j:=fun j hj=>by rw[←hX1,AHeap.get_set_ne _ _ (by omega),AHeap.get_allocAt_ne _ _ (by omega)];exact hJ j hj
  clear hX1
  refine AInv.pureK B56 (t_allowed1n_ok E X T hbx.1 hbx.2) fun H1 h1=>?_
  have p1:=h1.1
  have w0:=(congrFun h1.2 _).trans y0
  have wc:=(congrFun h1.2 _).trans yc
  have wl:=(congrFun h1.2 _).trans yl
  have wd:=(congrFun h1.2 _).trans yd
  have wo:∀j,j<H.next→H1.get j=H.get j:=fun j hj=>(congrFun h1.2 _).trans (yo j hj)
  by_cases hal:(decide (0≤x.kind∧x.kind≤5)&&allowedS x.kind.toNat x.name x.text)=true
  case neg=>
    have hal:(decide (0≤x.kind∧x.kind≤5)&&allowedS x.kind.toNat x.name x.text)=false:=Bool.eq_false_iff.2 hal
    rw[hal]
    simp (maxSteps:=400000) only[wF,storeA,reduceCtorEq,Nat.reduceAdd,Nat.reduceSub,Nat.reduceEqDiff,Nat.reduceLeDiff,Int.reduceToNat,Int.reduceLE,Int.reduceLT,Int.reduceAdd,Int.reduceNeg,Nat.reduceMul,T21,Bool.not_false]
    exact⟨.inr rfl,by omega,wo⟩
  rw[hal]
  rw[Bool.and_eq_true,decide_eq_true_eq]at hal
  obtain⟨⟨k0,k5⟩,hal⟩:=hal
  have hkn':∀(j:Nat) (h:j<L.length),j<i+1→0≤L[j].kind:=fun j h hj=>by
    by_cases e:j=i
    · subst e;rw[hlx];exact k0
    · exact hkn j h (by omega)
  have hcov:Cov (rnsH L) l (i+1):=hl▸cov_of hkn'
  have hcov0:Cov (rnsH L) l i:=hcov.low (by omega)
  have hgk:(l.getD i nd0).kind=x.kind.toNat:=by rw[hgi];rfl
  have hgn:(l.getD i nd0).name=x.name:=by rw[hgi];rfl
  have hgt:(l.getD i nd0).text=x.text:=by rw[hgi];rfl
  have hgu:(l.getD i nd0).up=x.up:=by rw[hgi];rfl
  by_cases hi0:i=0
  · subst hi0
    have z00:(((0:Nat):Int)==0)=true:=rfl
    simp (maxSteps:=400000) only[wF,storeA,reduceCtorEq,Nat.reduceAdd,Nat.reduceSub,Nat.reduceEqDiff,Nat.reduceLeDiff,Int.reduceToNat,Int.reduceLE,Int.reduceLT,Int.reduceAdd,Int.reduceNeg,Nat.reduceMul,T21,Bool.not_true,ew,z00]
    refine⟨(1,ll,dl,H1),⟨hlt,hlll,hdl,hl▸hlast,hl▸fun k hk h=>?_,wc,wl,wd,by simp only;omega,wo,hkn',hl▸⟨hV.up0,fun j h=>?_,fun j h=>?_,fun j h1 h2=>?_,fun j h1 h2=>?_,fun j h1 h2=>?_,fun j h1 h2=>?_,fun j h1 h2=>?_⟩⟩,by simp only;omega,by simp[Fg],HW.refl _⟩
    · have:k=0:=by rcases h with h | h;simp only at h;omega;exact h
      exact hdeep k hk (.inr this)
    · have:j=0:=by simp only at h;omega
      subst this;rw[hgk];omega
    · have:j=0:=by simp only at h;omega
      subst this;rw[hgk,hgn,hgt];exact hal
    all_goals (simp only at h2;omega)
  have hip:0<i:=by omega
  have e0:((i:Int)==0)=false:=by rw[beq_eq_false_iff_ne];omega
  by_cases c1:x.up<0
  · have e1:decide (x.up<0)=true:=decide_eq_true c1
    simp (maxSteps:=400000) only[wF,storeA,reduceCtorEq,Nat.reduceAdd,Nat.reduceSub,Nat.reduceEqDiff,Nat.reduceLeDiff,Int.reduceToNat,Int.reduceLE,Int.reduceLT,Int.reduceAdd,Int.reduceNeg,Nat.reduceMul,T21,Bool.not_true,w0,wc,e0,e1]
    exact⟨.inr rfl,by omega,wo⟩
  by_cases c2:x.up≥(i:Int)
  · have e1:decide (x.up<0)=false:=decide_eq_false c1
    have e2:decide (x.up≥(i:Int))=true:=decide_eq_true c2
    simp (maxSteps:=400000) only[wF,storeA,reduceCtorEq,Nat.reduceAdd,Nat.reduceSub,Nat.reduceEqDiff,Nat.reduceLeDiff,Int.reduceToNat,Int.reduceLE,Int.reduceLT,Int.reduceAdd,Int.reduceNeg,Nat.reduceMul,T21,Bool.not_true,w0,wc,e0,e1,e2]
    exact⟨.inr rfl,by omega,wo⟩
  obtain⟨u,hue⟩:∃u:Nat,x.up=u:=⟨x.up.toNat,by omega⟩
  have hut:x.up.toNat=u:=by omega
  rw[hue]at w0
  have hui:u<i:=by omega
  have hul:u<L.length:=by omega
  have e1:decide ((u:Int)<0)=false:=by simp
  have e2:decide ((u:Int)≥(i:Int))=false:=by simp;omega
  have e3:IntKind.i64.wrap ((i:Int)-1)=((i-1:Nat):Int):=by rw[wrap64]<;>omega
  have hup:UpOk l (i-1):=fun k k1 k2=>hV.up k k1 (by omega)
  have hup':UpOk l i:=fun k k1 k2=>by
    by_cases e:k=i
    · subst e;rw[hgu];omega
    · exact hV.up k k1 (by omega)
  simp (maxSteps:=400000) only[wF,storeA,reduceCtorEq,Nat.reduceAdd,Nat.reduceSub,Nat.reduceEqDiff,Nat.reduceLeDiff,Int.reduceToNat,Int.reduceLE,Int.reduceLT,Int.reduceAdd,Int.reduceNeg,Nat.reduceMul,T21,Bool.not_true,w0,wc,e0,e1,e2,e3]
  have hab:=t_aboveC_ok G (cs:=rnsH L) (l:=l) (a:=u) (i:=i-1) (hcov.low (by omega)) (by omega) hup
  rw[hll]at hab
  refine AInv.pureK B36 hab fun H2 h2=>?_
  have p2:=h2.1
  have a0:=(congrFun h2.2 _).trans w0
  have ac:=(congrFun h2.2 _).trans wc
  have al:=(congrFun h2.2 _).trans wl
  have ad:=(congrFun h2.2 _).trans wd
  have ao:∀j,j<H.next→H2.get j=H.get j:=fun j hj=>(congrFun h2.2 _).trans (wo j hj)
  cases hav:aboveN l u (i-1)with
  | false=>
    simp (maxSteps:=400000) only[wF,storeA,reduceCtorEq,Nat.reduceAdd,Nat.reduceSub,Nat.reduceEqDiff,Nat.reduceLeDiff,Int.reduceToNat,Int.reduceLE,Int.reduceLT,Int.reduceAdd,Int.reduceNeg,Nat.reduceMul,T21,Bool.not_false]
    exact⟨.inr rfl,by omega,ao⟩
  | true=>
  by_cases hk0:x.kind=0
  · have e4:(x.kind==0)=true:=beq_iff_eq.2 hk0
    simp (maxSteps:=400000) only[wF,storeA,reduceCtorEq,Nat.reduceAdd,Nat.reduceSub,Nat.reduceEqDiff,Nat.reduceLeDiff,Int.reduceToNat,Int.reduceLE,Int.reduceLT,Int.reduceAdd,Int.reduceNeg,Nat.reduceMul,T21,Bool.not_true,a0,e4]
    exact⟨.inr rfl,by omega,ao⟩
  have e4:(x.kind==0)=false:=by rw[beq_eq_false_iff_ne];exact hk0
  have hdu:dl[u]?=some (.int .i64 (depN l u u)):=hdeep u hul (.inl hui)
  have hlu:ll[u]?=some (.int .i64 (lastN l u i)):=hlast u hul
  have hdle:=depN_le l u u
  have v9:=@depN_step l i hup' hip
  rw[hgu,hut]at v9
  have e5:IntKind.i64.wrap (((depN l u u:Nat):Int)+1)=((depN l i i:Nat):Int):=by
    rw[v9,wrap64]<;>omega
  have qu:((u:Int)<(L.length:Int))=True:=by simp;omega
  have hu4:(J.next=H.next+2)=False:=by simp;omega
  have hu5:(H.next=H.next+2)=False:=by simp
  have hu6:(H.next+1=H.next+2)=False:=by simp
  have hdi:(i+1≤dl.length)=True:=by simp;omega
  simp (maxSteps:=400000) only[wF,storeA,reduceCtorEq,Nat.reduceAdd,Nat.reduceSub,Nat.reduceEqDiff,Nat.reduceLeDiff,Int.reduceToNat,Int.reduceLE,Int.reduceLT,Int.reduceAdd,Int.reduceNeg,Nat.reduceMul,T21,Bool.not_true,a0,ac,al,ad,e4,qu,hdu,e5,indexAddrA,Nat.mul_one,q1,hdi]
  generalize hX2:AHeap.set _ (H.next+2) _=X2
  have b0:X2.get J.next=some (.cells 36 [.int .i64 x.kind,.str x.name,.str x.text,.int .i64 u]):=by rw[←hX2,AHeap.get_set_ne _ _ (by omega)];exact a0
  have bc:X2.get H.next=some (.cells 25 [.lst L.length (rnsH L)]):=by rw[←hX2,AHeap.get_set_ne _ _ (by omega)];exact ac
  have bl:X2.get (H.next+1)=some (.row 3 1 ll):=by rw[←hX2,AHeap.get_set_ne _ _ (by omega)];exact al
  have bd:X2.get (H.next+2)=some (.row 3 1 (dl.set i (.int .i64 (depN l i i)))):=by rw[←hX2,AHeap.get_set_same]
  have bn:X2.next=H2.next:=by rw[←hX2];rfl
  have bo:∀j,j<H.next→X2.get j=H.get j:=fun j hj=>by rw[←hX2,AHeap.get_set_ne _ _ (by omega)];exact ao j hj
  clear hX2
  have hblt:=lastN_lt l u i
  have hpc:=t_placedC_ok G (cs:=rnsH L) (l:=l) (i:=i) (before:=lastN l u i) hcov (by omega) (by omega) ⟨by rw[hgu];omega,by rw[hgu];omega⟩ (by omega)
  rw[hll]at hpc
  have hdi2:(dl.set i (.int .i64 (depN l i i):AV))[i]?=some (.int .i64 (depN l i i)):=List.getElem?_set_self (by omega)
  refine drawW_ok (ex:=false) mixedOrders L21_15_eq P21_15_eq ?_
  simp (maxSteps:=400000) only[wF,storeA,reduceCtorEq,Nat.reduceAdd,Nat.reduceSub,Nat.reduceEqDiff,Nat.reduceLeDiff,Int.reduceToNat,Int.reduceLE,Int.reduceLT,Int.reduceAdd,Int.reduceNeg,Nat.reduceMul,L21_15,T21,b0,bc,bl,bd,qu,hlu,indexAddrA,Nat.mul_one]
  refine callW.pure B57 hpc ?_
  cases hpv:placedN l i (lastN l u i)with
  | false=>
    simp (maxSteps:=400000) only[wF,storeA,reduceCtorEq,Nat.reduceAdd,Nat.reduceSub,Nat.reduceEqDiff,Nat.reduceLeDiff,Int.reduceToNat,Int.reduceLE,Int.reduceLT,Int.reduceAdd,Int.reduceNeg,Nat.reduceMul,T21,b0,bc,bl,bd,Bool.not_false]
    intro m hm
    first
      | (simp (maxSteps:=400000) only[wF,storeA,reduceCtorEq,Nat.reduceAdd,Nat.reduceSub,Nat.reduceEqDiff,Nat.reduceLeDiff,Int.reduceToNat,Int.reduceLE,Int.reduceLT,Int.reduceAdd,Int.reduceNeg,Nat.reduceMul,T21]
         exact⟨.inr rfl,by simp only;omega,bo⟩)
      | exact⟨.inr rfl,by simp only;omega,bo⟩
  | true=>
  have fin:∀(m:Nat) (X3:AHeap),((x.kind≠2)→depN l i i≤200)→X2.next≤m→X3.next=m→X3.get=X2.get→ChkR L H (i+1,ll.set u (.int .i64 i),dl.set i (.int .i64 (depN l i i)),X3.set (H.next+1) (.row 3 1 (ll.set u (.int .i64 i)))):=by
    intro m X3 hdp hm h3n h3
    have up1:∀{p:Nat→Prop},(∀j,j<i→p j)→p i→∀j,j<i+1→p j:=fun h1 h2 j hj=>by
      by_cases e:j=i
      · subst e;exact h2
      · exact h1 j (by omega)
    refine⟨hlt,by simp only[List.length_set];exact hlll,by simp only[List.length_set];exact hdl,hl▸fun v hvl=>?_,hl▸fun k hk h=>?_,?_,?_,?_,?_,fun j hj=>?_,hkn',hl▸⟨hV.up0,up1 hV.kind (by rw[hgk];omega),up1 hV.allowed (by rw[hgk,hgn,hgt];exact hal),fun j h1 h2=>up1 (p:=fun j=>0<j→0≤(l.getD j nd0).up∧(l.getD j nd0).up<j) (fun j h2 h3=>hV.up j h3 h2) (fun _=>by rw[hgu];omega) j h2 h1,
      fun j h1 h2=>up1 (p:=fun j=>0<j→aboveN l (l.getD j nd0).up.toNat (j-1)=true) (fun j h2 h3=>hV.above j h3 h2) (fun _=>by rw[hgu,hut];exact hav) j h2 h1,
      fun j h1 h2=>up1 (p:=fun j=>0<j→(l.getD j nd0).kind≠0) (fun j h2 h3=>hV.doc j h3 h2) (fun _=>by rw[hgk];omega) j h2 h1,
      fun j h1 h2=>up1 (p:=fun j=>0<j→placedN l j (lastN l (l.getD j nd0).up.toNat j)=true) (fun j h2 h3=>hV.placed j h3 h2) (fun _=>by rw[hgu,hut];exact hpv) j h2 h1,
      fun j h1 h2=>up1 (p:=fun j=>0<j→(l.getD j nd0).kind≠2→depN l j j≤200) (fun j h2 h3=>hV.deep j h3 h2) (fun _ h=>hdp (by rw[hgk]at h;omega)) j h2 h1⟩⟩
    · simp only[lastN]
      by_cases hvu:v=u
      · subst hvu
        rw[List.getElem?_set_self (by omega),if_pos ⟨hip,by rw[hgu];exact hue⟩]
      · rw[List.getElem?_set_ne (Ne.symm hvu),if_neg (by rintro⟨_,h⟩;rw[hgu,hue]at h;omega)]
        exact hlast v hvl
    · simp only at h ⊢
      by_cases hki:k=i
      · subst hki;exact hdi2
      · rw[List.getElem?_set_ne (Ne.symm hki)]
        exact hdeep k hk (by omega)
    · simp only;rw[AHeap.get_set_ne _ _ (by omega),h3];exact bc
    · simp only;rw[AHeap.get_set_same]
    · simp only;rw[AHeap.get_set_ne _ _ (by omega),h3];exact bd
    · simp only[AHeap.next_set];omega
    · simp only;rw[AHeap.get_set_ne _ _ (by omega),h3];exact bo j hj
  have hui2:(u+1≤ll.length)=True:=by simp;omega
  by_cases hk2:x.kind=2
  · have e6:(x.kind != 2)=false:=by rw[hk2];rfl
    simp (maxSteps:=400000) only[wF,storeA,reduceCtorEq,Nat.reduceAdd,Nat.reduceSub,Nat.reduceEqDiff,Nat.reduceLeDiff,Int.reduceToNat,Int.reduceLE,Int.reduceLT,Int.reduceAdd,Int.reduceNeg,Nat.reduceMul,T21,b0,bc,bl,bd,e6,Bool.not_true]
    intro m hm
    generalize hX3:(⟨m,X2.get⟩:AHeap)=X3
    have h3:X3.get=X2.get:=by rw[←hX3]
    have h3n:X3.next=m:=by rw[←hX3]
    have z0:=(congrFun h3 _).trans b0
    have zc:=(congrFun h3 _).trans bc
    have zl:=(congrFun h3 _).trans bl
    simp (maxSteps:=400000) only[wF,storeA,reduceCtorEq,Nat.reduceAdd,Nat.reduceSub,Nat.reduceEqDiff,Nat.reduceLeDiff,Int.reduceToNat,Int.reduceLE,Int.reduceLT,Int.reduceAdd,Int.reduceNeg,Nat.reduceMul,T21,z0,zc,zl,b0,bc,bl,qu,hui2,indexAddrA,Nat.mul_one,ew]
    exact⟨_,fin m X3 (fun h=>absurd hk2 h) hm h3n h3,by simp only;omega,by simp[Fg],HW.refl _⟩
  · have e6:(x.kind != 2)=true:=by rw[bne_iff_ne];exact hk2
    by_cases hdp:200<depN l i i
    · have e7:decide (((depN l i i:Nat):Int)>200)=true:=by simp;omega
      simp (maxSteps:=400000) only[wF,storeA,reduceCtorEq,Nat.reduceAdd,Nat.reduceSub,Nat.reduceEqDiff,Nat.reduceLeDiff,Int.reduceToNat,Int.reduceLE,Int.reduceLT,Int.reduceAdd,Int.reduceNeg,Nat.reduceMul,T21,b0,bc,bl,bd,e6,e7,q1,hdi2,Bool.not_true,indexAddrA,Nat.mul_one]
      intro m hm
      first
        | (simp (maxSteps:=400000) only[wF,storeA,reduceCtorEq,Nat.reduceAdd,Nat.reduceSub,Nat.reduceEqDiff,Nat.reduceLeDiff,Int.reduceToNat,Int.reduceLE,Int.reduceLT,Int.reduceAdd,Int.reduceNeg,Nat.reduceMul,T21]
           exact⟨.inr rfl,by simp only;omega,bo⟩)
        | exact⟨.inr rfl,by simp only;omega,bo⟩
    have e7:decide (((depN l i i:Nat):Int)>200)=false:=by simp;omega
    simp (maxSteps:=400000) only[wF,storeA,reduceCtorEq,Nat.reduceAdd,Nat.reduceSub,Nat.reduceEqDiff,Nat.reduceLeDiff,Int.reduceToNat,Int.reduceLE,Int.reduceLT,Int.reduceAdd,Int.reduceNeg,Nat.reduceMul,T21,b0,bc,bl,bd,e6,e7,q1,hdi2,Bool.not_true,indexAddrA,Nat.mul_one]
    intro m hm
    generalize hX3:(⟨m,X2.get⟩:AHeap)=X3
    have h3:X3.get=X2.get:=by rw[←hX3]
    have h3n:X3.next=m:=by rw[←hX3]
    have z0:=(congrFun h3 _).trans b0
    have zc:=(congrFun h3 _).trans bc
    have zl:=(congrFun h3 _).trans bl
    simp (maxSteps:=400000) only[wF,storeA,reduceCtorEq,Nat.reduceAdd,Nat.reduceSub,Nat.reduceEqDiff,Nat.reduceLeDiff,Int.reduceToNat,Int.reduceLE,Int.reduceLT,Int.reduceAdd,Int.reduceNeg,Nat.reduceMul,T21,z0,zc,zl,b0,bc,bl,qu,hui2,indexAddrA,Nat.mul_one,ew]
    exact⟨_,fin m X3 (fun _=>by omega) hm h3n h3,by simp only;omega,by simp[Fg],HW.refl _⟩
end Go.Ab
