/- tree's placed with what it calls, walked. -/
import Derived.Test.YtojncnpmlhhccaaGreatDoorHT7
import Derived.Test.YtojncnpmlhhccaaGreatDoorCodesH3
set_option linter.all false
namespace Go.Ab
open Go Go.Lib Go.Proofs
theorem t_placed1_ok (G:Nat→Option (List AV)) {H:AHeap} {k:Nat} {x:Nd} (y:Nd) (hk:H.get k=some (.cells 36 (ndH x))) (hkn:k<H.next) :
  ACalls Tryz.prog G 91 [.agg (ndH y),.ptr k 0] H fun r H'=>r = .ret (.bool (y.name==x.name):AV)∧Keeps H H':=by
 refine ACalls.keep (ACalls.of Tryz.func91 S91_eq R91 N91 rfl rfl ?_)
 simp only[ndH]at hk ⊢
 have u1:(k=H.next)=False:=by simp;omega
 simp (maxSteps:=400000) only[wF,storeA,reduceCtorEq,Nat.reduceAdd,Nat.reduceSub,Nat.reduceEqDiff,Nat.reduceLeDiff,Int.reduceToNat,Int.reduceLE,Int.reduceLT,Int.reduceAdd,Int.reduceNeg,Nat.reduceMul,S91,N91,R91,T91,AV.boxable,hk,u1]
 refine⟨by omega,fun j hj=>?_⟩
 rw[if_neg (by omega)]
def idxF (s:List UInt8):List Nd→Nat→Int
 | [],_ => -1
 | y::l,c=>if(y.name==s)=true then c else idxF s l (c+1)
theorem idxF_any (s:List UInt8):∀(l:List Nd) (c:Nat),decide ((0:Int)≤idxF s l c)=l.any fun y=>y.name==s
 | [],c=>rfl
 | y::l,c=>by
  by_cases h:(y.name==s)=true
  ·have e:idxF s (y::l) c=c:=by simp only[idxF,if_pos h]
   rw[e,List.any_cons,h];simp
  ·have e:idxF s (y::l) c=idxF s l (c+1):=by simp only[idxF,if_neg h]
   rw[e,List.any_cons,idxF_any s l (c+1),Bool.not_eq_true _ |>.mp h];rfl
def IxAt (s:List UInt8) (m:List Nd) (H:AHeap) (x:Nat × AHeap):Prop:=x.1≤m.length∧idxF s (m.drop x.1) x.1=idxF s m 0∧Keeps H x.2
set_option maxHeartbeats 4000000 in
set_option maxRecDepth 100000 in
theorem sl_IndexFunc_ok (G:Nat→Option (List AV)) {H:AHeap} {k:Nat} {x:Nd} {m:List Nd} {cs:List AV} (hcs:∀(i:Nat) (h:i<m.length),(cs.drop (i*4)).take 4=ndH m[i]) (hlen:m.length*4≤cs.length) (hm:m.length≤1000000000)
  (hk:H.get k=some (.cells 36 (ndH x))) (hkn:k<H.next) :
  ACalls Tryz.prog G 129 [.lst m.length cs,.func 91 [.ptr k 0]] H fun r H'=>r = .ret (.int .i64 (idxF x.name m 0))∧Keeps H H':=by
 refine ACalls.of Tryz.func129 S129_eq R129 N129 rfl rfl ?_
 simp (maxSteps:=400000) only[wF,storeA,reduceCtorEq,Nat.reduceAdd,Nat.reduceSub,Nat.reduceEqDiff,Nat.reduceLeDiff,Int.reduceToNat,Int.reduceLE,Int.reduceLT,Int.reduceAdd,Int.reduceNeg,Nat.reduceMul,S129,N129,R129,T129]
 refine ATrS.loopK (κ:=Nat × AHeap) (fun c=>[.lst m.length cs,.func 91 [.ptr k 0],.und,.und,.und,.und,.und,.int .i64 m.length,.int .i64 c.1]++List.replicate 10 .und) (fun c=>c.2)
  (IxAt x.name m H) (fun c=>m.length-c.1) ⟨(0,H),⟨Nat.zero_le _,rfl,Keeps.refl H⟩,by simp[Fg],HW.refl _⟩ ?_
 rintro⟨c,J⟩ ⟨hc,hi,hJ⟩
 simp only at hc hi hJ
 by_cases hlt:c<m.length
 ·have d1:decide ((c:Int)<(m.length:Int))=true:=by simp;omega
  have q1:((c:Int)<(m.length:Int))=True:=by simp;omega
  have hat:=hcs c hlt
  have hle:(c*4+4≤cs.length)=True:=by simp;omega
  have ew:IntKind.i64.wrap ((c:Int)+1)=((c+1:Nat):Int):=by rw[wrap64]<;>omega
  rw[List.drop_eq_getElem_cons hlt]at hi
  simp only[idxF]at hi
  generalize m[c]=y at hat hi
  have hkJ:J.get k=some (.cells 36 (ndH x)):=by rw[hJ.2];exact hk
  simp (maxSteps:=400000) only[wF,storeA,reduceCtorEq,Nat.reduceAdd,Nat.reduceSub,Nat.reduceEqDiff,Nat.reduceLeDiff,Int.reduceToNat,Int.reduceLE,Int.reduceLT,Int.reduceAdd,Int.reduceNeg,Nat.reduceMul,T129,d1,q1,indexAddrA,hat,hle]
  refine AInv.retK B91 (t_placed1_ok G y hkJ (by have:=hJ.1;omega)) ?_ (fun v J2 hq=>by cases hq.1)
  rintro v J2 ⟨hv,h2⟩
  cases hv
  cases hb:(y.name==x.name)with
  | true=>
   rw[hb,if_pos rfl]at hi
   simp (maxSteps:=400000) only[wF,storeA,reduceCtorEq,Nat.reduceAdd,Nat.reduceSub,Nat.reduceEqDiff,Nat.reduceLeDiff,Int.reduceToNat,Int.reduceLE,Int.reduceLT,Int.reduceAdd,Int.reduceNeg,Nat.reduceMul,]
   exact⟨by rw[hi],hJ.trans h2⟩
  | false=>
   rw[hb,if_neg (by simp)]at hi
   simp (maxSteps:=400000) only[wF,storeA,reduceCtorEq,Nat.reduceAdd,Nat.reduceSub,Nat.reduceEqDiff,Nat.reduceLeDiff,Int.reduceToNat,Int.reduceLE,Int.reduceLT,Int.reduceAdd,Int.reduceNeg,Nat.reduceMul,ew]
   exact⟨(c+1,J2),⟨hlt,hi,hJ.trans h2⟩,by simp only;omega,by simp[Fg],HW.refl _⟩
 ·have d1:decide ((c:Int)<(m.length:Int))=false:=by simp;omega
  have hce:c=m.length:=by omega
  subst hce
  rw[List.drop_length]at hi
  simp only[idxF]at hi
  simp (maxSteps:=400000) only[wF,storeA,reduceCtorEq,Nat.reduceAdd,Nat.reduceSub,Nat.reduceEqDiff,Nat.reduceLeDiff,Int.reduceToNat,Int.reduceLE,Int.reduceLT,Int.reduceAdd,Int.reduceNeg,Nat.reduceMul,d1]
  exact⟨by rw[←hi],hJ⟩
theorem sl_ContainsFunc_ok (G:Nat→Option (List AV)) {H:AHeap} {k:Nat} {x:Nd} {m:List Nd} {cs:List AV} (hcs:∀(i:Nat) (h:i<m.length),(cs.drop (i*4)).take 4=ndH m[i]) (hlen:m.length*4≤cs.length) (hm:m.length≤1000000000)
  (hk:H.get k=some (.cells 36 (ndH x))) (hkn:k<H.next) :
  ACalls Tryz.prog G 90 [.lst m.length cs,.func 91 [.ptr k 0]] H fun r H'=>r = .ret (.bool (m.any fun y=>y.name==x.name))∧Keeps H H':=by
 refine ACalls.of Tryz.func90 S90_eq R90 N90 rfl rfl ?_
 simp (maxSteps:=400000) only[wF,storeA,reduceCtorEq,Nat.reduceAdd,Nat.reduceSub,Nat.reduceEqDiff,Nat.reduceLeDiff,Int.reduceToNat,Int.reduceLE,Int.reduceLT,Int.reduceAdd,Int.reduceNeg,Nat.reduceMul,S90,N90,R90,T90]
 refine AInv.retK B129 (sl_IndexFunc_ok G hcs hlen hm hk hkn) ?_ (fun v J2 hq=>by cases hq.1)
 rintro v J2 ⟨hv,h2⟩
 cases hv
 simp (maxSteps:=400000) only[wF,storeA,reduceCtorEq,Nat.reduceAdd,Nat.reduceSub,Nat.reduceEqDiff,Nat.reduceLeDiff,Int.reduceToNat,Int.reduceLE,Int.reduceLT,Int.reduceAdd,Int.reduceNeg,Nat.reduceMul,idxF_any]
 first | exact⟨rfl,h2⟩ | exact h2
def placedN (l:List Nd) (i before:Nat):Bool:=
 if(l.getD (l.getD i nd0).up.toNat nd0).kind≠1∧((l.getD (l.getD i nd0).up.toNat nd0).kind≠0∨(l.getD i nd0).kind=2)then false
 else if before=0 then true
 else if(l.getD i nd0).kind=2 then((l.getD before nd0).kind==2) && !(((l.take i).drop ((l.getD i nd0).up.toNat+1)).any fun y=>y.name==(l.getD i nd0).name)
 else((l.getD i nd0).kind != 3)||((l.getD before nd0).kind != 3)
theorem ndsH_take:∀(l:List Nd) (i:Nat),ndsH (l.take i)=(ndsH l).take (i*4)
 | [],i=>by simp[ndsH]
 | a::l,0=>by simp[ndsH]
 | a::l,i+1=>by
  have e:(i+1)*4=i*4+4:=by omega
  have:=ndsH_take l i
  simp only[ndsH,List.take_succ_cons,List.flatMap_cons,ndH,e,List.cons_append,List.nil_append]at this ⊢
  rw[this]
theorem ndsH_drop:∀(l:List Nd) (i:Nat),ndsH (l.drop i)=(ndsH l).drop (i*4)
 | [],i=>by simp[ndsH]
 | a::l,0=>by simp[ndsH]
 | a::l,i+1=>by
  have e:(i+1)*4=i*4+4:=by omega
  have:=ndsH_drop l i
  simp only[ndsH,List.drop_succ_cons,List.flatMap_cons,ndH,e,List.cons_append,List.nil_append]at this ⊢
  exact this
theorem nd_getD {l:List Nd} {i:Nat} (h:i<l.length):l.getD i nd0=l[i]:=by rw[List.getD_eq_getElem?_getD,List.getElem?_eq_getElem h];rfl
set_option maxHeartbeats 8000000 in
set_option maxRecDepth 100000 in
theorem t_placed_ok (G:Nat→Option (List AV)) {l:List Nd} {i before:Nat} (hi:i<l.length) (hl:l.length≤65536) (hu:0≤(l.getD i nd0).up∧(l.getD i nd0).up<i) (hb:before<l.length) :
  PureCall Tryz.prog G 57 [.agg [.lst l.length (ndsH l)],.int .i64 i,.int .i64 before] (.bool (placedN l i before)):=by
 intro H
 refine ACalls.keep (ACalls.of Tryz.func57 S57_eq R57 N57 rfl rfl ?_)
 have hxe:=nd_getD hi
 have hbe:=nd_getD hb
 generalize hX:l.getD i nd0=x at hu hxe
 obtain⟨u,hue⟩:∃u:Nat,x.up=u:=⟨x.up.toNat,by omega⟩
 have hui:u<i:=by omega
 have hul:u<l.length:=by omega
 have hpe:=nd_getD hul
 have gi:=ndsH_at l i hi
 have g3:=ndsH_get l i 3 hi (by omega)
 have gu0:=ndsH_get l u 0 hul (by omega)
 have gb0:=ndsH_get l before 0 hb (by omega)
 have hut:x.up.toNat=u:=by omega
 unfold placedN
 rw[hX,hut]
 generalize l.getD u nd0=p at hpe
 generalize l.getD before nd0=q at hbe
 rw[←hxe]at gi g3
 rw[←hpe]at gu0
 rw[←hbe]at gb0
 have q0:((i:Int)<(l.length:Int))=True:=by simp;omega
 have q1:((u:Int)<(l.length:Int))=True:=by simp;omega
 have q2:((before:Int)<(l.length:Int))=True:=by simp;omega
 have hle:(i*4+4≤(ndsH l).length)=True:=by rw[ndsH_len];simp;omega
 simp only[ndH,hue,List.getElem?_cons_zero,List.getElem?_cons_succ,Nat.add_zero]at gi g3 gu0 gb0
 have u1:(H.next=H.next+1)=False:=by simp
 have u2:(H.next+1=H.next)=False:=by simp
 simp (maxSteps:=400000) only[wF,storeA,reduceCtorEq,Nat.reduceAdd,Nat.reduceSub,Nat.reduceEqDiff,Nat.reduceLeDiff,Int.reduceToNat,Int.reduceLE,Int.reduceLT,Int.reduceAdd,Int.reduceNeg,Nat.reduceMul,S57,N57,R57,T57,AV.boxable]
 refine drawW_fixed mixedOrders L57_1_eq P57_1_eq ?_
 simp (maxSteps:=400000) only[wF,storeA,reduceCtorEq,Nat.reduceAdd,Nat.reduceSub,Nat.reduceEqDiff,Nat.reduceLeDiff,Int.reduceToNat,Int.reduceLE,Int.reduceLT,Int.reduceAdd,Int.reduceNeg,Nat.reduceMul,L57_1,T57,indexAddrA,u1,u2,q0,q1,gi,g3,gu0,hle,AV.boxable]
 refine⟨by simp,?_⟩
 generalize hX0:AHeap.set _ (H.next+1) _=X
 have x0:X.get H.next=some (.cells 25 [.lst l.length (ndsH l)]):=by rw[←hX0,AHeap.get_set_ne _ _ (by omega),AHeap.get_allocAt_ne _ _ (by omega),AHeap.get_allocAt_same]
 have x1:X.get (H.next+1)=some (.cells 36 [.int .i64 x.kind,.str x.name,.str x.text,.int .i64 u]):=by rw[←hX0,AHeap.get_set_same]
 have xn:X.next=H.next+2:=by rw[←hX0];simp only[AHeap.next_set,AHeap.next_allocAt];omega
 have xo:∀j,j<H.next→X.get j=H.get j:=fun j hj=>by rw[←hX0,AHeap.get_set_ne _ _ (by omega),AHeap.get_allocAt_ne _ _ (by omega),AHeap.get_allocAt_ne _ _ (by omega)]
 clear hX0
 have fin:H.next≤X.next∧∀j,j<H.next→X.get j=H.get j:=⟨by omega,xo⟩
 have cast0:∀(n k:Nat),((n:Int)==(k:Int))=decide (n=k):=fun n k=>by
  by_cases h:n=k
  ·subst h;simp
  ·rw[beq_false_of_ne (by omega),decide_eq_false h]
 have castN:∀(n k:Nat),((n:Int) != (k:Int)) = !decide (n=k):=fun n k=>by rw[bne,cast0]
 have e2:=cast0 x.kind 2
 have n1:=castN p.kind 1
 have n0:=castN p.kind 0
 have b0:=cast0 before 0
 have k3:=castN x.kind 3
 have r2:=cast0 q.kind 2
 have r3:=castN q.kind 3
 simp only[Int.cast_ofNat_Int,Int.natCast_zero]at e2 n1 n0 b0 k3 r2 r3
 have ew:IntKind.i64.wrap ((u:Int)+1)=((u+1:Nat):Int):=by rw[wrap64]<;>omega
 by_cases hbad:p.kind≠1∧(p.kind≠0∨x.kind=2)
 ·rw[if_pos hbad]
  rw[decide_eq_false hbad.1]at n1
  by_cases h0:p.kind=0
  ·have h2:x.kind=2:=hbad.2.resolve_left (fun h=>h h0)
   rw[decide_eq_true h0]at n0
   rw[decide_eq_true h2]at e2
   simp (maxSteps:=400000) only[wF,storeA,reduceCtorEq,Nat.reduceAdd,Nat.reduceSub,Nat.reduceEqDiff,Nat.reduceLeDiff,Int.reduceToNat,Int.reduceLE,Int.reduceLT,Int.reduceAdd,Int.reduceNeg,Nat.reduceMul,x1,e2,n1,n0,Bool.not_true,Bool.not_false,T57]
   first | exact⟨rfl,fin⟩ | exact fin
  ·rw[decide_eq_false h0]at n0
   simp (maxSteps:=400000) only[wF,storeA,reduceCtorEq,Nat.reduceAdd,Nat.reduceSub,Nat.reduceEqDiff,Nat.reduceLeDiff,Int.reduceToNat,Int.reduceLE,Int.reduceLT,Int.reduceAdd,Int.reduceNeg,Nat.reduceMul,x1,e2,n1,n0,Bool.not_true,Bool.not_false,T57]
   first | exact⟨rfl,fin⟩ | exact fin
 rw[if_neg hbad]
 have hgood:p.kind=1∨p.kind=0∧x.kind≠2:=by
  by_cases h:p.kind=1
  ·exact .inl h
  ·by_cases h':p.kind=0
   ·exact .inr ⟨h',fun h2=>hbad ⟨h,.inr h2⟩⟩
   ·exact absurd ⟨h,.inl h'⟩ hbad
 by_cases hb0:before=0
 ·rw[if_pos hb0]
  rw[decide_eq_true hb0]at b0
  rcases hgood with hp | ⟨hp,hx2⟩
  ·rw[decide_eq_true hp]at n1
   simp (maxSteps:=400000) only[wF,storeA,reduceCtorEq,Nat.reduceAdd,Nat.reduceSub,Nat.reduceEqDiff,Nat.reduceLeDiff,Int.reduceToNat,Int.reduceLE,Int.reduceLT,Int.reduceAdd,Int.reduceNeg,Nat.reduceMul,x1,e2,n1,b0,Bool.not_true,Bool.not_false,T57]
   first | exact⟨rfl,fin⟩ | exact fin
  ·rw[decide_eq_false (by omega:¬p.kind=1)]at n1
   rw[decide_eq_true hp]at n0
   rw[decide_eq_false hx2]at e2
   simp (maxSteps:=400000) only[wF,storeA,reduceCtorEq,Nat.reduceAdd,Nat.reduceSub,Nat.reduceEqDiff,Nat.reduceLeDiff,Int.reduceToNat,Int.reduceLE,Int.reduceLT,Int.reduceAdd,Int.reduceNeg,Nat.reduceMul,x1,e2,n1,n0,b0,Bool.not_true,Bool.not_false,T57]
   first | exact⟨rfl,fin⟩ | exact fin
 rw[if_neg hb0]
 rw[decide_eq_false hb0]at b0
 by_cases hx2:x.kind=2
 ·rw[if_pos hx2]
  rw[decide_eq_true hx2]at e2
  have hp:p.kind=1:=hgood.resolve_right (fun h=>h.2 hx2)
  rw[decide_eq_true hp]at n1
  by_cases hq:q.kind=2
  ·rw[decide_eq_true hq]at r2
   have s1:((0:Int)≤(i:Int))=True:=by simp
   have s2:((i:Int)≤(l.length:Int))=True:=by simp;omega
   have s3:((0:Int)≤((u+1:Nat):Int))=True:=by simp;omega
   have s4:(((u+1:Nat):Int)≤(i:Int))=True:=by simp;omega
   simp (maxSteps:=400000) only[wF,storeA,reduceCtorEq,Nat.reduceAdd,Nat.reduceSub,Nat.reduceEqDiff,Nat.reduceLeDiff,Int.reduceToNat,Int.reduceLE,Int.reduceLT,Int.reduceAdd,Int.reduceNeg,Nat.reduceMul,x1,x0,e2,n1,b0,r2,q2,gb0,indexAddrA,ew,sliceA,boundA,s1,s2,s3,s4,Int.toNat_natCast,Bool.not_true,Bool.not_false,T57]
   refine⟨rfl,?_⟩
   have hml:((l.take i).drop (u+1)).length=i-(u+1):=by simp only[List.length_drop,List.length_take];omega
   rw[←ndsH_take,←ndsH_drop,←hml]
   have hx1:X.get (H.next+1)=some (.cells 36 (ndH x)):=by rw[x1];simp only[ndH,hue]
   refine AInv.retK B90 (sl_ContainsFunc_ok G (x:=x) (m:=(l.take i).drop (u+1)) (fun j hj=>ndsH_at _ j hj) (by rw[ndsH_len];exact Nat.le_refl _) (by omega) hx1 (by omega)) ?_ (fun v J2 hq=>by cases hq.1)
   rintro v J2 ⟨hv,h2⟩
   cases hv
   simp (maxSteps:=400000) only[wF,storeA,reduceCtorEq,Nat.reduceAdd,Nat.reduceSub,Nat.reduceEqDiff,Nat.reduceLeDiff,Int.reduceToNat,Int.reduceLE,Int.reduceLT,Int.reduceAdd,Int.reduceNeg,Nat.reduceMul,T57]
   have fin2:H.next≤J2.next∧∀j,j<H.next→J2.get j=H.get j:=⟨by have:=h2.1;omega,fun j hj=>by rw[h2.2];exact xo j hj⟩
   first | exact⟨by rw[hq];rfl,fin2⟩ | exact⟨rfl,fin2⟩ | exact fin2
  ·rw[decide_eq_false hq]at r2
   simp (maxSteps:=400000) only[wF,storeA,reduceCtorEq,Nat.reduceAdd,Nat.reduceSub,Nat.reduceEqDiff,Nat.reduceLeDiff,Int.reduceToNat,Int.reduceLE,Int.reduceLT,Int.reduceAdd,Int.reduceNeg,Nat.reduceMul,x1,x0,e2,n1,b0,r2,q2,gb0,indexAddrA,Bool.not_true,Bool.not_false,T57]
   first | exact⟨by rw[beq_false_of_ne hq];rfl,fin⟩ | exact⟨by rw[beq_false_of_ne hq,Bool.false_and],fin⟩
 ·rw[if_neg hx2]
  rw[decide_eq_false hx2]at e2
  have rw3:(x.kind != 3||q.kind != 3)=(!decide (x.kind=3) || !decide (q.kind=3)):=rfl
  rw[rw3]
  by_cases hk3:x.kind=3
  ·rw[decide_eq_true hk3]at k3 ⊢
   rcases hgood with hp | ⟨hp,_⟩
   ·rw[decide_eq_true hp]at n1
    simp (maxSteps:=400000) only[wF,storeA,reduceCtorEq,Nat.reduceAdd,Nat.reduceSub,Nat.reduceEqDiff,Nat.reduceLeDiff,Int.reduceToNat,Int.reduceLE,Int.reduceLT,Int.reduceAdd,Int.reduceNeg,Nat.reduceMul,x1,x0,e2,n1,b0,k3,r3,q2,gb0,indexAddrA,Bool.not_true,Bool.not_false,T57]
    first | exact⟨rfl,fin⟩ | exact⟨by simp,fin⟩
   ·rw[decide_eq_false (by omega:¬p.kind=1)]at n1
    rw[decide_eq_true hp]at n0
    simp (maxSteps:=400000) only[wF,storeA,reduceCtorEq,Nat.reduceAdd,Nat.reduceSub,Nat.reduceEqDiff,Nat.reduceLeDiff,Int.reduceToNat,Int.reduceLE,Int.reduceLT,Int.reduceAdd,Int.reduceNeg,Nat.reduceMul,x1,x0,e2,n1,n0,b0,k3,r3,q2,gb0,indexAddrA,Bool.not_true,Bool.not_false,T57]
    first | exact⟨rfl,fin⟩ | exact⟨by simp,fin⟩
  ·rw[decide_eq_false hk3]at k3 ⊢
   rcases hgood with hp | ⟨hp,_⟩
   ·rw[decide_eq_true hp]at n1
    simp (maxSteps:=400000) only[wF,storeA,reduceCtorEq,Nat.reduceAdd,Nat.reduceSub,Nat.reduceEqDiff,Nat.reduceLeDiff,Int.reduceToNat,Int.reduceLE,Int.reduceLT,Int.reduceAdd,Int.reduceNeg,Nat.reduceMul,x1,x0,e2,n1,b0,k3,r3,q2,gb0,indexAddrA,Bool.not_true,Bool.not_false,T57]
    first | exact⟨rfl,fin⟩ | exact fin | exact⟨by simp,fin⟩
   ·rw[decide_eq_false (by omega:¬p.kind=1)]at n1
    rw[decide_eq_true hp]at n0
    simp (maxSteps:=400000) only[wF,storeA,reduceCtorEq,Nat.reduceAdd,Nat.reduceSub,Nat.reduceEqDiff,Nat.reduceLeDiff,Int.reduceToNat,Int.reduceLE,Int.reduceLT,Int.reduceAdd,Int.reduceNeg,Nat.reduceMul,x1,x0,e2,n1,n0,b0,k3,r3,q2,gb0,indexAddrA,Bool.not_true,Bool.not_false,T57]
    first | exact⟨rfl,fin⟩ | exact fin | exact⟨by simp,fin⟩
end Go.Ab
