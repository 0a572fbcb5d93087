/- ReparseWritten's plain law: what is written of a valid tree is read as this tree, with or without the line at the beginning. ReparseWritten: few, and serhtml.Write of any tree, walked. ReparseWritten: serhtml.Write of any tree, and the law, walked. -/
import Derived.Test.YtojncnpmlhhccaaGreatDoorAG8
import Derived.Test.YtojncnpmlhhccaaGreatDoorCK
import Derived.Test.YtojncnpmlhhccaaGreatDoorCodesS4
import Derived.Test.YtojncnpmlhhccaaGreatDoorPX2
set_option linter.all false
namespace Go.Ab
open Go Go.Lib Go.Proofs
theorem valid_root {l:List Nd} (v:ValidN l) (h:(l.getD 0 nd0).kind=0):l.getD 0 nd0=nd0:=by
 have h1:=v.allowed 0 (by have:=v.len0;omega)
 have h2:=v.up0
 rw[h]at h1
 simp only[allowedS,Bool.and_eq_true,beq_iff_eq]at h1
 generalize l.getD 0 nd0=x at *
 obtain⟨k,n,t,u⟩:=x
 simp only at h h1 h2
 obtain⟨_,rfl,rfl⟩:=h1
 subst h;subst h2
 rfl
theorem trim_doct (om:Bool) {s:List UInt8} (h:Lib.hasPrefix s sDoct=false):Lib.trimPrefix (doctB om++s) sDoct=s:=by
 cases om with
 | true=>
  unfold Lib.trimPrefix doctB
  rw[cond_true,List.nil_append,if_neg (by rw[h];simp)]
 | false=>
  unfold Lib.trimPrefix doctB
  rw[cond_false,if_pos (by unfold Lib.hasPrefix;exact List.isPrefixOf_iff_prefix.2 ⟨s,rfl⟩),List.drop_left]
theorem doct_text (om:Bool):isTextS (doctB om)=true:=by cases om<;>decide
theorem doct_len (om:Bool):(doctB om).length≤16:=by cases om<;>decide
theorem wrDoc_head {l:List Nd} (W:WrOk l) (hroot:l.getD 0 nd0=nd0):eventsHS (wrDoc l)=readHL ⟨wrDoc l,[],[]⟩∧∀om,eventsHS (doctB om++wrDoc l)=readHL ⟨wrDoc l,[],[]⟩:=by
 have htrim:=wrDoc_pre W hroot
 refine⟨?_,fun om=>?_⟩
 ·unfold eventsHS
  rw[trim_no htrim]
 ·unfold eventsHS
  rw[trim_doct om htrim]
theorem written_plain {l:List Nd} (v:ValidN l) (hroot:l.getD 0 nd0=nd0) (hb:badAny l=false) (hsum:textSum l≤1048576) (om:Bool) (hlen:(doctB om++wrDoc l).length≤1048576):htmlS (doctB om++wrDoc l) = .ok l:=by
 have W:=wrOk v fun i h1 h2=>by
  unfold badAny at hb
  rw[List.any_eq_false]at hb
  have:=hb i (List.mem_range.2 h2)
  rw[decide_eq_true h1,Bool.true_and]at this
  simpa using this
 have htx:isTextS (doctB om++wrDoc l)=true:=isTextS_cat _ (isText_flat _ fun k hk=>text_node v _ k (kidsOf_lt hk).1) _ _ (Nat.le_refl _) (doct_text om)
 have hr:=read_doc W hroot
 obtain⟨h1,h2⟩:=wrDoc_head W hroot
 rw[h1]at hr
 unfold htmlS
 rw[if_neg (by omega),if_neg (by rw[htx];simp),h2 om,hr]
 simp only[buildS]
 rw[fold_doc W hsum hroot]
 simp[stT]
end Go.Ab
namespace Go.Ab
open Go Go.Lib Go.Proofs
def lenZ (x:RN):Int:=(x.name.length:Int)+(x.text.length:Int)
def sumZ (l:List RN):Int:=l.foldl (fun n x=>IntKind.i64.wrap (n+IntKind.i64.wrap (lenZ x))) 0
def fewB (L:List RN):Bool:=decide ((L.length:Int)≤200)&&decide (sumZ L≤4000)
def totN (l:List RN):Nat:=(l.map fun x=>x.name.length+x.text.length).sum
theorem sumZ_take (L:List RN) {i:Nat} (h:i<L.length):sumZ (L.take (i+1))=IntKind.i64.wrap (sumZ (L.take i)+IntKind.i64.wrap (lenZ L[i])):=by
 unfold sumZ
 rw[List.take_succ,List.getElem?_eq_getElem h,Option.toList_some,List.foldl_append]
 rfl
theorem totN_take (L:List RN) {i:Nat} (h:i<L.length):totN (L.take (i+1))=totN (L.take i)+(L[i].name.length+L[i].text.length):=by
 unfold totN
 rw[List.take_succ,List.getElem?_eq_getElem h,Option.toList_some,List.map_append,List.sum_append]
 simp
theorem sumZ_tot {L:List RN} (hb:∀x∈L,x.name.length≤140737488355328∧x.text.length≤140737488355328) (hl:L.length≤200):∀i,i≤L.length→sumZ (L.take i)=totN (L.take i)∧totN (L.take i)≤i*281474976710656
 | 0,_=>by simp[sumZ,totN]
 | i+1,hi=>by
  have ih:=sumZ_tot hb hl i (by omega)
  have hx:=hb L[i] (List.getElem_mem _)
  rw[sumZ_take L (by omega),totN_take L (by omega),ih.1]
  unfold lenZ
  have h2:=ih.2
  have hb2:i*281474976710656≤200*281474976710656:=Nat.mul_le_mul_right _ (by omega)
  refine⟨?_,by omega⟩
  have e1:IntKind.i64.wrap ((L[i].name.length:Int)+(L[i].text.length:Int))=(L[i].name.length:Int)+(L[i].text.length:Int):=by rw[wrap64]<;>omega
  rw[e1,wrap64]<;>omega
theorem few_tot {L:List RN} (hb:∀x∈L,x.name.length≤140737488355328∧x.text.length≤140737488355328) (h:fewB L=true):L.length≤200∧totN L≤4000:=by
 unfold fewB at h
 rw[Bool.and_eq_true,decide_eq_true_eq,decide_eq_true_eq]at h
 have h1:L.length≤200:=by omega
 have:=sumZ_tot hb h1 L.length (Nat.le_refl _)
 rw[List.take_length]at this
 exact⟨h1,by omega⟩
theorem tot_split:∀L:List RN,totN L=nmSum (L.map ndOf)+textSum (L.map ndOf)
 | []=>rfl
 | x::L=>by
  have ih:=tot_split L
  have h1:totN (x::L)=(x.name.length+x.text.length)+totN L:=by simp[totN]
  have h2:nmSum ((x::L).map ndOf)=x.name.length+nmSum (L.map ndOf):=by simp[nmSum,ndOf]
  have h3:textSum ((x::L).map ndOf)=x.text.length+textSum (L.map ndOf):=by simp[textSum,ndOf]
  omega
theorem tot_mem {L:List RN} {n:Nat} (h:totN L≤n):∀x∈L,x.name.length≤n∧x.text.length≤n:=by
 induction L generalizing n with
 | nil=>intro x hx;cases hx
 | cons y L ih=>
  unfold totN at h
  simp only[List.map_cons,List.sum_cons]at h
  intro x hx
  rcases List.mem_cons.1 hx with rfl | hx
  ·omega
  ·exact ih (n:=n) (by unfold totN;omega) x hx
set_option maxHeartbeats 4000000 in
set_option maxRecDepth 100000 in
theorem few_ok (G:Nat→Option (List AV)) {L:List RN} (hn:L.length≤140737488355328):PureCall Tryz.prog G 19 [.agg [.lst L.length (rnsH L)]] (.bool (fewB L)):=by
 intro H
 refine ACalls.keep (ACalls.of Tryz.func19 S19_eq R19 N19 rfl rfl ?_)
 simp (maxSteps:=400000) only[wF,storeA,reduceCtorEq,Nat.reduceAdd,Nat.reduceSub,Nat.reduceEqDiff,Nat.reduceLeDiff,Int.reduceToNat,Int.reduceLE,Int.reduceLT,Int.reduceAdd,Int.reduceNeg,Nat.reduceMul,S19,N19,R19,T19,AV.boxable]
 generalize hX:AHeap.allocAt H H.next _=X
 have x0:X.get H.next=some (.cells 25 [.lst L.length (rnsH L)]):=by rw[←hX,AHeap.get_allocAt_same]
 have xn:X.next=H.next+1:=by rw[←hX];simp only[AHeap.next_allocAt];omega
 have xo:∀j,j<H.next→X.get j=H.get j:=fun j hj=>by rw[←hX,AHeap.get_allocAt_ne _ _ (by omega)]
 clear hX
 refine ATrS.loopK (κ:=Nat × AHeap) (fun x=>[.und,.ptr H.next 0,.und,.int .i64 (sumZ (L.take x.1)),.und,.und,.und,.lst L.length (rnsH L),.int .i64 L.length,.int .i64 x.1]++List.replicate 21 .und) (fun x=>x.2)
  (fun x=>x.1≤L.length∧x.2.get H.next=some (.cells 25 [.lst L.length (rnsH L)])∧H.next+1≤x.2.next∧∀j,j<H.next→x.2.get j=H.get j) (fun x=>L.length-x.1) ⟨(0,X),⟨Nat.zero_le _,x0,by simp only;omega,xo⟩,by simp[Fg,sumZ],HW.refl _⟩ ?_
 clear x0 xn xo
 rintro⟨i,J⟩ ⟨hi,jt,jn,jo⟩
 simp only at hi jt jn jo
 by_cases hlt:i<L.length
 ·have d0:decide ((i:Int)<(L.length:Int))=true:=decide_eq_true (by omega)
  have q0:((i:Int)<(L.length:Int))=True:=eq_true (by omega)
  have hat:=rnsH_at L i hlt
  have hle:(i*4+4≤(rnsH L).length)=True:=by rw[rnsH_len];simp;omega
  have hst:=sumZ_take L hlt
  generalize L[i]=x at hat hst
  unfold lenZ at hst
  simp only[rnH]at hat
  have ew:IntKind.i64.wrap ((i:Int)+1)=((i+1:Nat):Int):=by rw[wrap64]<;>omega
  have u1:(H.next=J.next)=False:=eq_false (by omega)
  simp (maxSteps:=400000) only[wF,storeA,reduceCtorEq,Nat.reduceAdd,Nat.reduceSub,Nat.reduceEqDiff,Nat.reduceLeDiff,Int.reduceToNat,Int.reduceLE,Int.reduceLT,Int.reduceAdd,Int.reduceNeg,Nat.reduceMul,T19,d0,q0,hat,hle,indexAddrA,AV.boxable,ew]
  refine⟨(i+1,_),⟨hlt,?_,?_,fun j hj=>?_⟩,by simp only;omega,by simp only[hst];simp[Fg],HW.refl _⟩
  ·simp only;first | rw[AHeap.get_set_ne _ _ (by omega),AHeap.get_allocAt_ne _ _ (by omega)] | rw[if_neg (by omega),AHeap.get_allocAt_ne _ _ (by omega)]
   exact jt
  ·simp only[AHeap.next_set,AHeap.next_allocAt];omega
  ·simp only;first | rw[AHeap.get_set_ne _ _ (by omega),AHeap.get_allocAt_ne _ _ (by omega)] | rw[if_neg (by omega),AHeap.get_allocAt_ne _ _ (by omega)]
   exact jo j hj
 ·have d0:decide ((i:Int)<(L.length:Int))=false:=decide_eq_false (by omega)
  have hie:i=L.length:=by omega
  subst hie
  rw[List.take_length]
  unfold fewB
  by_cases h2:(L.length:Int)≤200
  ·rw[decide_eq_true h2]
   simp (maxSteps:=400000) only[wF,storeA,reduceCtorEq,Nat.reduceAdd,Nat.reduceSub,Nat.reduceEqDiff,Nat.reduceLeDiff,Int.reduceToNat,Int.reduceLE,Int.reduceLT,Int.reduceAdd,Int.reduceNeg,Nat.reduceMul,T19,d0,jt,decide_eq_true h2]
   first | exact⟨by simp,by omega,jo⟩ | exact⟨by omega,jo⟩
  ·rw[decide_eq_false h2]
   simp (maxSteps:=400000) only[wF,storeA,reduceCtorEq,Nat.reduceAdd,Nat.reduceSub,Nat.reduceEqDiff,Nat.reduceLeDiff,Int.reduceToNat,Int.reduceLE,Int.reduceLT,Int.reduceAdd,Int.reduceNeg,Nat.reduceMul,T19,d0,jt,decide_eq_false h2]
   first | exact⟨by simp,by omega,jo⟩ | exact⟨by omega,jo⟩
end Go.Ab
namespace Go.Ab
open Go Go.Lib Go.Proofs
theorem rn_kind0 {L:List RN} (h:0<L.length):(rnsH L)[0]?=some (.int .i64 (L[0]'h).kind):=by
 have:=rnsH_at L 0 h
 have e:(rnsH L)[0]?=(((rnsH L).drop (0*4)).take 4)[0]?:=by rw[List.getElem?_take,if_pos (by omega),List.getElem?_drop]
 rw[e,this];rfl
set_option maxHeartbeats 16000000 in
set_option maxRecDepth 100000 in
theorem write_bad {G:Nat→Option (List AV)} (E:Env G) (X0:EnvH G) (T:EnvT G) {L:List RN} (hn:L.length≤65536) (hbd:∀x∈L,x.name.length≤1000000000∧x.text.length≤1000000000) {om:Bool}
  (hno:¬(ValidN (L.map ndOf)∧rnsH L=ndsH (L.map ndOf)∧((L.map ndOf).getD 0 nd0).kind=0)) (H:AHeap) :
  ACalls Tryz.prog G 20 [.agg [.lst L.length (rnsH L)],outB om,.nils] H fun r H'=>r = .ret (.tup [.str [],.int .i64 1])∧Kept H H':=by
 refine ACalls.of_deferN (parts:=[partOf 0 S20.1,partOf 1 S20.1,partOf 2 S20.1,partOf 3 S20.1,partOf 4 S20.1,partOf 5 S20.1,partOf 6 S20.1,partOf 7 S20.1,partOf 8 S20.1]) (sE:=restOf 10 S20.1) (t:=143) (g:=51) (caps:=#[.tmp 6,.tmp 7]) Tryz.func20 S20_eq B51 R20 N20 rfl rfl ?_
 refine partsA_step ?_
 generalize hK1:partsA _ _ _ _ (partOf 1 _::_)=K1
 simp (maxSteps:=400000) only[wF,storeA,reduceCtorEq,Nat.reduceAdd,Nat.reduceSub,Nat.reduceEqDiff,Nat.reduceLeDiff,Int.reduceToNat,Int.reduceLE,Int.reduceLT,Int.reduceAdd,Int.reduceNeg,Nat.reduceMul,partOf,S20,N20,R20,T20,outB,AV.boxable,buildA,fillA]
 generalize hX:AHeap.allocAt _ (H.next+1+1+1) _=X
 have xn:X.next=H.next+4:=by rw[←hX];simp only[AHeap.next_allocAt];omega
 have xt:X.get H.next=some (.cells 25 [.lst L.length (rnsH L)]):=by rw[←hX,AHeap.get_allocAt_ne _ _ (by omega),AHeap.get_allocAt_ne _ _ (by omega),AHeap.get_allocAt_ne _ _ (by omega),AHeap.get_allocAt_same]
 have xs:X.get (H.next+1+1)=some (.cells 9 [.str []]):=by rw[←hX,AHeap.get_allocAt_ne _ _ (by omega),AHeap.get_allocAt_same]
 have xe:X.get (H.next+1+1+1)=some (.cells 26 [.int .i64 0]):=by rw[←hX,AHeap.get_allocAt_same]
 have xo:∀j,j<H.next→X.get j=H.get j:=fun j hj=>by rw[←hX,AHeap.get_allocAt_ne _ _ (by omega),AHeap.get_allocAt_ne _ _ (by omega),AHeap.get_allocAt_ne _ _ (by omega),AHeap.get_allocAt_ne _ _ (by omega)]
 clear hX
 rw[←hK1]
 clear hK1 K1
 refine partsA_step ?_
 generalize hK2:partsA _ _ _ _ (partOf 2 _::_)=K2
 simp (maxSteps:=400000) only[wF,storeA,reduceCtorEq,Nat.reduceAdd,Nat.reduceSub,Nat.reduceEqDiff,Nat.reduceLeDiff,Int.reduceToNat,Int.reduceLE,Int.reduceLT,Int.reduceAdd,Int.reduceNeg,Nat.reduceMul,partOf,S20,T20,xt]
 refine AInv.retK B21 (t_Check_any E X0 T hn hbd X) (fun v X1 hq=>?_) (fun v X1 hq=>?_)
 case refine_2=>
  rcases hq.1 with ⟨h,_⟩ | h<;>cases h
 obtain⟨hr,k1⟩:=hq
 have p1:=k1.1
 have y0:=(k1.2 H.next (by omega)).trans xt
 have ys:=(k1.2 (H.next+1+1) (by omega)).trans xs
 have ye:=(k1.2 (H.next+1+1+1) (by omega)).trans xe
 have yo:∀j,j<H.next→X1.get j=H.get j:=fun j hj=>(k1.2 j (by omega)).trans (xo j hj)
 have u1:(H.next+1+1+1=H.next+1+1)=False:=eq_false (by omega)
 have u2:(H.next+1+1=H.next+1+1+1)=False:=eq_false (by omega)
 rcases hr with ⟨hr,hv,hh⟩ | hr
 ·cases hr
  have hl0:0<L.length:=by have:=hv.len0;rw[List.length_map]at this;exact this
  have g0:=rn_kind0 hl0
  have hk0:(L[0]'hl0).kind≠0:=fun e=>by
   refine hno ⟨hv,hh,?_⟩
   rw[List.getD_eq_getElem?_getD,List.getElem?_eq_getElem (by rw[List.length_map];exact hl0),List.getElem_map]
   show(L[0]'hl0).kind.toNat=0
   rw[e];rfl
  have z0:((0:Int) != 0)=false:=rfl
  have z1:((L[0]'hl0).kind != 0)=true:=by rw[bne_iff_ne];exact hk0
  have q0:((0:Int)<(L.length:Int))=True:=eq_true (by omega)
  simp (maxSteps:=400000) only[wF,storeA,reduceCtorEq,Nat.reduceAdd,Nat.reduceSub,Nat.reduceEqDiff,Nat.reduceLeDiff,Int.reduceToNat,Int.reduceLE,Int.reduceLT,Int.reduceAdd,Int.reduceNeg,Nat.reduceMul,T20,y0,q0,g0,indexAddrA,z0,z1,Nat.mul_one,ys,ye,u1,u2,R20]
  exact⟨by simp only[AHeap.next_set];omega,fun j hj=>by rw[AHeap.get_set_ne _ _ (by omega),AHeap.get_set_ne _ _ (by omega)];exact yo j hj⟩
 ·cases hr
  have z0:((1:Int) != 0)=true:=rfl
  simp (maxSteps:=400000) only[wF,storeA,reduceCtorEq,Nat.reduceAdd,Nat.reduceSub,Nat.reduceEqDiff,Nat.reduceLeDiff,Int.reduceToNat,Int.reduceLE,Int.reduceLT,Int.reduceAdd,Int.reduceNeg,Nat.reduceMul,T20,y0,z0,ys,ye,u1,u2,R20]
  exact⟨by simp only[AHeap.next_set];omega,fun j hj=>by rw[AHeap.get_set_ne _ _ (by omega),AHeap.get_set_ne _ _ (by omega)];exact yo j hj⟩
set_option maxHeartbeats 16000000 in
set_option maxRecDepth 100000 in
theorem reparseWritten_ok {G:Nat→Option (List AV)} (E:Env G) (B:EnvB G) (P:EnvP G) (X:EnvH G) (T:EnvT G) (hM:SMapOk G) (hA:AnyOk G) (g:SpaceG G) {L:List RN} (hn:L.length≤140737488355328) (hb:∀x∈L,x.name.length≤140737488355328∧x.text.length≤140737488355328) (om:Bool) (H:AHeap) :
  ACalls Tryz.prog G 6 [.agg [.lst L.length (rnsH L)],.bool om] H fun r H'=>r = .ret (.bool true)∧Kept H H':=by
 have hw:=works_pure E B P X T
 refine ACalls.of Tryz.func6 S6_eq R6 N6 rfl rfl ?_
 simp (maxSteps:=400000) only[wF,storeA,reduceCtorEq,Nat.reduceAdd,Nat.reduceSub,Nat.reduceEqDiff,Nat.reduceLeDiff,Int.reduceToNat,Int.reduceLE,Int.reduceLT,Int.reduceAdd,Int.reduceNeg,Nat.reduceMul,S6,N6,R6,T6,AV.boxable]
 generalize hX0:AHeap.allocAt H H.next _=J0
 have x0:J0.get H.next=some (.cells 25 [.lst L.length (rnsH L)]):=by rw[←hX0,AHeap.get_allocAt_same]
 have xn:J0.next=H.next+1:=by rw[←hX0];simp only[AHeap.next_allocAt];omega
 have xo:∀j,j<H.next→J0.get j=H.get j:=fun j hj=>by rw[←hX0,AHeap.get_allocAt_ne _ _ (by omega)]
 clear hX0
 refine AInv.pureK B19 (few_ok G hn) fun J1 h1=>?_
 have p1:=h1.1
 have x1:=(congrFun h1.2 _).trans x0
 have o1:∀j,j<H.next→J1.get j=H.get j:=fun j hj=>(congrFun h1.2 _).trans (xo j hj)
 cases hfew:fewB L with
 | false=>
  simp (maxSteps:=400000) only[wF,storeA,reduceCtorEq,Nat.reduceAdd,Nat.reduceSub,Nat.reduceEqDiff,Nat.reduceLeDiff,Int.reduceToNat,Int.reduceLE,Int.reduceLT,Int.reduceAdd,Int.reduceNeg,Nat.reduceMul,T6,Bool.not_false]
  refine AInv.pureK B8 hw fun J2 h2=>?_
  simp (maxSteps:=400000) only[wF,storeA,reduceCtorEq,Nat.reduceAdd,Nat.reduceSub,Nat.reduceEqDiff,Nat.reduceLeDiff,Int.reduceToNat,Int.reduceLE,Int.reduceLT,Int.reduceAdd,Int.reduceNeg,Nat.reduceMul,T6]
  exact⟨by have:=h2.1;omega,fun j hj=>by rw[h2.2];exact o1 j hj⟩
 | true=>
 obtain⟨hl2,htot⟩:=few_tot hb hfew
 have hbd:∀x∈L,x.name.length≤1000000000∧x.text.length≤1000000000:=fun x hx=>by have:=tot_mem htot x hx;omega
 by_cases hgood:ValidN (L.map ndOf)∧rnsH L=ndsH (L.map ndOf)∧((L.map ndOf).getD 0 nd0).kind=0
 case neg=>
  simp (maxSteps:=400000) only[wF,storeA,reduceCtorEq,Nat.reduceAdd,Nat.reduceSub,Nat.reduceEqDiff,Nat.reduceLeDiff,Int.reduceToNat,Int.reduceLE,Int.reduceLT,Int.reduceAdd,Int.reduceNeg,Nat.reduceMul,T6,Bool.not_true,x1,AV.boxable,buildA,fillA]
  refine AInv.retK B20 (write_bad E X T (by omega) hbd (om:=om) hgood J1) (fun v J2 hq=>?_) (fun v J2 hq=>by cases hq.1)
  obtain⟨hq,h2⟩:=hq
  cases hq
  have p2:=h2.1
  have z1:((1:Int) != 0)=true:=rfl
  have z2:(([]:List UInt8)==[])=true:=rfl
  simp (maxSteps:=400000) only[wF,storeA,reduceCtorEq,Nat.reduceAdd,Nat.reduceSub,Nat.reduceEqDiff,Nat.reduceLeDiff,Int.reduceToNat,Int.reduceLE,Int.reduceLT,Int.reduceAdd,Int.reduceNeg,Nat.reduceMul,T6,z1,z2]
  refine AInv.pureK B8 hw fun J3 h3=>?_
  simp (maxSteps:=400000) only[wF,storeA,reduceCtorEq,Nat.reduceAdd,Nat.reduceSub,Nat.reduceEqDiff,Nat.reduceLeDiff,Int.reduceToNat,Int.reduceLE,Int.reduceLT,Int.reduceAdd,Int.reduceNeg,Nat.reduceMul,T6]
  exact⟨by have:=h3.1;omega,fun j hj=>by rw[h3.2,h2.2 j (by omega)];exact o1 j hj⟩
 obtain⟨hv,hh,hk0⟩:=hgood
 have hroot:=valid_root hv hk0
 have hts:=tot_split L
 have hcost:=wr_cost hv
 have hll:L.length=(L.map ndOf).length:=by rw[List.length_map]
 rw[hh,hll]at x1 ⊢
 rw[hll]at hl2
 generalize L.map ndOf=l at hv hroot hts hcost x1 hl2
 have hdl:=doct_len om
 have hlen:(doctB om).length+((kidsOf l 0).flatMap (wrN l l.length)).length≤1048576:=by
  unfold wrDoc at hcost;omega
 simp (maxSteps:=400000) only[wF,storeA,reduceCtorEq,Nat.reduceAdd,Nat.reduceSub,Nat.reduceEqDiff,Nat.reduceLeDiff,Int.reduceToNat,Int.reduceLE,Int.reduceLT,Int.reduceAdd,Int.reduceNeg,Nat.reduceMul,T6,Bool.not_true,x1,AV.boxable,buildA,fillA]
 refine AInv.retK B20 (write_gen E X T hM hA g hv hroot (om:=om) hlen J1) (fun v J2 hq=>?_) (fun v J2 hq=>by cases hq.1)
 obtain⟨hq,h2⟩:=hq
 have p2:=h2.1
 have x2:=(h2.2 _ (by omega)).trans x1
 have o2:∀j,j<H.next→J2.get j=H.get j:=fun j hj=>(h2.2 j (by omega)).trans (o1 j hj)
 unfold writeB at hq
 have z2:(([]:List UInt8)==[])=true:=rfl
 have z0:((0:Int) != 0)=false:=rfl
 by_cases hbad:badAny l=true
 ·rw[if_pos hbad]at hq
  cases hq
  have z1:((420:Int) != 0)=true:=rfl
  simp (maxSteps:=400000) only[wF,storeA,reduceCtorEq,Nat.reduceAdd,Nat.reduceSub,Nat.reduceEqDiff,Nat.reduceLeDiff,Int.reduceToNat,Int.reduceLE,Int.reduceLT,Int.reduceAdd,Int.reduceNeg,Nat.reduceMul,T6,z1,z2]
  refine AInv.pureK B8 hw fun J3 h3=>?_
  simp (maxSteps:=400000) only[wF,storeA,reduceCtorEq,Nat.reduceAdd,Nat.reduceSub,Nat.reduceEqDiff,Nat.reduceLeDiff,Int.reduceToNat,Int.reduceLE,Int.reduceLT,Int.reduceAdd,Int.reduceNeg,Nat.reduceMul,T6]
  exact⟨by have:=h3.1;omega,fun j hj=>by rw[h3.2];exact o2 j hj⟩
 rw[if_neg hbad]at hq
 cases hq
 have hpl:=written_plain hv hroot (by simpa using hbad) (by omega) om (by rw[List.length_append];unfold wrDoc;exact hlen)
 unfold wrDoc at hpl
 simp (maxSteps:=400000) only[wF,storeA,reduceCtorEq,Nat.reduceAdd,Nat.reduceSub,Nat.reduceEqDiff,Nat.reduceLeDiff,Int.reduceToNat,Int.reduceLE,Int.reduceLT,Int.reduceAdd,Int.reduceNeg,Nat.reduceMul,T6,z0]
 refine AInv.retK B9 (h_html_ok E B P X (t_build_ok E X T) _ J2) (fun v J3 hq=>?_) (fun v J3 hq=>by cases hq.1)
 obtain⟨hq,h3⟩:=hq
 rw[hpl]at hq
 cases hq
 have p3:=h3.1
 have x3:=(h3.2 _ (by omega)).trans x2
 simp only[treeA]
 simp (maxSteps:=400000) only[wF,storeA,reduceCtorEq,Nat.reduceAdd,Nat.reduceSub,Nat.reduceEqDiff,Nat.reduceLeDiff,Int.reduceToNat,Int.reduceLE,Int.reduceLT,Int.reduceAdd,Int.reduceNeg,Nat.reduceMul,T6,AV.boxable]
 generalize hX5:AHeap.set (AHeap.allocAt J3 J3.next _) J3.next _=J5
 have y0:J5.get H.next=some (.cells 25 [.lst l.length (ndsH l)]):=by rw[←hX5,AHeap.get_set_ne _ _ (by omega),AHeap.get_allocAt_ne _ _ (by omega)];exact x3
 have y1:J5.get J3.next=some (.cells 25 [.lst l.length (ndsH l)]):=by rw[←hX5,AHeap.get_set_same]
 have yn:J5.next=J3.next+1:=by rw[←hX5];simp only[AHeap.next_set,AHeap.next_allocAt];omega
 have yo:∀j,j<H.next→J5.get j=H.get j:=fun j hj=>by rw[←hX5,AHeap.get_set_ne _ _ (by omega),AHeap.get_allocAt_ne _ _ (by omega),h3.2 j (by omega)];exact o2 j hj
 clear hX5
 have z4:((0:Int)==0)=true:=rfl
 simp (maxSteps:=400000) only[wF,storeA,reduceCtorEq,Nat.reduceAdd,Nat.reduceSub,Nat.reduceEqDiff,Nat.reduceLeDiff,Int.reduceToNat,Int.reduceLE,Int.reduceLT,Int.reduceAdd,Int.reduceNeg,Nat.reduceMul,T6,y0,y1,z4]
 have heq:=e_equal_ok G (l:=l) (m:=l) (by omega)
 rw[decide_eq_true rfl]at heq
 refine AInv.pureK B11 heq fun J6 h6=>?_
 simp (maxSteps:=400000) only[wF,storeA,reduceCtorEq,Nat.reduceAdd,Nat.reduceSub,Nat.reduceEqDiff,Nat.reduceLeDiff,Int.reduceToNat,Int.reduceLE,Int.reduceLT,Int.reduceAdd,Int.reduceNeg,Nat.reduceMul,T6]
 refine AInv.pureK B8 hw fun J7 h7=>?_
 simp (maxSteps:=400000) only[wF,storeA,reduceCtorEq,Nat.reduceAdd,Nat.reduceSub,Nat.reduceEqDiff,Nat.reduceLeDiff,Int.reduceToNat,Int.reduceLE,Int.reduceLT,Int.reduceAdd,Int.reduceNeg,Nat.reduceMul,T6]
 exact⟨by have:=h6.1;have:=h7.1;omega,fun j hj=>by rw[h7.2,h6.2];exact yo j hj⟩
end Go.Ab
