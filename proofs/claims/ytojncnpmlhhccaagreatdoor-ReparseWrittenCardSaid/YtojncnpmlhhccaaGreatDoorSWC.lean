/- serhtml's element, walked. serhtml's node, walked. serhtml's bad, walked. serhtml's bad for any node, and swap without maps, walked. Tables of slices: nil slices as empty rows, rows as lists. Tables of children and attributes as they grow. The loop of serhtml.Write that fills the tables, walked. The loop of serhtml.Write that looks for what can't be written, walked. strings.Fields of ASCII texts, and serhtml's words, walked. -/
import Derived.Test.YtojncnpmlhhccaaGreatDoorSWA
set_option linter.all false
namespace Go.Ab
open Go Go.Lib Go.Proofs
theorem catS_two (a b:List UInt8):catS [a,b]=a++b:=by simp[catS]
theorem catS_three (a b c:List UInt8):catS [a,b,c]=a++b++c:=by simp[catS]
def NodeOk8 (G:Nat→Option (List AV)) (l:List Nd) (M:WM) (k f kd:Nat):Prop:=
 ∀(lev:Int) (J:AHeap) (j:Nat) (acc:List UInt8),WAt J k j (mkW l M) acc→MAt J M→acc.length+(wrN l f kd).length≤1048576 →
  ACalls Tryz.prog G 55 [.ptr k 0,.int .i64 kd,.int .i64 lev,.bool false] J fun x H'=>x = .ret (.tup [])∧∃j2,WP J k j (mkW l M) (acc++wrN l f kd) H' j2
set_option maxHeartbeats 16000000 in
set_option maxRecDepth 100000 in
theorem element_ok {G:Nat→Option (List AV)} (hM:SMapOk G) {l:List Nd} (hv:ValidN l) {M:WM} {k f i:Nat} (hi:i<l.length) (h1:(l.getD i nd0).kind=1) (ih:∀kd∈kidsOf l i,NodeOk8 G l M k f kd)
  (lev:Int) (H:AHeap) (j:Nat) (acc:List UInt8) (hb:WAt H k j (mkW l M) acc) (hm:MAt H M) (hl:acc.length+(wrN l (f+1) i).length≤1048576) :
  ACalls Tryz.prog G 86 [.ptr k 0,.int .i64 i,.int .i64 lev,.bool false] H fun x H'=>x = .ret (.tup [])∧∃j2,WP H k j (mkW l M) (acc++wrN l (f+1) i) H' j2:=by
 refine ACalls.wf fun wf=>?_
 have hkn:k<H.next:=by obtain⟨b0,_,h1,_⟩:=hb;exact wf _ _ h1
 have hjn:j<H.next:=by obtain⟨b0,_,_,h2⟩:=hb;exact wf _ _ h2
 have ew:wrN l (f+1) i=[60]++(l.getD i nd0).name++(attsOf l i).flatMap (atS l)++[62]++(if lowS (l.getD i nd0).name∈voidsS then []else(kidsOf l i).flatMap (wrN l f)++([60,47]++(l.getD i nd0).name++[62])):=by
  simp only[wrN,h1]
 rw[ew]at hl ⊢
 have q1:((i:Int)<(l.length:Int))=True:=eq_true (by omega)
 have hat:=ndsH_at l i hi
 have hxe:=nd_getD hi
 rw[←hxe]at hat
 have hle:(i*4+4≤(ndsH l).length)=True:=by rw[ndsH_len];simp;omega
 have hsm:=small_ok hM (hv.bound i hi).1 (name_text hv hi)
 have hnb:=(hv.bound i hi).1
 generalize l.getD i nd0=x at hat hsm hl h1 hnb ⊢
 simp only[ndH]at hat
 have hb':=hb
 obtain⟨b0,x0,x1,x2⟩:=hb'
 simp only[WV.obj,mkW]at x1
 have u1:(k=H.next)=False:=eq_false (by omega)
 refine ACalls.of Tryz.func86 S86_eq R86 N86 rfl rfl ?_
 simp (maxSteps:=400000) only[wF,storeA,reduceCtorEq,Nat.reduceAdd,Nat.reduceSub,Nat.reduceEqDiff,Nat.reduceLeDiff,Int.reduceToNat,Int.reduceLE,Int.reduceLT,Int.reduceAdd,Int.reduceNeg,Nat.reduceMul,S86,N86,R86,T86,x1,q1,hat,hle,indexAddrA,u1,AV.boxable,buildA,sliceLit,fillA,zerosA,Nat.le_refl,Nat.reduceLT]
 generalize hX:AHeap.set (H.allocAt H.next _) H.next _=X
 have xn:X.next=H.next+1:=by rw[←hX];simp only[AHeap.next_set,AHeap.next_allocAt];omega
 have xx:X.get H.next=some (.cells 36 [.int .i64 x.kind,.str x.name,.str x.text,.int .i64 x.up]):=by rw[←hX,AHeap.get_set_same]
 have xo:∀i,i<H.next→X.get i=H.get i:=fun i hi=>by rw[←hX,AHeap.get_set_ne _ _ (by omega),AHeap.get_allocAt_ne _ _ (by omega)]
 clear hX
 rw[←xn]
 have wX:=(WP.refl hb hjn).grow hkn (by omega) xo
 have hmX:=hm.keep wf hb wX
 have hl1:(attsOf l i).length≤l.length:=filter_len _
 have hl2:(kidsOf l i).length≤l.length:=filter_len _
 have hll:=hv.len
 simp only[List.length_append,List.length_cons,List.length_nil]at hl
 refine AInv.retK B52 (put_step [[60],x.name] wX.1 (by omega) (by omega) (by rw[catS_two];simp only[List.length_append,List.length_cons,List.length_nil];omega) (show 2≤100 by decide)) (fun v A hq=>?_) (fun v A hq=>by cases hq.1)
 obtain⟨hv',j2,w1⟩:=hq
 cases hv'
 have hac:acc++catS [[60],x.name]=acc++([60]++x.name):=by simp[catS]
 rw[hac]at w1
 have a1:=w1.1
 obtain⟨b1,y0,y1,y2⟩:=a1
 simp only[WV.obj,mkW]at y1
 have ht:=tabA_get (f:=attsOf l) hi
 simp (maxSteps:=400000) only[wF,storeA,reduceCtorEq,Nat.reduceAdd,Nat.reduceSub,Nat.reduceEqDiff,Nat.reduceLeDiff,Int.reduceToNat,Int.reduceLE,Int.reduceLT,Int.reduceAdd,Int.reduceNeg,Nat.reduceMul,T86,y1,q1,indexAddrA,ht,Nat.mul_one]
 generalize hal:attsOf l i=al at hl hl1
 refine ATrS.loopK (κ:=Nat × Nat × AHeap) (fun c=>[.ptr k 0,.int .i64 i,.int .i64 lev,.bool false,.und,.und,.und,.und,.ptr H.next 0]++List.replicate 24 .und++[.lst al.length (intsA al),.int .i64 al.length,.int .i64 c.1]++List.replicate 94 .und) (fun c=>c.2.2)
  (fun c=>c.1≤al.length∧WP X k j (mkW l M) (acc++([60]++x.name)++(al.take c.1).flatMap (atS l)) c.2.2 c.2.1) (fun c=>al.length-c.1) ⟨(0,j2,A),⟨Nat.zero_le _,by simpa using w1⟩,by simp[Fg],HW.refl _⟩ ?_
 clear w1 y0 y1 y2 hac ht
 rintro⟨c,jj,J⟩ ⟨hc,w1⟩
 simp only at hc w1
 have wHJ:=wX.trans w1
 have hJk:k<J.next:=by have:=wHJ.2.2.2.1;omega
 have hJj:jj<J.next:=w1.2.2.1
 by_cases hlt:c<al.length
 ·have d0:decide ((c:Int)<(al.length:Int))=true:=decide_eq_true (by omega)
  have q0:((c:Int)<(al.length:Int))=True:=eq_true (by omega)
  have g0:=intsA_get hlt
  have hmem:=attsOf_lt (l:=l) (i:=i) (k:=al.getD c 0) (by rw[hal];exact getD_mem hlt)
  have hst:(al.take (c+1)).flatMap (atS l)=(al.take c).flatMap (atS l)++atS l (al.getD c 0):=by
   have e1:al.take (c+1)=al.take c++[al.getD c 0]:=by
    rw[List.take_succ,List.getElem?_eq_getElem hlt,List.getD_eq_getElem?_getD,List.getElem?_eq_getElem hlt];rfl
   rw[e1,List.flatMap_append]
   simp only[List.flatMap_cons,List.flatMap_nil,List.append_nil]
  have hsum:((al.take (c+1)).flatMap (atS l)).length≤(al.flatMap (atS l)).length:=by
   conv=>rhs;rw[←List.take_append_drop (c+1) al,List.flatMap_append,List.length_append]
   omega
  rw[hst,List.length_append]at hsum
  generalize al.getD c 0=d at g0 hmem hst hsum
  have q2:((d:Int)<(l.length:Int))=True:=eq_true (by omega)
  have hat2:=ndsH_at l d hmem.1
  have hye:=nd_getD hmem.1
  rw[←hye]at hat2
  have hle2:(d*4+4≤(ndsH l).length)=True:=by rw[ndsH_len];simp;omega
  have hsm2:=small_ok hM (hv.bound d hmem.1).1 (name_text hv hmem.1)
  have hyt:isTextS (l.getD d nd0).text=true:=by
   have:=hv.allowed d hmem.1
   unfold allowedS at this
   rw[Bool.and_eq_true]at this
   exact this.1
  have has:atS l d=[32]++(l.getD d nd0).name++(if(l.getD d nd0).name=(l.getD d nd0).text∧lowS (l.getD d nd0).name∈switchS then []else [61,34]++escS true (l.getD d nd0).text++[34]):=rfl
  rw[has]at hst hsum
  generalize l.getD d nd0=y at hat2 hsm2 hyt hst hsum
  clear has hye
  simp only[ndH]at hat2
  simp only[List.length_append,List.length_cons,List.length_nil]at hsum
  have ew1:IntKind.i64.wrap ((c:Int)+1)=((c+1:Nat):Int):=by rw[wrap64]<;>omega
  obtain⟨b1,y0,y1,y2⟩:=w1.1
  simp only[WV.obj,mkW]at y1
  have u2:(k=J.next)=False:=eq_false (by omega)
  simp (maxSteps:=400000) only[wF,storeA,reduceCtorEq,Nat.reduceAdd,Nat.reduceSub,Nat.reduceEqDiff,Nat.reduceLeDiff,Int.reduceToNat,Int.reduceLE,Int.reduceLT,Int.reduceAdd,Int.reduceNeg,Nat.reduceMul,T86,d0,q0,g0,y1,q2,hat2,hle2,indexAddrA,Nat.mul_one,u2,AV.boxable,buildA,sliceLit,fillA,zerosA,Nat.le_refl,Nat.reduceLT]
  generalize hX2:AHeap.set (J.allocAt J.next _) J.next _=X2
  have x2n:X2.next=J.next+1:=by rw[←hX2];simp only[AHeap.next_set,AHeap.next_allocAt];omega
  have x2x:X2.get J.next=some (.cells 36 [.int .i64 y.kind,.str y.name,.str y.text,.int .i64 y.up]):=by rw[←hX2,AHeap.get_set_same]
  have x2o:∀i,i<J.next→X2.get i=J.get i:=fun i hi=>by rw[←hX2,AHeap.get_set_ne _ _ (by omega),AHeap.get_allocAt_ne _ _ (by omega)]
  clear hX2
  rw[←x2n]
  have wX2:=w1.grow hJk (by omega) x2o
  have w20:=WP.refl wX2.1 wX2.2.2.1
  refine AInv.retK B52 (put_step [[32],y.name] wX2.1 (by omega) (by omega) (by rw[catS_two];simp only[List.length_append,List.length_cons,List.length_nil];omega) (show 2≤100 by decide)) (fun v A1 hq=>?_) (fun v A1 hq=>by cases hq.1)
  obtain⟨hv',j3,w3⟩:=hq
  cases hv'
  have hnx:J.next≠jj:=by omega
  have a1x:=(w3.2.2.2.2 J.next (by omega) (by omega) hnx).trans x2x
  have hmA:=hm.keep wf hb (wX.trans (wX2.trans w3))
  have hsi:=hmA.si
  obtain⟨b2,z0,z1,z2⟩:=w3.1
  simp only[WV.obj,mkW]at z1
  simp (maxSteps:=400000) only[wF,storeA,reduceCtorEq,Nat.reduceAdd,Nat.reduceSub,Nat.reduceEqDiff,Nat.reduceLeDiff,Int.reduceToNat,Int.reduceLE,Int.reduceLT,Int.reduceAdd,Int.reduceNeg,Nat.reduceMul,T86]
  have hLk:=findA_words (lowS y.name) switchS 0
  refine drawW_ok (ex:=false) mixedOrders L86_7_eq P86_7_eq ?_
  have h3:y.name≠y.text∨(y.name=y.text∧lowS y.name∈switchS)∨(y.name=y.text∧lowS y.name ∉ switchS):=by
   by_cases hne:y.name=y.text
   ·by_cases hsw:lowS y.name∈switchS
    ·exact .inr (.inl ⟨hne,hsw⟩)
    ·exact .inr (.inr ⟨hne,hsw⟩)
   ·exact .inl hne
  rcases h3 with hne | ⟨hne,hsw⟩ | ⟨hne,hsw⟩
  case' inl=>
   have e1:(y.name==y.text)=false:=beq_eq_false_iff_ne.2 hne
   rw[if_neg (fun h=>hne h.1)]at hst hsum
   simp (maxSteps:=400000) only[wF,storeA,reduceCtorEq,Nat.reduceAdd,Nat.reduceSub,Nat.reduceEqDiff,Nat.reduceLeDiff,Int.reduceToNat,Int.reduceLE,Int.reduceLT,Int.reduceAdd,Int.reduceNeg,Nat.reduceMul,L86_7,T86,a1x,e1,z1,Bool.not_false]
  case' inr.inl=>
   obtain⟨jx,hjx⟩:=hLk.1 hsw
   have e1:(y.name==y.text)=true:=by rw[hne];simp
   have e2:((1:Int)==0)=false:=rfl
   rw[if_pos ⟨hne,hsw⟩]at hst hsum
   simp (maxSteps:=400000) only[wF,storeA,reduceCtorEq,Nat.reduceAdd,Nat.reduceSub,Nat.reduceEqDiff,Nat.reduceLeDiff,Int.reduceToNat,Int.reduceLE,Int.reduceLT,Int.reduceAdd,Int.reduceNeg,Nat.reduceMul,L86_7,T86,a1x,e1,z1,Bool.not_true]
   refine callW.pure B83 hsm2 ?_
   simp (maxSteps:=400000) only[wF,storeA,reduceCtorEq,Nat.reduceAdd,Nat.reduceSub,Nat.reduceEqDiff,Nat.reduceLeDiff,Int.reduceToNat,Int.reduceLE,Int.reduceLT,Int.reduceAdd,Int.reduceNeg,Nat.reduceMul,T86,a1x,z1,hsi,lookupA,entriesA,keyT,hjx,e2]
  case' inr.inr=>
   have hjx:=hLk.2 hsw
   have e1:(y.name==y.text)=true:=by rw[hne];simp
   have e2:((0:Int)==0)=true:=rfl
   rw[if_neg (fun h=>hsw h.2)]at hst hsum
   simp (maxSteps:=400000) only[wF,storeA,reduceCtorEq,Nat.reduceAdd,Nat.reduceSub,Nat.reduceEqDiff,Nat.reduceLeDiff,Int.reduceToNat,Int.reduceLE,Int.reduceLT,Int.reduceAdd,Int.reduceNeg,Nat.reduceMul,L86_7,T86,a1x,e1,z1,Bool.not_true]
   refine callW.pure B83 hsm2 ?_
   simp (maxSteps:=400000) only[wF,storeA,reduceCtorEq,Nat.reduceAdd,Nat.reduceSub,Nat.reduceEqDiff,Nat.reduceLeDiff,Int.reduceToNat,Int.reduceLE,Int.reduceLT,Int.reduceAdd,Int.reduceNeg,Nat.reduceMul,T86,a1x,z1,hsi,lookupA,entriesA,keyT,hjx,e2]
  case' inr.inl=>
   refine⟨by simp,fun m hm2=>?_⟩
   generalize hA2:(⟨m,A1.get⟩:AHeap)=A2
   have e2:A2.get=A1.get:=by rw[←hA2]
   have e2n:A2.next=m:=by rw[←hA2]
   clear hA2
   have w4:=(wX2.trans w3).grow (J':=A2) (by have:=w3.2.2.2.1;omega) (by omega) (fun i _=>by rw[e2])
   simp (maxSteps:=400000) only[wF,storeA,reduceCtorEq,Nat.reduceAdd,Nat.reduceSub,Nat.reduceEqDiff,Nat.reduceLeDiff,Int.reduceToNat,Int.reduceLE,Int.reduceLT,Int.reduceAdd,Int.reduceNeg,Nat.reduceMul,T86,ew1]
   refine⟨(c+1,j3,A2),⟨hlt,?_⟩,by simp only;omega,by simp[Fg],HW.refl _⟩
   simp only
   rw[hst]
   rw[catS_two]at w4
   simpa[List.append_assoc]using w4
  all_goals
   refine⟨by simp,fun m hm2=>?_⟩
   generalize hA2:(⟨m,A1.get⟩:AHeap)=A2
   have e2:A2.get=A1.get:=by rw[←hA2]
   have e2n:A2.next=m:=by rw[←hA2]
   have hgen:∀r,(⟨m,A1.get⟩:AHeap).allocAt m r=A2.allocAt A2.next r:=fun r=>by rw[hA2,e2n]
   have k1:k<A1.next:=by have:=w3.2.2.2.1;omega
   have w4:=w3.grow (J':=A2) k1 (by omega) (fun i _=>by rw[e2])
   have hj3:j3<A1.next:=w3.2.2.1
   have hx23:=w3.2.2.2.1
   clear hA2
   simp only[List.length_append,List.length_cons,List.length_nil]at hsum
   rw[catS_two]at w4
   rw[←e2n]
   simp (maxSteps:=400000) only[wF,storeA,reduceCtorEq,Nat.reduceAdd,Nat.reduceSub,Nat.reduceEqDiff,Nat.reduceLeDiff,Int.reduceToNat,Int.reduceLE,Int.reduceLT,Int.reduceAdd,Int.reduceNeg,Nat.reduceMul,T86,AV.boxable,buildA,sliceLit,fillA,zerosA,Nat.le_refl,Nat.reduceLT]
   refine AInv.retK B52 (put_step [[61,34]] w4.1 (by omega) (by omega) (by rw[catS_one];simp only[List.length_append,List.length_cons,List.length_nil];omega) (show 1≤100 by decide)) (fun v A3 hq=>?_) (fun v A3 hq=>by cases hq.1)
   obtain⟨hv',j5,w5⟩:=hq
   cases hv'
   rw[catS_one]at w5
   have hnj3:J.next≠j3:=by have:=w3.2.1;omega
   have a3x:=(w5.2.2.2.2 J.next (by omega) (by omega) hnj3).trans ((congrFun e2 _).trans a1x)
   have wA3:=(wX2.trans w4).trans w5
   have hsw3:=(hm.keep wf hb (wX.trans wA3)).sw
   simp (maxSteps:=400000) only[wF,storeA,reduceCtorEq,Nat.reduceAdd,Nat.reduceSub,Nat.reduceEqDiff,Nat.reduceLeDiff,Int.reduceToNat,Int.reduceLE,Int.reduceLT,Int.reduceAdd,Int.reduceNeg,Nat.reduceMul,T86,a3x]
   refine AInv.retK B87 (chars_ok w5.1 hsw3 hyt (by simp only[List.length_append,List.length_cons,List.length_nil];omega)) (fun v A4 hq=>?_) (fun v A4 hq=>by cases hq.1)
   obtain⟨hv',j6,w6⟩:=hq
   cases hv'
   have w6:WP A3 k j5 (mkW l M) _ A4 j6:=w6
   have wA4:=wA3.trans w6
   simp (maxSteps:=400000) only[wF,storeA,reduceCtorEq,Nat.reduceAdd,Nat.reduceSub,Nat.reduceEqDiff,Nat.reduceLeDiff,Int.reduceToNat,Int.reduceLE,Int.reduceLT,Int.reduceAdd,Int.reduceNeg,Nat.reduceMul,T86,AV.boxable,buildA,sliceLit,fillA,zerosA,Nat.le_refl,Nat.reduceLT]
   refine AInv.retK B52 (put_step [[34]] wA4.1 wA4.2.2.1 (by have:=wA4.2.2.2.1;omega) (by rw[catS_one];simp only[List.length_append,List.length_cons,List.length_nil];omega) (show 1≤100 by decide)) (fun v A5 hq=>?_) (fun v A5 hq=>by cases hq.1)
   obtain⟨hv',j7,w7⟩:=hq
   cases hv'
   rw[catS_one]at w7
   have wA5:=wA4.trans w7
   simp (maxSteps:=400000) only[wF,storeA,reduceCtorEq,Nat.reduceAdd,Nat.reduceSub,Nat.reduceEqDiff,Nat.reduceLeDiff,Int.reduceToNat,Int.reduceLE,Int.reduceLT,Int.reduceAdd,Int.reduceNeg,Nat.reduceMul,T86,ew1]
   refine⟨(c+1,j7,A5),⟨hlt,?_⟩,by simp only;omega,by simp[Fg],HW.refl _⟩
   simp only
   rw[hst]
   simpa[List.append_assoc]using wA5
 have d0:decide ((c:Int)<(al.length:Int))=false:=decide_eq_false (by omega)
 have hce:c=al.length:=by omega
 subst hce
 rw[List.take_length]at w1
 simp (maxSteps:=400000) only[wF,storeA,reduceCtorEq,Nat.reduceAdd,Nat.reduceSub,Nat.reduceEqDiff,Nat.reduceLeDiff,Int.reduceToNat,Int.reduceLE,Int.reduceLT,Int.reduceAdd,Int.reduceNeg,Nat.reduceMul,T86,d0,AV.boxable,buildA,sliceLit,fillA,zerosA,Nat.le_refl,Nat.reduceLT]
 have hxj:H.next≠j:=by omega
 have jx:=(w1.2.2.2.2 H.next (by omega) (by omega) hxj).trans xx
 refine AInv.retK B52 (put_step [[62]] w1.1 hJj hJk (by rw[catS_one];simp only[List.length_append,List.length_cons,List.length_nil];omega) (show 1≤100 by decide)) (fun v A hq=>?_) (fun v A hq=>by cases hq.1)
 obtain⟨hv',j3,w3⟩:=hq
 cases hv'
 rw[catS_one]at w3
 have w4:=w1.trans w3
 have ax:=(w4.2.2.2.2 H.next (by omega) (by omega) hxj).trans xx
 have hmA:=hm.keep wf hb (wX.trans w4)
 have hvo:=hmA.vo
 have hAk:k<A.next:=by have:=w4.2.2.2.1;omega
 obtain⟨b2,z0,z1,z2⟩:=w4.1
 simp only[WV.obj,mkW]at z1
 have hLk:=findA_words (lowS x.name) voidsS 0
 clear d0 jx
 simp (maxSteps:=400000) only[wF,storeA,reduceCtorEq,Nat.reduceAdd,Nat.reduceSub,Nat.reduceEqDiff,Nat.reduceLeDiff,Int.reduceToNat,Int.reduceLE,Int.reduceLT,Int.reduceAdd,Int.reduceNeg,Nat.reduceMul,T86]
 refine drawW_ok (ex:=false) mixedOrders L86_13_eq P86_13_eq ?_
 simp (maxSteps:=400000) only[wF,storeA,reduceCtorEq,Nat.reduceAdd,Nat.reduceSub,Nat.reduceEqDiff,Nat.reduceLeDiff,Int.reduceToNat,Int.reduceLE,Int.reduceLT,Int.reduceAdd,Int.reduceNeg,Nat.reduceMul,L86_13,T86,ax,z1]
 refine callW.pure B83 hsm ?_
 by_cases hvd:lowS x.name∈voidsS
 ·obtain⟨jx,hjx⟩:=hLk.1 hvd
  have e2:decide ((1:Int)>0)=true:=rfl
  simp (maxSteps:=400000) only[wF,storeA,reduceCtorEq,Nat.reduceAdd,Nat.reduceSub,Nat.reduceEqDiff,Nat.reduceLeDiff,Int.reduceToNat,Int.reduceLE,Int.reduceLT,Int.reduceAdd,Int.reduceNeg,Nat.reduceMul,T86,ax,z1,hvo,lookupA,entriesA,keyT,hjx,e2]
  refine⟨by simp,fun m hm2=>?_⟩
  have fin:∃j2,WP H k j (mkW l M) (acc++([60]++x.name++al.flatMap (atS l)++[62]++(if lowS x.name∈voidsS then []else(kidsOf l i).flatMap (wrN l f)++([60,47]++x.name++[62])))) ⟨m,A.get⟩ j2:=by
   refine⟨j3,?_⟩
   rw[if_pos hvd]
   have:=(wX.trans w4).grow (J':=⟨m,A.get⟩) hAk hm2 (fun i _=>rfl)
   simpa[List.append_assoc]using this
  first | exact⟨rfl,by simpa using fin⟩ | simpa using fin
 ·have hjx:=hLk.2 hvd
  have e2:decide ((0:Int)>0)=false:=rfl
  have ht2:=tabA_get (f:=kidsOf l) hi
  rw[if_neg hvd]at hl ⊢
  simp (maxSteps:=400000) only[wF,storeA,reduceCtorEq,Nat.reduceAdd,Nat.reduceSub,Nat.reduceEqDiff,Nat.reduceLeDiff,Int.reduceToNat,Int.reduceLE,Int.reduceLT,Int.reduceAdd,Int.reduceNeg,Nat.reduceMul,T86,ax,z1,hvo,lookupA,entriesA,keyT,hjx,e2]
  refine⟨by simp,fun m hm2=>?_⟩
  generalize hA2:(⟨m,A.get⟩:AHeap)=A2
  have e3:A2.get=A.get:=by rw[←hA2]
  have e3n:A2.next=m:=by rw[←hA2]
  clear hA2
  have w5:=w4.grow (J':=A2) hAk (by omega) (fun i _=>by rw[e3])
  simp (maxSteps:=400000) only[wF,storeA,reduceCtorEq,Nat.reduceAdd,Nat.reduceSub,Nat.reduceEqDiff,Nat.reduceLeDiff,Int.reduceToNat,Int.reduceLE,Int.reduceLT,Int.reduceAdd,Int.reduceNeg,Nat.reduceMul,T86,q1,indexAddrA,ht2,Nat.mul_one]
  simp only[List.length_append,List.length_cons,List.length_nil]at hl
  generalize hkl:kidsOf l i=kl at hl hl2 ih ⊢
  generalize hpre:acc++([60]++x.name)++al.flatMap (atS l)++[62]=pre at w5
  have hprel:pre.length=acc.length+(1+x.name.length)+(al.flatMap (atS l)).length+1:=by(rw[←hpre];simp only[List.length_append,List.length_cons,List.length_nil])<;>omega
  refine ATrS.loopK (κ:=Nat × Nat × AHeap) (fun c=>[.ptr k 0,.int .i64 i,.int .i64 lev,.bool false,.und,.und,.und,.und,.ptr H.next 0]++List.replicate 94 .und++[.lst kl.length (intsA kl),.int .i64 kl.length,.int .i64 c.1]++List.replicate 24 .und) (fun c=>c.2.2)
   (fun c=>c.1≤kl.length∧WP X k j (mkW l M) (pre++(kl.take c.1).flatMap (wrN l f)) c.2.2 c.2.1) (fun c=>kl.length-c.1) ⟨(0,j3,A2),⟨Nat.zero_le _,by simpa using w5⟩,by simp[Fg],HW.refl _⟩ ?_
  clear w1 w3 w4 w5 z1 z2 ax hmA hvo
  rintro⟨c,jj,J⟩ ⟨hc,w1⟩
  simp only at hc w1
  have wHJ:=wX.trans w1
  have hJk:k<J.next:=by have:=wHJ.2.2.2.1;omega
  have hJj:jj<J.next:=w1.2.2.1
  have hmJ:=hm.keep wf hb wHJ
  by_cases hlt:c<kl.length
  ·have d0:decide ((c:Int)<(kl.length:Int))=true:=decide_eq_true (by omega)
   have q0:((c:Int)<(kl.length:Int))=True:=eq_true (by omega)
   have g0:=intsA_get hlt
   have hst:(kl.take (c+1)).flatMap (wrN l f)=(kl.take c).flatMap (wrN l f)++wrN l f (kl.getD c 0):=by
    have e1:kl.take (c+1)=kl.take c++[kl.getD c 0]:=by
     rw[List.take_succ,List.getElem?_eq_getElem hlt,List.getD_eq_getElem?_getD,List.getElem?_eq_getElem hlt];rfl
    rw[e1,List.flatMap_append]
    simp only[List.flatMap_cons,List.flatMap_nil,List.append_nil]
   have hsum:((kl.take (c+1)).flatMap (wrN l f)).length≤(kl.flatMap (wrN l f)).length:=by
    conv=>rhs;rw[←List.take_append_drop (c+1) kl,List.flatMap_append,List.length_append]
    omega
   rw[hst,List.length_append]at hsum
   have hcall:=ih _ (getD_mem hlt)
   generalize kl.getD c 0=d at g0 hst hsum hcall
   have ew1:IntKind.i64.wrap ((c:Int)+1)=((c+1:Nat):Int):=by rw[wrap64]<;>omega
   simp (maxSteps:=400000) only[wF,storeA,reduceCtorEq,Nat.reduceAdd,Nat.reduceSub,Nat.reduceEqDiff,Nat.reduceLeDiff,Int.reduceToNat,Int.reduceLE,Int.reduceLT,Int.reduceAdd,Int.reduceNeg,Nat.reduceMul,T86,d0,q0,g0,indexAddrA,Nat.mul_one]
   refine AInv.retK B55 (hcall _ J jj _ w1.1 hmJ (by rw[List.length_append];omega)) (fun v A hq=>?_) (fun v A hq=>by cases hq.1)
   obtain⟨hv',j4,w2⟩:=hq
   cases hv'
   have w3:=w1.trans w2
   simp (maxSteps:=400000) only[wF,storeA,reduceCtorEq,Nat.reduceAdd,Nat.reduceSub,Nat.reduceEqDiff,Nat.reduceLeDiff,Int.reduceToNat,Int.reduceLE,Int.reduceLT,Int.reduceAdd,Int.reduceNeg,Nat.reduceMul,T86,ew1]
   refine⟨(c+1,j4,A),⟨hlt,?_⟩,by simp only;omega,by simp[Fg],HW.refl _⟩
   simp only
   rw[hst,←List.append_assoc]
   exact w3
  ·have d0:decide ((c:Int)<(kl.length:Int))=false:=decide_eq_false (by omega)
   have hce:c=kl.length:=by omega
   subst hce
   rw[List.take_length]at w1
   have jx:=(w1.2.2.2.2 H.next (by omega) (by omega) hxj).trans xx
   have u2:(J.next=H.next)=False:=eq_false (by have:=w1.2.2.2.1;omega)
   have u3:(H.next=J.next)=False:=eq_false (by have:=w1.2.2.2.1;omega)
   simp (maxSteps:=400000) only[wF,storeA,reduceCtorEq,Nat.reduceAdd,Nat.reduceSub,Nat.reduceEqDiff,Nat.reduceLeDiff,Int.reduceToNat,Int.reduceLE,Int.reduceLT,Int.reduceAdd,Int.reduceNeg,Nat.reduceMul,T86,d0,jx,AV.boxable,buildA,sliceLit,fillA,zerosA,Nat.le_refl,Nat.reduceLT]
   refine AInv.retK B52 (put_step [[60,47],x.name,[62]] w1.1 hJj hJk (by rw[catS_three];simp only[List.length_append,List.length_cons,List.length_nil];omega) (show 3≤100 by decide)) (fun v A hq=>?_) (fun v A hq=>by cases hq.1)
   obtain⟨hv',j4,w2⟩:=hq
   cases hv'
   rw[catS_three]at w2
   have w3:=wHJ.trans w2
   simp (maxSteps:=400000) only[wF,storeA,reduceCtorEq,Nat.reduceAdd,Nat.reduceSub,Nat.reduceEqDiff,Nat.reduceLeDiff,Int.reduceToNat,Int.reduceLE,Int.reduceLT,Int.reduceAdd,Int.reduceNeg,Nat.reduceMul,T86]
   have fin:∃j2,WP H k j (mkW l M) (acc++([60]++x.name++al.flatMap (atS l)++[62]++(kl.flatMap (wrN l f)++([60,47]++x.name++[62])))) A j2:=by
    refine⟨j4,?_⟩
    rw[←hpre]at w3
    simpa[List.append_assoc]using w3
   first | exact⟨rfl,by simpa using fin⟩ | simpa using fin
end Go.Ab
namespace Go.Ab
open Go Go.Lib Go.Proofs
set_option maxHeartbeats 16000000 in
set_option maxRecDepth 100000 in
theorem node1_ok {G:Nat→Option (List AV)} (hM:SMapOk G) {l:List Nd} (hv:ValidN l) {M:WM} {k f i:Nat} (h0:1≤i) (hi:i<l.length) (h1:(l.getD i nd0).kind=1) (ih:∀kd∈kidsOf l i,NodeOk8 G l M k f kd):NodeOk8 G l M k (f+1) i:=by
 intro lev H j acc hb hm hl
 refine ACalls.wf fun wf=>?_
 have hkn:k<H.next:=by obtain⟨b0,_,h1,_⟩:=hb;exact wf _ _ h1
 have hjn:j<H.next:=by obtain⟨b0,_,_,h2⟩:=hb;exact wf _ _ h2
 have q1:((i:Int)<(l.length:Int))=True:=eq_true (by omega)
 have hat:=ndsH_at l i hi
 have hxe:=nd_getD hi
 rw[←hxe]at hat
 have hle:(i*4+4≤(ndsH l).length)=True:=by rw[ndsH_len];simp;omega
 have hit:isTextS (l.getD i nd0).text=true:=by
  have hall:=hv.allowed i hi
  unfold allowedS at hall
  rw[Bool.and_eq_true]at hall
  exact hall.1
 obtain⟨b0,x0,x1,x2⟩:=hb
 have hbk:=x1
 simp only[WV.obj,mkW]at x1
 have u1:(k=H.next)=False:=eq_false (by omega)
 have u2:(H.next=H.next+1)=False:=eq_false (by omega)
 have hb:WAt H k j (mkW l M) acc:=⟨b0,x0,hbk,x2⟩
 have h1':=h1
 generalize hx:l.getD i nd0=x at hat hit h1
 simp only[ndH]at hat
 have e1:((x.kind:Int)==1)=true:=by rw[h1];rfl
 refine ACalls.of Tryz.func55 S55_eq R55 N55 rfl rfl ?_
 simp (maxSteps:=400000) only[wF,storeA,reduceCtorEq,Nat.reduceAdd,Nat.reduceSub,Nat.reduceEqDiff,Nat.reduceLeDiff,Int.reduceToNat,Int.reduceLE,Int.reduceLT,Int.reduceAdd,Int.reduceNeg,Nat.reduceMul,S55,N55,R55,T55,x1,q1,hat,hle,indexAddrA,u1,u2,AV.boxable,buildA,sliceLit,fillA,zerosA,Nat.le_refl,Nat.reduceLT,e1]
 generalize hX:AHeap.set (H.allocAt H.next _) H.next _=X
 have xn:X.next=H.next+1:=by rw[←hX];simp only[AHeap.next_set,AHeap.next_allocAt];omega
 have xx:X.get H.next=some (.cells 36 [.int .i64 x.kind,.str x.name,.str x.text,.int .i64 x.up]):=by rw[←hX,AHeap.get_set_same]
 have xo:∀i,i<H.next→X.get i=H.get i:=fun i hi=>by rw[←hX,AHeap.get_set_ne _ _ (by omega),AHeap.get_allocAt_ne _ _ (by omega)]
 clear hX
 have wX:=(WP.refl hb hjn).grow hkn (by omega) xo
 have hmX:=hm.keep wf hb wX
 refine AInv.retK B86 (element_ok hM hv hi h1' ih lev X j acc wX.1 hmX hl) (fun v A hq=>?_) (fun v A hq=>by cases hq.1)
 obtain⟨hv',j2,w1⟩:=hq
 cases hv'
 have w2:=wX.trans w1
 simp (maxSteps:=400000) only[wF,storeA,reduceCtorEq,Nat.reduceAdd,Nat.reduceSub,Nat.reduceEqDiff,Nat.reduceLeDiff,Int.reduceToNat,Int.reduceLE,Int.reduceLT,Int.reduceAdd,Int.reduceNeg,Nat.reduceMul,T55]
 have fin:∃j2,WP H k j (mkW l M) (acc++wrN l (f+1) i) A j2:=⟨j2,w2⟩
 first | exact⟨rfl,fin⟩ | exact fin
set_option maxHeartbeats 16000000 in
set_option maxRecDepth 100000 in
theorem node3_ok {G:Nat→Option (List AV)} (hM:SMapOk G) {l:List Nd} (hv:ValidN l) {M:WM} {k f i:Nat} (h0:1≤i) (hi:i<l.length) (h1:(l.getD i nd0).kind=3):NodeOk8 G l M k (f+1) i:=by
 intro lev H j acc hb hm hl
 refine ACalls.wf fun wf=>?_
 have hkn:k<H.next:=by obtain⟨b0,_,h1,_⟩:=hb;exact wf _ _ h1
 have hjn:j<H.next:=by obtain⟨b0,_,_,h2⟩:=hb;exact wf _ _ h2
 have ew:wrN l (f+1) i=(if isRawS (l.getD (l.getD i nd0).up.toNat nd0).name=true then(l.getD i nd0).text else escS false (l.getD i nd0).text):=by simp only[wrN,h1]
 rw[ew]at hl ⊢
 have q1:((i:Int)<(l.length:Int))=True:=eq_true (by omega)
 have hat:=ndsH_at l i hi
 have hxe:=nd_getD hi
 rw[←hxe]at hat
 have hle:(i*4+4≤(ndsH l).length)=True:=by rw[ndsH_len];simp;omega
 have hit:isTextS (l.getD i nd0).text=true:=by
  have hall:=hv.allowed i hi
  unfold allowedS at hall
  rw[Bool.and_eq_true]at hall
  exact hall.1
 obtain⟨b0,x0,x1,x2⟩:=hb
 have hbk:=x1
 simp only[WV.obj,mkW]at x1
 have u1:(k=H.next)=False:=eq_false (by omega)
 have u2:(H.next=H.next+1)=False:=eq_false (by omega)
 have hb:WAt H k j (mkW l M) acc:=⟨b0,x0,hbk,x2⟩
 have hinr:=fun(J:AHeap) (b0 v:AV) hk hmJ=>inRaw_ok (b0:=b0) (v:=v) (H:=J) (k:=k) (M:=M) hM hv hk hmJ h0 hi
 generalize isRawS (l.getD (l.getD i nd0).up.toNat nd0).name=raw at hl hinr ⊢
 generalize hx:l.getD i nd0=x at hat hit h1 hl ⊢
 simp only[ndH]at hat
 have e1:((x.kind:Int)==1)=false:=by rw[h1];rfl
 have e3:((x.kind:Int)==3)=true:=by rw[h1];rfl
 refine ACalls.of Tryz.func55 S55_eq R55 N55 rfl rfl ?_
 simp (maxSteps:=400000) only[wF,storeA,reduceCtorEq,Nat.reduceAdd,Nat.reduceSub,Nat.reduceEqDiff,Nat.reduceLeDiff,Int.reduceToNat,Int.reduceLE,Int.reduceLT,Int.reduceAdd,Int.reduceNeg,Nat.reduceMul,S55,N55,R55,T55,x1,q1,hat,hle,indexAddrA,u1,u2,AV.boxable,buildA,sliceLit,fillA,zerosA,Nat.le_refl,Nat.reduceLT,e1,e3]
 generalize hX:AHeap.set (H.allocAt H.next _) H.next _=X
 have xn:X.next=H.next+1:=by rw[←hX];simp only[AHeap.next_set,AHeap.next_allocAt];omega
 have xx:X.get H.next=some (.cells 36 [.int .i64 x.kind,.str x.name,.str x.text,.int .i64 x.up]):=by rw[←hX,AHeap.get_set_same]
 have xo:∀i,i<H.next→X.get i=H.get i:=fun i hi=>by rw[←hX,AHeap.get_set_ne _ _ (by omega),AHeap.get_allocAt_ne _ _ (by omega)]
 clear hX
 have wX:=(WP.refl hb hjn).grow hkn (by omega) xo
 have hmX:=hm.keep wf hb wX
 obtain⟨b1,y0,y1,y2⟩:=wX.1
 refine AInv.retK B50 (hinr X b1 _ y1 hmX) (fun v A hq=>?_) (fun v A hq=>by cases hq.1)
 obtain⟨hv',hA⟩:=hq
 cases hv'
 have wA:=wX.grow (J':=A) (by omega) hA.1 (fun i _=>by rw[hA.2])
 have ax:=(congrFun hA.2 _).trans xx
 have hmA:=hm.keep wf hb wA
 have hAn:=hA.1
 cases raw with
 | true=>
  rw[if_pos rfl]at hl ⊢
  simp (maxSteps:=400000) only[wF,storeA,reduceCtorEq,Nat.reduceAdd,Nat.reduceSub,Nat.reduceEqDiff,Nat.reduceLeDiff,Int.reduceToNat,Int.reduceLE,Int.reduceLT,Int.reduceAdd,Int.reduceNeg,Nat.reduceMul,T55,ax,AV.boxable,buildA,sliceLit,fillA,zerosA,Nat.le_refl,Nat.reduceLT]
  refine AInv.retK B52 (put_step [x.text] wA.1 wA.2.2.1 (by omega) (by rw[catS_one];omega) (show 1≤100 by decide)) (fun v A1 hq=>?_) (fun v A1 hq=>by cases hq.1)
  obtain⟨hv',j2,w1⟩:=hq
  cases hv'
  rw[catS_one]at w1
  simp (maxSteps:=400000) only[wF,storeA,reduceCtorEq,Nat.reduceAdd,Nat.reduceSub,Nat.reduceEqDiff,Nat.reduceLeDiff,Int.reduceToNat,Int.reduceLE,Int.reduceLT,Int.reduceAdd,Int.reduceNeg,Nat.reduceMul,T55]
  have fin:∃j2,WP H k j (mkW l M) (acc++x.text) A1 j2:=⟨j2,wA.trans w1⟩
  first | exact⟨rfl,fin⟩ | exact fin
 | false=>
  rw[if_neg (by simp)]at hl ⊢
  simp (maxSteps:=400000) only[wF,storeA,reduceCtorEq,Nat.reduceAdd,Nat.reduceSub,Nat.reduceEqDiff,Nat.reduceLeDiff,Int.reduceToNat,Int.reduceLE,Int.reduceLT,Int.reduceAdd,Int.reduceNeg,Nat.reduceMul,T55,ax]
  refine AInv.retK B87 (chars_ok wA.1 hmA.sw hit hl) (fun v A1 hq=>?_) (fun v A1 hq=>by cases hq.1)
  obtain⟨hv',j2,w1⟩:=hq
  cases hv'
  have w1:WP A k _ (mkW l M) _ A1 j2:=w1
  simp (maxSteps:=400000) only[wF,storeA,reduceCtorEq,Nat.reduceAdd,Nat.reduceSub,Nat.reduceEqDiff,Nat.reduceLeDiff,Int.reduceToNat,Int.reduceLE,Int.reduceLT,Int.reduceAdd,Int.reduceNeg,Nat.reduceMul,T55]
  have fin:∃j2,WP H k j (mkW l M) (acc++escS false x.text) A1 j2:=⟨j2,wA.trans w1⟩
  first | exact⟨rfl,fin⟩ | exact fin
set_option maxHeartbeats 16000000 in
set_option maxRecDepth 100000 in
theorem node4_ok {G:Nat→Option (List AV)} (hM:SMapOk G) {l:List Nd} (hv:ValidN l) {M:WM} {k f i:Nat} (h0:1≤i) (hi:i<l.length) (h1:(l.getD i nd0).kind=4):NodeOk8 G l M k (f+1) i:=by
 intro lev H j acc hb hm hl
 refine ACalls.wf fun wf=>?_
 have hkn:k<H.next:=by obtain⟨b0,_,h1,_⟩:=hb;exact wf _ _ h1
 have hjn:j<H.next:=by obtain⟨b0,_,_,h2⟩:=hb;exact wf _ _ h2
 have ew:wrN l (f+1) i=[60,33,45,45]++(l.getD i nd0).text++[45,45,62]:=by simp only[wrN,h1]
 rw[ew]at hl ⊢
 have q1:((i:Int)<(l.length:Int))=True:=eq_true (by omega)
 have hat:=ndsH_at l i hi
 have hxe:=nd_getD hi
 rw[←hxe]at hat
 have hle:(i*4+4≤(ndsH l).length)=True:=by rw[ndsH_len];simp;omega
 have hit:isTextS (l.getD i nd0).text=true:=by
  have hall:=hv.allowed i hi
  unfold allowedS at hall
  rw[Bool.and_eq_true]at hall
  exact hall.1
 obtain⟨b0,x0,x1,x2⟩:=hb
 have hbk:=x1
 simp only[WV.obj,mkW]at x1
 have u1:(k=H.next)=False:=eq_false (by omega)
 have u2:(H.next=H.next+1)=False:=eq_false (by omega)
 have hb:WAt H k j (mkW l M) acc:=⟨b0,x0,hbk,x2⟩
 generalize hx:l.getD i nd0=x at hat hit h1 hl ⊢
 simp only[ndH]at hat
 have e1:((x.kind:Int)==1)=false:=by rw[h1];rfl
 have e3:((x.kind:Int)==3)=false:=by rw[h1];rfl
 have e4:((x.kind:Int)==4)=true:=by rw[h1];rfl
 refine ACalls.of Tryz.func55 S55_eq R55 N55 rfl rfl ?_
 simp (maxSteps:=400000) only[wF,storeA,reduceCtorEq,Nat.reduceAdd,Nat.reduceSub,Nat.reduceEqDiff,Nat.reduceLeDiff,Int.reduceToNat,Int.reduceLE,Int.reduceLT,Int.reduceAdd,Int.reduceNeg,Nat.reduceMul,S55,N55,R55,T55,x1,q1,hat,hle,indexAddrA,u1,u2,AV.boxable,buildA,sliceLit,fillA,zerosA,Nat.le_refl,Nat.reduceLT,e1,e3,e4]
 generalize hX:AHeap.set (H.allocAt H.next _) H.next _=X
 have xn:X.next=H.next+1:=by rw[←hX];simp only[AHeap.next_set,AHeap.next_allocAt];omega
 have xx:X.get H.next=some (.cells 36 [.int .i64 x.kind,.str x.name,.str x.text,.int .i64 x.up]):=by rw[←hX,AHeap.get_set_same]
 have xo:∀i,i<H.next→X.get i=H.get i:=fun i hi=>by rw[←hX,AHeap.get_set_ne _ _ (by omega),AHeap.get_allocAt_ne _ _ (by omega)]
 clear hX
 have wX:=(WP.refl hb hjn).grow hkn (by omega) xo
 have hmX:=hm.keep wf hb wX
 rw[←xn]
 refine AInv.retK B52 (put_step [[60,33,45,45],x.text,[45,45,62]] wX.1 (by omega) (by omega) (by rw[catS_three];exact hl) (show 3≤100 by decide)) (fun v A1 hq=>?_) (fun v A1 hq=>by cases hq.1)
 obtain⟨hv',j2,w1⟩:=hq
 cases hv'
 rw[catS_three]at w1
 simp (maxSteps:=400000) only[wF,storeA,reduceCtorEq,Nat.reduceAdd,Nat.reduceSub,Nat.reduceEqDiff,Nat.reduceLeDiff,Int.reduceToNat,Int.reduceLE,Int.reduceLT,Int.reduceAdd,Int.reduceNeg,Nat.reduceMul,T55]
 have fin:∃j2,WP H k j (mkW l M) (acc++([60,33,45,45]++x.text++[45,45,62])) A1 j2:=⟨j2,wX.trans w1⟩
 first | exact⟨rfl,by simpa using fin⟩ | simpa using fin
set_option maxHeartbeats 16000000 in
set_option maxRecDepth 100000 in
theorem node5_ok {G:Nat→Option (List AV)} (hM:SMapOk G) {l:List Nd} (hv:ValidN l) {M:WM} {k f i:Nat} (h0:1≤i) (hi:i<l.length) (h1:(l.getD i nd0).kind=5):NodeOk8 G l M k (f+1) i:=by
 intro lev H j acc hb hm hl
 refine ACalls.wf fun wf=>?_
 have hkn:k<H.next:=by obtain⟨b0,_,h1,_⟩:=hb;exact wf _ _ h1
 have hjn:j<H.next:=by obtain⟨b0,_,_,h2⟩:=hb;exact wf _ _ h2
 have ew:wrN l (f+1) i=[60,63]++(l.getD i nd0).name++(if(l.getD i nd0).text=[]then []else [32]++(l.getD i nd0).text)++[62]:=by simp only[wrN,h1]
 rw[ew]at hl ⊢
 have q1:((i:Int)<(l.length:Int))=True:=eq_true (by omega)
 have hat:=ndsH_at l i hi
 have hxe:=nd_getD hi
 rw[←hxe]at hat
 have hle:(i*4+4≤(ndsH l).length)=True:=by rw[ndsH_len];simp;omega
 have hit:isTextS (l.getD i nd0).text=true:=by
  have hall:=hv.allowed i hi
  unfold allowedS at hall
  rw[Bool.and_eq_true]at hall
  exact hall.1
 obtain⟨b0,x0,x1,x2⟩:=hb
 have hbk:=x1
 simp only[WV.obj,mkW]at x1
 have u1:(k=H.next)=False:=eq_false (by omega)
 have u2:(H.next=H.next+1)=False:=eq_false (by omega)
 have hb:WAt H k j (mkW l M) acc:=⟨b0,x0,hbk,x2⟩
 generalize hx:l.getD i nd0=x at hat hit h1 hl ⊢
 simp only[ndH]at hat
 have e1:((x.kind:Int)==1)=false:=by rw[h1];rfl
 have e3:((x.kind:Int)==3)=false:=by rw[h1];rfl
 have e4:((x.kind:Int)==4)=false:=by rw[h1];rfl
 have e5:((x.kind:Int)==5)=true:=by rw[h1];rfl
 refine ACalls.of Tryz.func55 S55_eq R55 N55 rfl rfl ?_
 simp (maxSteps:=400000) only[wF,storeA,reduceCtorEq,Nat.reduceAdd,Nat.reduceSub,Nat.reduceEqDiff,Nat.reduceLeDiff,Int.reduceToNat,Int.reduceLE,Int.reduceLT,Int.reduceAdd,Int.reduceNeg,Nat.reduceMul,S55,N55,R55,T55,x1,q1,hat,hle,indexAddrA,u1,u2,AV.boxable,buildA,sliceLit,fillA,zerosA,Nat.le_refl,Nat.reduceLT,e1,e3,e4,e5]
 generalize hX:AHeap.set (H.allocAt H.next _) H.next _=X
 have xn:X.next=H.next+1:=by rw[←hX];simp only[AHeap.next_set,AHeap.next_allocAt];omega
 have xx:X.get H.next=some (.cells 36 [.int .i64 x.kind,.str x.name,.str x.text,.int .i64 x.up]):=by rw[←hX,AHeap.get_set_same]
 have xo:∀i,i<H.next→X.get i=H.get i:=fun i hi=>by rw[←hX,AHeap.get_set_ne _ _ (by omega),AHeap.get_allocAt_ne _ _ (by omega)]
 clear hX
 have wX:=(WP.refl hb hjn).grow hkn (by omega) xo
 have hmX:=hm.keep wf hb wX
 rw[←xn]
 simp only[List.length_append,List.length_cons,List.length_nil]at hl
 refine AInv.retK B52 (put_step [[60,63],x.name] wX.1 (by omega) (by omega) (by rw[catS_two];simp only[List.length_append,List.length_cons,List.length_nil];omega) (show 2≤100 by decide)) (fun v A1 hq=>?_) (fun v A1 hq=>by cases hq.1)
 obtain⟨hv',j2,w1⟩:=hq
 cases hv'
 rw[catS_two]at w1
 have w2:=wX.trans w1
 have a1x:=(w1.2.2.2.2 H.next (by omega) (by omega) (by omega)).trans xx
 have hA1k:k<A1.next:=by have:=w2.2.2.2.1;omega
 have hHA:H.next<A1.next:=by have:=w1.2.2.2.1;omega
 have v1:(H.next=A1.next)=False:=eq_false (by omega)
 by_cases ht:x.text=[]
 ·have et:(x.text==[])=true:=by rw[ht];rfl
  rw[if_pos ht]at hl ⊢
  simp (maxSteps:=400000) only[wF,storeA,reduceCtorEq,Nat.reduceAdd,Nat.reduceSub,Nat.reduceEqDiff,Nat.reduceLeDiff,Int.reduceToNat,Int.reduceLE,Int.reduceLT,Int.reduceAdd,Int.reduceNeg,Nat.reduceMul,T55,a1x,et,Bool.not_true,AV.boxable,buildA,sliceLit,fillA,zerosA,Nat.le_refl,Nat.reduceLT]
  refine AInv.retK B52 (put_step [[62]] w2.1 w2.2.2.1 hA1k (by rw[catS_one];simp only[List.length_append,List.length_cons,List.length_nil]at hl ⊢;omega) (show 1≤100 by decide)) (fun v A2 hq=>?_) (fun v A2 hq=>by cases hq.1)
  obtain⟨hv',j3,w3⟩:=hq
  cases hv'
  rw[catS_one]at w3
  simp (maxSteps:=400000) only[wF,storeA,reduceCtorEq,Nat.reduceAdd,Nat.reduceSub,Nat.reduceEqDiff,Nat.reduceLeDiff,Int.reduceToNat,Int.reduceLE,Int.reduceLT,Int.reduceAdd,Int.reduceNeg,Nat.reduceMul,T55]
  have fin:∃j2,WP H k j (mkW l M) (acc++([60,63]++x.name++[]++[62])) A2 j2:=⟨j3,by have:=w2.trans w3;simpa[List.append_assoc]using this⟩
  first | exact⟨rfl,by simpa using fin⟩ | simpa using fin
 ·have et:(x.text==[])=false:=beq_eq_false_iff_ne.2 ht
  rw[if_neg ht]at hl ⊢
  simp only[List.length_append,List.length_cons,List.length_nil]at hl
  simp (maxSteps:=400000) only[wF,storeA,reduceCtorEq,Nat.reduceAdd,Nat.reduceSub,Nat.reduceEqDiff,Nat.reduceLeDiff,Int.reduceToNat,Int.reduceLE,Int.reduceLT,Int.reduceAdd,Int.reduceNeg,Nat.reduceMul,T55,a1x,v1,et,Bool.not_false,AV.boxable,buildA,sliceLit,fillA,zerosA,Nat.le_refl,Nat.reduceLT]
  refine AInv.retK B52 (put_step [[32],x.text] w2.1 w2.2.2.1 hA1k (by rw[catS_two];simp only[List.length_append,List.length_cons,List.length_nil];omega) (show 2≤100 by decide)) (fun v A2 hq=>?_) (fun v A2 hq=>by cases hq.1)
  obtain⟨hv',j3,w3⟩:=hq
  cases hv'
  rw[catS_two]at w3
  have w4:=w2.trans w3
  have hA2k:k<A2.next:=by have:=w4.2.2.2.1;omega
  simp (maxSteps:=400000) only[wF,storeA,reduceCtorEq,Nat.reduceAdd,Nat.reduceSub,Nat.reduceEqDiff,Nat.reduceLeDiff,Int.reduceToNat,Int.reduceLE,Int.reduceLT,Int.reduceAdd,Int.reduceNeg,Nat.reduceMul,T55,AV.boxable,buildA,sliceLit,fillA,zerosA,Nat.le_refl,Nat.reduceLT]
  refine AInv.retK B52 (put_step [[62]] w4.1 w4.2.2.1 hA2k (by rw[catS_one];simp only[List.length_append,List.length_cons,List.length_nil];omega) (show 1≤100 by decide)) (fun v A3 hq=>?_) (fun v A3 hq=>by cases hq.1)
  obtain⟨hv',j4,w5⟩:=hq
  cases hv'
  rw[catS_one]at w5
  simp (maxSteps:=400000) only[wF,storeA,reduceCtorEq,Nat.reduceAdd,Nat.reduceSub,Nat.reduceEqDiff,Nat.reduceLeDiff,Int.reduceToNat,Int.reduceLE,Int.reduceLT,Int.reduceAdd,Int.reduceNeg,Nat.reduceMul,T55]
  have fin:∃j2,WP H k j (mkW l M) (acc++([60,63]++x.name++([32]++x.text)++[62])) A3 j2:=⟨j4,by have:=w4.trans w5;simpa[List.append_assoc]using this⟩
  first | exact⟨rfl,by simpa using fin⟩ | simpa using fin
theorem node_ok {G:Nat→Option (List AV)} (hM:SMapOk G) {l:List Nd} (hv:ValidN l) {M:WM} {k:Nat}:∀(f i:Nat),1≤i→i<l.length→l.length-i≤f→(l.getD i nd0).kind≠2→NodeOk8 G l M k f i
 | 0,i,h0,hi,hf,_=>by omega
 | f+1,i,h0,hi,hf,h2=>by
  have ih:∀kd∈kidsOf l i,NodeOk8 G l M k f kd:=fun kd hkd=>by
   have h1:=kidsOf_lt hkd
   have h3:=hv.up kd (by omega) h1.1
   exact node_ok hM hv f kd h1.2.1 h1.1 (by omega) h1.2.2.2
  have hkind:=hv.kind i hi
  have hdoc:=hv.doc i (by omega) hi
  have hc:(l.getD i nd0).kind=1∨(l.getD i nd0).kind=3∨(l.getD i nd0).kind=4∨(l.getD i nd0).kind=5:=by omega
  rcases hc with h | h | h | h
  ·exact node1_ok hM hv h0 hi h ih
  ·exact node3_ok hM hv h0 hi h
  ·exact node4_ok hM hv h0 hi h
  ·exact node5_ok hM hv h0 hi h
end Go.Ab
namespace Go.Ab
open Go Go.Lib Go.Proofs
def badN (l:List Nd) (i:Nat):Bool:=
 match (l.getD i nd0).kind with
 | 1=>decide (lowS (l.getD i nd0).name∈voidsS)&&decide (0<(kidsOf l i).length)
 | 3=>isRawS (l.getD (l.getD i nd0).up.toNat nd0).name&&(Lib.contains (l.getD i nd0).text [60,47]||Lib.contains (l.getD i nd0).text [13])
 | 4=>Lib.contains (l.getD i nd0).text [13]||Lib.hasPrefix (l.getD i nd0).text [62]||Lib.hasPrefix (l.getD i nd0).text [45,62]||isRawS (l.getD (l.getD i nd0).up.toNat nd0).name
 | 5=>Lib.containsAny (l.getD i nd0).text [13,62]||isRawS (l.getD (l.getD i nd0).up.toNat nd0).name
 | _=>false
def AnyOk (G:Nat→Option (List AV)):Prop:=∀s:List UInt8,s.length≤1000000000→isTextS s=true→PureCall Tryz.prog G 85 [.str s,.str [13,62]] (.bool (Lib.containsAny s [13,62]))
set_option maxHeartbeats 16000000 in
set_option maxRecDepth 100000 in
theorem bad1_ok {G:Nat→Option (List AV)} (E:Env G) (X:EnvH G) (hM:SMapOk G) (hA:AnyOk G) {H:AHeap} {k:Nat} {l:List Nd} {M:WM} {b0 v:AV} (hv:ValidN l) (hk:H.get k=some ((mkW l M).obj b0 v)) (hm:MAt H M) {i:Nat} (h0:1≤i) (hi:i<l.length) (h1:(l.getD i nd0).kind=1) :
  ACalls Tryz.prog G 49 [.ptr k 0,.int .i64 i] H fun r H'=>r = .ret (.bool (badN l i))∧Kept H H':=by
 refine ACalls.wf fun wf=>?_
 have hkn:k<H.next:=wf _ _ hk
 have ew:badN l i=(decide (lowS (l.getD i nd0).name∈voidsS)&&decide (0<(kidsOf l i).length)):=by simp only[badN,h1]
 rw[ew]
 have q1:((i:Int)<(l.length:Int))=True:=eq_true (by omega)
 have hat:=ndsH_at l i hi
 have hxe:=nd_getD hi
 rw[←hxe]at hat
 have hle:(i*4+4≤(ndsH l).length)=True:=by rw[ndsH_len];simp;omega
 have hbd:=hv.bound i hi
 have hsm:=small_ok hM hbd.1 (name_text hv hi)
 have hit:isTextS (l.getD i nd0).text=true:=by
  have hall:=hv.allowed i hi
  unfold allowedS at hall
  rw[Bool.and_eq_true]at hall
  exact hall.1
 have hinr:=fun(J:AHeap) (hk:J.get k=some ((mkW l M).obj b0 v)) hmJ=>inRaw_ok (H:=J) (k:=k) (M:=M) hM hv hk hmJ h0 hi
 generalize isRawS (l.getD (l.getD i nd0).up.toNat nd0).name=raw at hinr ⊢
 have hbk:=hk
 simp only[WV.obj,mkW]at hk
 have u1:(k=H.next)=False:=eq_false (by omega)
 generalize hx:l.getD i nd0=x at hat hit h1 hsm hbd ⊢
 simp only[ndH]at hat
 have e1:((x.kind:Int)==1)=true:=by rw[h1];rfl
 refine ACalls.of Tryz.func49 S49_eq R49 N49 rfl rfl ?_
 simp (maxSteps:=400000) only[wF,storeA,reduceCtorEq,Nat.reduceAdd,Nat.reduceSub,Nat.reduceEqDiff,Nat.reduceLeDiff,Int.reduceToNat,Int.reduceLE,Int.reduceLT,Int.reduceAdd,Int.reduceNeg,Nat.reduceMul,S49,N49,R49,T49,hk,q1,hat,hle,indexAddrA,u1,AV.boxable,e1]
 generalize hX:AHeap.set (H.allocAt H.next _) H.next _=J
 have xn:J.next=H.next+1:=by rw[←hX];simp only[AHeap.next_set,AHeap.next_allocAt];omega
 have xx:J.get H.next=some (.cells 36 [.int .i64 x.kind,.str x.name,.str x.text,.int .i64 x.up]):=by rw[←hX,AHeap.get_set_same]
 have xo:∀i,i<H.next→J.get i=H.get i:=fun i hi=>by rw[←hX,AHeap.get_set_ne _ _ (by omega),AHeap.get_allocAt_ne _ _ (by omega)]
 clear hX
 have jk:=(xo _ hkn).trans hbk
 have jm:MAt J M:=⟨(xo _ (wf _ _ hm.sw)).trans hm.sw,(xo _ (wf _ _ hm.vo)).trans hm.vo,(xo _ (wf _ _ hm.ra)).trans hm.ra,(xo _ (wf _ _ hm.ke)).trans hm.ke,(xo _ (wf _ _ hm.si)).trans hm.si⟩
 have fin:∀J':AHeap,Keeps J J'→Kept H J':=fun J' h=>⟨by have:=h.1;omega,fun i hi=>by rw[h.2];exact xo i hi⟩
 have hLk:=findA_words (lowS x.name) voidsS 0
 have jvo:=jm.vo
 have jk':=jk
 simp only[WV.obj,mkW]at jk'
 have ht2:=tabA_get (f:=kidsOf l) hi
 refine drawW_ok (ex:=false) mixedOrders L49_4_eq P49_4_eq ?_
 simp (maxSteps:=400000) only[wF,storeA,reduceCtorEq,Nat.reduceAdd,Nat.reduceSub,Nat.reduceEqDiff,Nat.reduceLeDiff,Int.reduceToNat,Int.reduceLE,Int.reduceLT,Int.reduceAdd,Int.reduceNeg,Nat.reduceMul,L49_4,T49,xx,jk']
 refine callW.pure B83 hsm ?_
 have done:∀(b c:Bool) (m:Nat),b=c→J.next≤m→ARes.ret (AV.bool b)=ARes.ret (AV.bool c)∧Kept H ⟨m,J.get⟩:=fun b c m hb hm=>⟨by rw[hb],fin _ ⟨hm,rfl⟩⟩
 by_cases hvd:lowS x.name∈voidsS
 ·obtain⟨jx,hjx⟩:=hLk.1 hvd
  have e2:decide ((1:Int)>0)=true:=rfl
  have hcast:decide (((kidsOf l i).length:Int)>0)=decide (0<(kidsOf l i).length):=by
   by_cases h:0<(kidsOf l i).length
   ·rw[decide_eq_true h,decide_eq_true (by omega)]
   ·rw[decide_eq_false h,decide_eq_false (by omega)]
  rw[decide_eq_true hvd,Bool.true_and]
  simp (maxSteps:=400000) only[wF,storeA,reduceCtorEq,Nat.reduceAdd,Nat.reduceSub,Nat.reduceEqDiff,Nat.reduceLeDiff,Int.reduceToNat,Int.reduceLE,Int.reduceLT,Int.reduceAdd,Int.reduceNeg,Nat.reduceMul,T49,xx,jk',jvo,lookupA,entriesA,keyT,hjx,e2,q1,indexAddrA,ht2,Nat.mul_one,hcast]
  exact⟨by simp,fun m hm=>fin _ ⟨hm,rfl⟩⟩
 ·have hjx:=hLk.2 hvd
  have e2:decide ((0:Int)>0)=false:=rfl
  rw[decide_eq_false hvd,Bool.false_and]
  simp (maxSteps:=400000) only[wF,storeA,reduceCtorEq,Nat.reduceAdd,Nat.reduceSub,Nat.reduceEqDiff,Nat.reduceLeDiff,Int.reduceToNat,Int.reduceLE,Int.reduceLT,Int.reduceAdd,Int.reduceNeg,Nat.reduceMul,T49,xx,jk',jvo,lookupA,entriesA,keyT,hjx,e2]
  exact⟨by simp,fun m hm=>fin _ ⟨hm,rfl⟩⟩
set_option maxHeartbeats 16000000 in
set_option maxRecDepth 100000 in
theorem bad4_ok {G:Nat→Option (List AV)} (E:Env G) (X:EnvH G) (hM:SMapOk G) (hA:AnyOk G) {H:AHeap} {k:Nat} {l:List Nd} {M:WM} {b0 v:AV} (hv:ValidN l) (hk:H.get k=some ((mkW l M).obj b0 v)) (hm:MAt H M) {i:Nat} (h0:1≤i) (hi:i<l.length) (h1:(l.getD i nd0).kind=4) :
  ACalls Tryz.prog G 49 [.ptr k 0,.int .i64 i] H fun r H'=>r = .ret (.bool (badN l i))∧Kept H H':=by
 refine ACalls.wf fun wf=>?_
 have hkn:k<H.next:=wf _ _ hk
 have ew:badN l i=(Lib.contains (l.getD i nd0).text [13]||Lib.hasPrefix (l.getD i nd0).text [62]||Lib.hasPrefix (l.getD i nd0).text [45,62]||isRawS (l.getD (l.getD i nd0).up.toNat nd0).name):=by simp only[badN,h1]
 rw[ew]
 have q1:((i:Int)<(l.length:Int))=True:=eq_true (by omega)
 have hat:=ndsH_at l i hi
 have hxe:=nd_getD hi
 rw[←hxe]at hat
 have hle:(i*4+4≤(ndsH l).length)=True:=by rw[ndsH_len];simp;omega
 have hbd:=hv.bound i hi
 have hsm:=small_ok hM hbd.1 (name_text hv hi)
 have hit:isTextS (l.getD i nd0).text=true:=by
  have hall:=hv.allowed i hi
  unfold allowedS at hall
  rw[Bool.and_eq_true]at hall
  exact hall.1
 have hinr:=fun(J:AHeap) (hk:J.get k=some ((mkW l M).obj b0 v)) hmJ=>inRaw_ok (H:=J) (k:=k) (M:=M) hM hv hk hmJ h0 hi
 generalize isRawS (l.getD (l.getD i nd0).up.toNat nd0).name=raw at hinr ⊢
 have hbk:=hk
 simp only[WV.obj,mkW]at hk
 have u1:(k=H.next)=False:=eq_false (by omega)
 generalize hx:l.getD i nd0=x at hat hit h1 hsm hbd ⊢
 simp only[ndH]at hat
 have e1:((x.kind:Int)==1)=false:=by rw[h1];rfl
 have e4:((x.kind:Int)==4)=true:=by rw[h1];rfl
 refine ACalls.of Tryz.func49 S49_eq R49 N49 rfl rfl ?_
 simp (maxSteps:=400000) only[wF,storeA,reduceCtorEq,Nat.reduceAdd,Nat.reduceSub,Nat.reduceEqDiff,Nat.reduceLeDiff,Int.reduceToNat,Int.reduceLE,Int.reduceLT,Int.reduceAdd,Int.reduceNeg,Nat.reduceMul,S49,N49,R49,T49,hk,q1,hat,hle,indexAddrA,u1,AV.boxable,e1,e4]
 generalize hX:AHeap.set (H.allocAt H.next _) H.next _=J
 have xn:J.next=H.next+1:=by rw[←hX];simp only[AHeap.next_set,AHeap.next_allocAt];omega
 have xx:J.get H.next=some (.cells 36 [.int .i64 x.kind,.str x.name,.str x.text,.int .i64 x.up]):=by rw[←hX,AHeap.get_set_same]
 have xo:∀i,i<H.next→J.get i=H.get i:=fun i hi=>by rw[←hX,AHeap.get_set_ne _ _ (by omega),AHeap.get_allocAt_ne _ _ (by omega)]
 clear hX
 have jk:=(xo _ hkn).trans hbk
 have jm:MAt J M:=⟨(xo _ (wf _ _ hm.sw)).trans hm.sw,(xo _ (wf _ _ hm.vo)).trans hm.vo,(xo _ (wf _ _ hm.ra)).trans hm.ra,(xo _ (wf _ _ hm.ke)).trans hm.ke,(xo _ (wf _ _ hm.si)).trans hm.si⟩
 have fin:∀J':AHeap,Keeps J J'→Kept H J':=fun J' h=>⟨by have:=h.1;omega,fun i hi=>by rw[h.2];exact xo i hi⟩
 refine AInv.pureK X.hasB (X.has x.text [13] hbd.2) fun J1 k1=>?_
 have x1:=(congrFun k1.2 _).trans xx
 cases hc1:Lib.contains x.text [13]with
 | true=>
  simp (maxSteps:=400000) only[wF,storeA,reduceCtorEq,Nat.reduceAdd,Nat.reduceSub,Nat.reduceEqDiff,Nat.reduceLeDiff,Int.reduceToNat,Int.reduceLE,Int.reduceLT,Int.reduceAdd,Int.reduceNeg,Nat.reduceMul,T49]
  first | exact⟨by simp,fin _ k1⟩ | exact fin _ k1
 | false=>
  simp (maxSteps:=400000) only[wF,storeA,reduceCtorEq,Nat.reduceAdd,Nat.reduceSub,Nat.reduceEqDiff,Nat.reduceLeDiff,Int.reduceToNat,Int.reduceLE,Int.reduceLT,Int.reduceAdd,Int.reduceNeg,Nat.reduceMul,T49,x1]
  refine AInv.pureK E.hasPreB (E.hasPre x.text [62]) fun J2 k2=>?_
  have x2:=(congrFun k2.2 _).trans x1
  have k12:=k1.trans k2
  cases hc2:Lib.hasPrefix x.text [62]with
  | true=>
   simp (maxSteps:=400000) only[wF,storeA,reduceCtorEq,Nat.reduceAdd,Nat.reduceSub,Nat.reduceEqDiff,Nat.reduceLeDiff,Int.reduceToNat,Int.reduceLE,Int.reduceLT,Int.reduceAdd,Int.reduceNeg,Nat.reduceMul,T49]
   first | exact⟨by simp,fin _ k12⟩ | exact fin _ k12
  | false=>
   simp (maxSteps:=400000) only[wF,storeA,reduceCtorEq,Nat.reduceAdd,Nat.reduceSub,Nat.reduceEqDiff,Nat.reduceLeDiff,Int.reduceToNat,Int.reduceLE,Int.reduceLT,Int.reduceAdd,Int.reduceNeg,Nat.reduceMul,T49,x2]
   refine AInv.pureK E.hasPreB (E.hasPre x.text [45,62]) fun J3 k3=>?_
   have k13:=k12.trans k3
   cases hc3:Lib.hasPrefix x.text [45,62]with
   | true=>
    simp (maxSteps:=400000) only[wF,storeA,reduceCtorEq,Nat.reduceAdd,Nat.reduceSub,Nat.reduceEqDiff,Nat.reduceLeDiff,Int.reduceToNat,Int.reduceLE,Int.reduceLT,Int.reduceAdd,Int.reduceNeg,Nat.reduceMul,T49]
    first | exact⟨by simp,fin _ k13⟩ | exact fin _ k13
   | false=>
    simp (maxSteps:=400000) only[wF,storeA,reduceCtorEq,Nat.reduceAdd,Nat.reduceSub,Nat.reduceEqDiff,Nat.reduceLeDiff,Int.reduceToNat,Int.reduceLE,Int.reduceLT,Int.reduceAdd,Int.reduceNeg,Nat.reduceMul,T49]
    refine AInv.retK B50 (hinr J3 ((congrFun k13.2 _).trans jk) ⟨(congrFun k13.2 _).trans jm.sw,(congrFun k13.2 _).trans jm.vo,(congrFun k13.2 _).trans jm.ra,(congrFun k13.2 _).trans jm.ke,(congrFun k13.2 _).trans jm.si⟩) (fun v A hq=>?_) (fun v A hq=>by cases hq.1)
    obtain⟨hv',hA2⟩:=hq
    cases hv'
    have hAA:=k13.trans hA2
    simp (maxSteps:=400000) only[wF,storeA,reduceCtorEq,Nat.reduceAdd,Nat.reduceSub,Nat.reduceEqDiff,Nat.reduceLeDiff,Int.reduceToNat,Int.reduceLE,Int.reduceLT,Int.reduceAdd,Int.reduceNeg,Nat.reduceMul,T49]
    first | exact⟨by simp,fin _ hAA⟩ | exact fin _ hAA
set_option maxHeartbeats 16000000 in
set_option maxRecDepth 100000 in
theorem bad5_ok {G:Nat→Option (List AV)} (E:Env G) (X:EnvH G) (hM:SMapOk G) (hA:AnyOk G) {H:AHeap} {k:Nat} {l:List Nd} {M:WM} {b0 v:AV} (hv:ValidN l) (hk:H.get k=some ((mkW l M).obj b0 v)) (hm:MAt H M) {i:Nat} (h0:1≤i) (hi:i<l.length) (h1:(l.getD i nd0).kind=5) :
  ACalls Tryz.prog G 49 [.ptr k 0,.int .i64 i] H fun r H'=>r = .ret (.bool (badN l i))∧Kept H H':=by
 refine ACalls.wf fun wf=>?_
 have hkn:k<H.next:=wf _ _ hk
 have ew:badN l i=(Lib.containsAny (l.getD i nd0).text [13,62]||isRawS (l.getD (l.getD i nd0).up.toNat nd0).name):=by simp only[badN,h1]
 rw[ew]
 have q1:((i:Int)<(l.length:Int))=True:=eq_true (by omega)
 have hat:=ndsH_at l i hi
 have hxe:=nd_getD hi
 rw[←hxe]at hat
 have hle:(i*4+4≤(ndsH l).length)=True:=by rw[ndsH_len];simp;omega
 have hbd:=hv.bound i hi
 have hsm:=small_ok hM hbd.1 (name_text hv hi)
 have hit:isTextS (l.getD i nd0).text=true:=by
  have hall:=hv.allowed i hi
  unfold allowedS at hall
  rw[Bool.and_eq_true]at hall
  exact hall.1
 have hinr:=fun(J:AHeap) (hk:J.get k=some ((mkW l M).obj b0 v)) hmJ=>inRaw_ok (H:=J) (k:=k) (M:=M) hM hv hk hmJ h0 hi
 generalize isRawS (l.getD (l.getD i nd0).up.toNat nd0).name=raw at hinr ⊢
 have hbk:=hk
 simp only[WV.obj,mkW]at hk
 have u1:(k=H.next)=False:=eq_false (by omega)
 generalize hx:l.getD i nd0=x at hat hit h1 hsm hbd ⊢
 simp only[ndH]at hat
 have e1:((x.kind:Int)==1)=false:=by rw[h1];rfl
 have e4:((x.kind:Int)==4)=false:=by rw[h1];rfl
 have e5:((x.kind:Int)==5)=true:=by rw[h1];rfl
 refine ACalls.of Tryz.func49 S49_eq R49 N49 rfl rfl ?_
 simp (maxSteps:=400000) only[wF,storeA,reduceCtorEq,Nat.reduceAdd,Nat.reduceSub,Nat.reduceEqDiff,Nat.reduceLeDiff,Int.reduceToNat,Int.reduceLE,Int.reduceLT,Int.reduceAdd,Int.reduceNeg,Nat.reduceMul,S49,N49,R49,T49,hk,q1,hat,hle,indexAddrA,u1,AV.boxable,e1,e4,e5]
 generalize hX:AHeap.set (H.allocAt H.next _) H.next _=J
 have xn:J.next=H.next+1:=by rw[←hX];simp only[AHeap.next_set,AHeap.next_allocAt];omega
 have xx:J.get H.next=some (.cells 36 [.int .i64 x.kind,.str x.name,.str x.text,.int .i64 x.up]):=by rw[←hX,AHeap.get_set_same]
 have xo:∀i,i<H.next→J.get i=H.get i:=fun i hi=>by rw[←hX,AHeap.get_set_ne _ _ (by omega),AHeap.get_allocAt_ne _ _ (by omega)]
 clear hX
 have jk:=(xo _ hkn).trans hbk
 have jm:MAt J M:=⟨(xo _ (wf _ _ hm.sw)).trans hm.sw,(xo _ (wf _ _ hm.vo)).trans hm.vo,(xo _ (wf _ _ hm.ra)).trans hm.ra,(xo _ (wf _ _ hm.ke)).trans hm.ke,(xo _ (wf _ _ hm.si)).trans hm.si⟩
 have fin:∀J':AHeap,Keeps J J'→Kept H J':=fun J' h=>⟨by have:=h.1;omega,fun i hi=>by rw[h.2];exact xo i hi⟩
 refine AInv.pureK (show bodyT Tryz.prog 85=true by kernel_rfl) (hA x.text hbd.2 hit) fun J1 k1=>?_
 cases hc1:Lib.containsAny x.text [13,62]with
 | true=>
  simp (maxSteps:=400000) only[wF,storeA,reduceCtorEq,Nat.reduceAdd,Nat.reduceSub,Nat.reduceEqDiff,Nat.reduceLeDiff,Int.reduceToNat,Int.reduceLE,Int.reduceLT,Int.reduceAdd,Int.reduceNeg,Nat.reduceMul,T49]
  first | exact⟨by simp,fin _ k1⟩ | exact fin _ k1
 | false=>
  simp (maxSteps:=400000) only[wF,storeA,reduceCtorEq,Nat.reduceAdd,Nat.reduceSub,Nat.reduceEqDiff,Nat.reduceLeDiff,Int.reduceToNat,Int.reduceLE,Int.reduceLT,Int.reduceAdd,Int.reduceNeg,Nat.reduceMul,T49]
  refine AInv.retK B50 (hinr J1 ((congrFun k1.2 _).trans jk) ⟨(congrFun k1.2 _).trans jm.sw,(congrFun k1.2 _).trans jm.vo,(congrFun k1.2 _).trans jm.ra,(congrFun k1.2 _).trans jm.ke,(congrFun k1.2 _).trans jm.si⟩) (fun v A hq=>?_) (fun v A hq=>by cases hq.1)
  obtain⟨hv',hA2⟩:=hq
  cases hv'
  have hAA:=k1.trans hA2
  simp (maxSteps:=400000) only[wF,storeA,reduceCtorEq,Nat.reduceAdd,Nat.reduceSub,Nat.reduceEqDiff,Nat.reduceLeDiff,Int.reduceToNat,Int.reduceLE,Int.reduceLT,Int.reduceAdd,Int.reduceNeg,Nat.reduceMul,T49]
  first | exact⟨by simp,fin _ hAA⟩ | exact fin _ hAA
set_option maxHeartbeats 16000000 in
set_option maxRecDepth 100000 in
theorem bad3_ok {G:Nat→Option (List AV)} (E:Env G) (X:EnvH G) (hM:SMapOk G) (hA:AnyOk G) {H:AHeap} {k:Nat} {l:List Nd} {M:WM} {b0 v:AV} (hv:ValidN l) (hk:H.get k=some ((mkW l M).obj b0 v)) (hm:MAt H M) {i:Nat} (h0:1≤i) (hi:i<l.length) (h1:(l.getD i nd0).kind=3) :
  ACalls Tryz.prog G 49 [.ptr k 0,.int .i64 i] H fun r H'=>r = .ret (.bool (badN l i))∧Kept H H':=by
 refine ACalls.wf fun wf=>?_
 have hkn:k<H.next:=wf _ _ hk
 have ew:badN l i=(isRawS (l.getD (l.getD i nd0).up.toNat nd0).name&&(Lib.contains (l.getD i nd0).text [60,47]||Lib.contains (l.getD i nd0).text [13])):=by simp only[badN,h1]
 rw[ew]
 have q1:((i:Int)<(l.length:Int))=True:=eq_true (by omega)
 have hat:=ndsH_at l i hi
 have hxe:=nd_getD hi
 rw[←hxe]at hat
 have hle:(i*4+4≤(ndsH l).length)=True:=by rw[ndsH_len];simp;omega
 have hbd:=hv.bound i hi
 have hsm:=small_ok hM hbd.1 (name_text hv hi)
 have hit:isTextS (l.getD i nd0).text=true:=by
  have hall:=hv.allowed i hi
  unfold allowedS at hall
  rw[Bool.and_eq_true]at hall
  exact hall.1
 have hinr:=fun(J:AHeap) (hk:J.get k=some ((mkW l M).obj b0 v)) hmJ=>inRaw_ok (H:=J) (k:=k) (M:=M) hM hv hk hmJ h0 hi
 generalize isRawS (l.getD (l.getD i nd0).up.toNat nd0).name=raw at hinr ⊢
 have hbk:=hk
 simp only[WV.obj,mkW]at hk
 have u1:(k=H.next)=False:=eq_false (by omega)
 generalize hx:l.getD i nd0=x at hat hit h1 hsm hbd ⊢
 simp only[ndH]at hat
 have e1:((x.kind:Int)==1)=false:=by rw[h1];rfl
 have e4:((x.kind:Int)==4)=false:=by rw[h1];rfl
 have e5:((x.kind:Int)==5)=false:=by rw[h1];rfl
 have e3:((x.kind:Int)==3)=true:=by rw[h1];rfl
 refine ACalls.of Tryz.func49 S49_eq R49 N49 rfl rfl ?_
 simp (maxSteps:=400000) only[wF,storeA,reduceCtorEq,Nat.reduceAdd,Nat.reduceSub,Nat.reduceEqDiff,Nat.reduceLeDiff,Int.reduceToNat,Int.reduceLE,Int.reduceLT,Int.reduceAdd,Int.reduceNeg,Nat.reduceMul,S49,N49,R49,T49,hk,q1,hat,hle,indexAddrA,u1,AV.boxable,e1,e4,e5,e3]
 generalize hX:AHeap.set (H.allocAt H.next _) H.next _=J
 have xn:J.next=H.next+1:=by rw[←hX];simp only[AHeap.next_set,AHeap.next_allocAt];omega
 have xx:J.get H.next=some (.cells 36 [.int .i64 x.kind,.str x.name,.str x.text,.int .i64 x.up]):=by rw[←hX,AHeap.get_set_same]
 have xo:∀i,i<H.next→J.get i=H.get i:=fun i hi=>by rw[←hX,AHeap.get_set_ne _ _ (by omega),AHeap.get_allocAt_ne _ _ (by omega)]
 clear hX
 have jk:=(xo _ hkn).trans hbk
 have jm:MAt J M:=⟨(xo _ (wf _ _ hm.sw)).trans hm.sw,(xo _ (wf _ _ hm.vo)).trans hm.vo,(xo _ (wf _ _ hm.ra)).trans hm.ra,(xo _ (wf _ _ hm.ke)).trans hm.ke,(xo _ (wf _ _ hm.si)).trans hm.si⟩
 have fin:∀J':AHeap,Keeps J J'→Kept H J':=fun J' h=>⟨by have:=h.1;omega,fun i hi=>by rw[h.2];exact xo i hi⟩
 refine AInv.retK B50 (hinr J jk jm) (fun v A hq=>?_) (fun v A hq=>by cases hq.1)
 obtain⟨hv',k1⟩:=hq
 cases hv'
 have x1:=(congrFun k1.2 _).trans xx
 cases raw with
 | false=>
  simp (maxSteps:=400000) only[wF,storeA,reduceCtorEq,Nat.reduceAdd,Nat.reduceSub,Nat.reduceEqDiff,Nat.reduceLeDiff,Int.reduceToNat,Int.reduceLE,Int.reduceLT,Int.reduceAdd,Int.reduceNeg,Nat.reduceMul,T49]
  first | exact⟨by simp,fin _ k1⟩ | exact fin _ k1
 | true=>
  simp (maxSteps:=400000) only[wF,storeA,reduceCtorEq,Nat.reduceAdd,Nat.reduceSub,Nat.reduceEqDiff,Nat.reduceLeDiff,Int.reduceToNat,Int.reduceLE,Int.reduceLT,Int.reduceAdd,Int.reduceNeg,Nat.reduceMul,T49,x1]
  refine AInv.pureK X.hasB (X.has x.text [60,47] hbd.2) fun J2 k2=>?_
  have x2:=(congrFun k2.2 _).trans x1
  have k12:=k1.trans k2
  cases hc2:Lib.contains x.text [60,47]with
  | true=>
   simp (maxSteps:=400000) only[wF,storeA,reduceCtorEq,Nat.reduceAdd,Nat.reduceSub,Nat.reduceEqDiff,Nat.reduceLeDiff,Int.reduceToNat,Int.reduceLE,Int.reduceLT,Int.reduceAdd,Int.reduceNeg,Nat.reduceMul,T49]
   first | exact⟨by simp,fin _ k12⟩ | exact fin _ k12
  | false=>
   simp (maxSteps:=400000) only[wF,storeA,reduceCtorEq,Nat.reduceAdd,Nat.reduceSub,Nat.reduceEqDiff,Nat.reduceLeDiff,Int.reduceToNat,Int.reduceLE,Int.reduceLT,Int.reduceAdd,Int.reduceNeg,Nat.reduceMul,T49,x2]
   refine AInv.pureK X.hasB (X.has x.text [13] hbd.2) fun J3 k3=>?_
   have k13:=k12.trans k3
   simp (maxSteps:=400000) only[wF,storeA,reduceCtorEq,Nat.reduceAdd,Nat.reduceSub,Nat.reduceEqDiff,Nat.reduceLeDiff,Int.reduceToNat,Int.reduceLE,Int.reduceLT,Int.reduceAdd,Int.reduceNeg,Nat.reduceMul,T49]
   first | exact⟨by simp,fin _ k13⟩ | exact fin _ k13
end Go.Ab
namespace Go.Ab
open Go Go.Lib Go.Proofs
set_option maxHeartbeats 16000000 in
set_option maxRecDepth 100000 in
theorem bad2_ok {G:Nat→Option (List AV)} {H:AHeap} {k:Nat} {l:List Nd} {M:WM} {b0 v:AV} (hv:ValidN l) (hk:H.get k=some ((mkW l M).obj b0 v)) {i:Nat} (hi:i<l.length) (h1:(l.getD i nd0).kind=2) :
  ACalls Tryz.prog G 49 [.ptr k 0,.int .i64 i] H fun r H'=>r = .ret (.bool (badN l i))∧Kept H H':=by
 refine ACalls.wf fun wf=>?_
 have hkn:k<H.next:=wf _ _ hk
 have ew:badN l i=false:=by simp only[badN,h1]
 rw[ew]
 have q1:((i:Int)<(l.length:Int))=True:=eq_true (by omega)
 have hat:=ndsH_at l i hi
 have hxe:=nd_getD hi
 rw[←hxe]at hat
 have hle:(i*4+4≤(ndsH l).length)=True:=by rw[ndsH_len];simp;omega
 simp only[WV.obj,mkW]at hk
 have u1:(k=H.next)=False:=eq_false (by omega)
 generalize hx:l.getD i nd0=x at hat h1
 simp only[ndH]at hat
 have e1:((x.kind:Int)==1)=false:=by rw[h1];rfl
 have e4:((x.kind:Int)==4)=false:=by rw[h1];rfl
 have e5:((x.kind:Int)==5)=false:=by rw[h1];rfl
 have e3:((x.kind:Int)==3)=false:=by rw[h1];rfl
 refine ACalls.of Tryz.func49 S49_eq R49 N49 rfl rfl ?_
 simp (maxSteps:=400000) only[wF,storeA,reduceCtorEq,Nat.reduceAdd,Nat.reduceSub,Nat.reduceEqDiff,Nat.reduceLeDiff,Int.reduceToNat,Int.reduceLE,Int.reduceLT,Int.reduceAdd,Int.reduceNeg,Nat.reduceMul,S49,N49,R49,T49,hk,q1,hat,hle,indexAddrA,u1,AV.boxable,e1,e3,e4,e5]
 generalize hX:AHeap.set (H.allocAt H.next _) H.next _=J
 have xn:J.next=H.next+1:=by rw[←hX];simp only[AHeap.next_set,AHeap.next_allocAt];omega
 have xo:∀i,i<H.next→J.get i=H.get i:=fun i hi=>by rw[←hX,AHeap.get_set_ne _ _ (by omega),AHeap.get_allocAt_ne _ _ (by omega)]
 clear hX
 first | exact⟨by omega,xo⟩ | exact⟨rfl,by omega,xo⟩
theorem bad_ok {G:Nat→Option (List AV)} (E:Env G) (X:EnvH G) (hM:SMapOk G) (hA:AnyOk G) {H:AHeap} {k:Nat} {l:List Nd} {M:WM} {b0 v:AV} (hv:ValidN l) (hk:H.get k=some ((mkW l M).obj b0 v)) (hm:MAt H M) {i:Nat} (h0:1≤i) (hi:i<l.length) :
  ACalls Tryz.prog G 49 [.ptr k 0,.int .i64 i] H fun r H'=>r = .ret (.bool (badN l i))∧Kept H H':=by
 have hkd:=hv.kind i hi
 have hdoc:=hv.doc i (by omega) hi
 rcases(by omega:(l.getD i nd0).kind=1∨(l.getD i nd0).kind=2∨(l.getD i nd0).kind=3∨(l.getD i nd0).kind=4∨(l.getD i nd0).kind=5)with h | h | h | h | h
 ·exact bad1_ok E X hM hA hv hk hm h0 hi h
 ·exact bad2_ok hv hk hi h
 ·exact bad3_ok E X hM hA hv hk hm h0 hi h
 ·exact bad4_ok E X hM hA hv hk hm h0 hi h
 ·exact bad5_ok E X hM hA hv hk hm h0 hi h
theorem Fg.rfl2:∀a:List AV,Fg a a
 | []=>trivial
 | _::a=>⟨.inr rfl,Fg.rfl2 a⟩
theorem ATrS.loop0 {P:Program} {G:Nat→Option (List AV)} {b:SC} {Q:APost} {a:List AV} {H:AHeap} (round:awpS P G b (thenA (fun a' H'=>∃_:Unit,True∧0<0∧Fg a' a∧HW H' H) Q) a H):ATrS P G (.loop b) Q a H:=
 ATrS.loopK (κ:=Unit) (fun _=>a) (fun _=>H) (fun _=>True) (fun _=>0) ⟨(),trivial,Fg.rfl2 a,HW.refl _⟩ (fun _ _=>round)
def outB (om:Bool):AV := .agg [.str [],.str [],.bool false,.bool om,.nils]
set_option maxHeartbeats 16000000 in
set_option maxRecDepth 100000 in
theorem swap_ok {G:Nat→Option (List AV)} {H:AHeap} {k:Nat} {om:Bool}:ACalls Tryz.prog G 48 [.ptr k 0,outB om,.nils] H fun r H'=>r = .ret (.int .i64 0)∧Keeps H H':=by
 refine ACalls.keep (ACalls.of Tryz.func48 S48_eq R48 N48 rfl rfl ?_)
 have d1:decide ((-1:Int)≥0)=false:=rfl
 have d2:decide ((0:Int)<0)=false:=rfl
 have ew:IntKind.i64.wrap ((0:Int)-1) = -1:=by rw[wrap64]<;>omega
 simp (maxSteps:=400000) only[wF,storeA,reduceCtorEq,Nat.reduceAdd,Nat.reduceSub,Nat.reduceEqDiff,Nat.reduceLeDiff,Int.reduceToNat,Int.reduceLE,Int.reduceLT,Int.reduceAdd,Int.reduceNeg,Nat.reduceMul,S48,N48,R48,T48,outB,AV.boxable,d1,d2,ew]
 refine ATrS.loop0 ?_
 simp (maxSteps:=400000) only[wF,storeA,reduceCtorEq,Nat.reduceAdd,Nat.reduceSub,Nat.reduceEqDiff,Nat.reduceLeDiff,Int.reduceToNat,Int.reduceLE,Int.reduceLT,Int.reduceAdd,Int.reduceNeg,Nat.reduceMul,T48,d1,d2,outB]
 refine ATrS.loop0 ?_
 simp (maxSteps:=400000) only[wF,storeA,reduceCtorEq,Nat.reduceAdd,Nat.reduceSub,Nat.reduceEqDiff,Nat.reduceLeDiff,Int.reduceToNat,Int.reduceLE,Int.reduceLT,Int.reduceAdd,Int.reduceNeg,Nat.reduceMul,T48,d1,d2,outB]
 refine⟨by omega,fun k hk=>?_⟩
 rw[if_neg (by omega),if_neg (by omega)]
end Go.Ab
namespace Go.Ab
open Go Go.Lib
theorem Tzs.setAt {k:Nat} {f:Nat→Option AV} {g:Option AV} {x y:AV} (h:Tz k f g x y):∀{cs:List AV} {i:Nat},cs[i]?=some x→Tzs k f g cs (cs.set i y)
 | [],i,h0=>by simp at h0
 | a::cs,0,h0=>by
  simp only[List.getElem?_cons_zero,Option.some.injEq]at h0
  subst h0
  exact⟨h,Tzs.refl cs⟩
 | a::cs,i+1,h0=>⟨.same a,Tzs.setAt h (by simpa using h0)⟩
theorem map_range_set {α:Type} (f f':Nat→α) (n i:Nat) (hi:i<n) (h:∀j,j≠i→f' j=f j):((List.range n).map f).set i (f' i)=(List.range n).map f':=by
 apply List.ext_getElem
 ·simp
 ·intro j h1 h2
  rw[List.getElem_set]
  by_cases hj:i=j
  ·subst hj;simp
  ·rw[if_neg hj]
   simp[h j (Ne.symm hj)]
theorem map_range_get {α:Type} (f:Nat→α) {n i:Nat} (hi:i<n):((List.range n).map f)[i]?=some (f i):=by simp[hi]
theorem nil_rows (G:Nat→Option (List AV)) {H:AHeap} {r:Nat} {e re:TypeId} {size n:Nat} (hr:H.get r=some (.row e 1 ((List.range n).map fun _ => .nils))) (hrn:r<H.next):∀i,i≤n →
  ∃H',(∀a,Weak G a H a H')∧H'.next=H.next+i∧H'.get r=some (.row e 1 ((List.range n).map fun j=>if j<i then .slc (H.next+j) 0 else .nils))∧(∀j,j<i→H'.get (H.next+j)=some (.row re size []))∧∀j,j<H.next→j≠r→H'.get j=H.get j
 | 0,_=>⟨H,fun a=>Weak.refl G a H,rfl,by simpa using hr,fun j hj=>absurd hj (Nat.not_lt_zero _),fun _ _ _=>rfl⟩
 | i+1,hi=>by
  obtain⟨H1,w1,n1,r1,q1,f1⟩:=nil_rows G (re:=re) (size:=size) hr hrn i (by omega)
  have hm:=map_range_get (fun j=>if j<i then(AV.slc (H.next+j) 0:AV)else .nils) (show i<n by omega)
  simp only[Nat.lt_irrefl,if_false]at hm
  have hset:=map_range_set (fun j=>if j<i then(AV.slc (H.next+j) 0:AV)else .nils) (fun j=>if j<i+1 then .slc (H.next+j) 0 else .nils) n i (by omega) (fun j hj=>by
   by_cases h:j<i
   ·rw[if_pos h,if_pos (by omega)]
   ·rw[if_neg h,if_neg (by omega)])
  simp only[Nat.lt_succ_self,if_true]at hset
  refine⟨⟨H1.next+1,fun j=>if j=H1.next then some (.row re size [])else if j=r then some (.row e 1 ((List.range n).map fun j=>if j<i+1 then .slc (H.next+j) 0 else .nils))else H1.get j⟩,fun a=>(w1 a).trans (Weak.nilRow H1.next re size (Nat.le_refl _) (Nat.lt_succ_self _) (by simp) ?_ (Tzs.refl a)),by simp only;omega,?_,fun j hj=>?_,fun j hj hjr=>?_⟩
  ·intro j
   by_cases h1:j=H1.next
   ·exact .inl h1
   ·by_cases h2:j=r
    ·subst h2
     refine .inr (.inr ⟨_,_,r1,by simp only;rw[if_neg h1,if_pos trivial],?_⟩)
     rw[←hset,n1]
     exact .row _ _ _ _ (Tzs.setAt (.nil _ rfl) hm)
    ·cases hg:H1.get j with
     | none=>exact .inr (.inl (by simp[h1,h2,hg]))
     | some o=>exact .inr (.inr ⟨o,o,rfl,by simp[h1,h2,hg],.same o⟩)
  ·simp only
   rw[if_neg (by omega),if_pos trivial]
  ·simp only
   by_cases h:j=i
   ·subst h
    rw[if_pos (by omega)]
   ·rw[if_neg (by omega),if_neg (by omega)]
    exact q1 j (by omega)
  ·simp only
   rw[if_neg (by omega),if_neg hjr]
   exact f1 j hj hjr
theorem freeze_rows (G:Nat→Option (List AV)) {H:AHeap} {r:Nat} {e re:TypeId} {size n:Nat} {q len:Nat→Nat} {v:Nat→List AV} (hsz:0<size) (hr:H.get r=some (.row e 1 ((List.range n).map fun j => .slc (q j) (len j))))
  (hq:∀j,j<n→H.get (q j)=some (.row re size (v j))) (hinj:∀i j,i<n→j<n→q i=q j→i=j) (hqr:∀j,j<n→q j≠r):∀i,i≤n →
  ∃H',(∀a,Weak G a H a H')∧H'.next=H.next∧H'.get r=some (.row e 1 ((List.range n).map fun j=>if j<i then .lst (len j) (v j)else .slc (q j) (len j)))∧(∀j,i≤j→j<n→H'.get (q j)=some (.row re size (v j)))∧∀j,j≠r→(∀m,m<n→j≠q m)→H'.get j=H.get j
 | 0,_=>⟨H,fun a=>Weak.refl G a H,rfl,by simpa using hr,fun j _ hj=>hq j hj,fun _ _ _=>rfl⟩
 | i+1,hi=>by
  obtain⟨H1,w1,n1,r1,q1,f1⟩:=freeze_rows G hsz hr hq hinj hqr i (by omega)
  have hm:=map_range_get (fun j=>if j<i then(AV.lst (len j) (v j):AV)else .slc (q j) (len j)) (show i<n by omega)
  simp only[Nat.lt_irrefl,if_false]at hm
  have hset:=map_range_set (fun j=>if j<i then(AV.lst (len j) (v j):AV)else .slc (q j) (len j)) (fun j=>if j<i+1 then .lst (len j) (v j)else .slc (q j) (len j)) n i (by omega) (fun j hj=>by
   by_cases h:j<i
   ·rw[if_pos h,if_pos (by omega)]
   ·rw[if_neg h,if_neg (by omega)])
  simp only[Nat.lt_succ_self,if_true]at hset
  have hqi:=q1 i (Nat.le_refl _) (by omega)
  have hqir:=hqr i (by omega)
  refine⟨⟨H1.next,fun j=>if j=q i then none else if j=r then some (.row e 1 ((List.range n).map fun j=>if j<i+1 then .lst (len j) (v j)else .slc (q j) (len j)))else H1.get j⟩,fun a=>(w1 a).trans (Weak.freeze hqi hsz (Nat.le_refl _) (by simp) ?_ (Tzs.refl a)),n1,?_,fun j hj hjn=>?_,fun j hjr hjq=>?_⟩
  ·intro j
   by_cases h1:j=q i
   ·exact .inr (.inl (by simp[h1]))
   ·by_cases h2:j=r
    ·subst h2
     refine .inr (.inr ⟨_,_,r1,by simp only;rw[if_neg h1,if_pos trivial],?_⟩)
     rw[←hset]
     exact .row _ _ _ _ (Tzs.setAt (.slc _ _ rfl) hm)
    ·cases hg:H1.get j with
     | none=>exact .inr (.inl (by simp[h1,h2,hg]))
     | some o=>exact .inr (.inr ⟨o,o,rfl,by simp[h1,h2,hg],.same o⟩)
  ·simp only
   rw[if_neg (Ne.symm hqir),if_pos trivial]
  ·simp only
   rw[if_neg (fun e=>by have:=hinj j i hjn (by omega) e;omega),if_neg (hqr j hjn)]
   exact q1 j (by omega) hjn
  ·simp only
   rw[if_neg (hjq i (by omega)),if_neg hjr]
   exact f1 j hjr hjq
end Go.Ab
namespace Go.Ab
open Go Go.Lib
def kidsT (l:List Nd) (i m:Nat):List Nat:=(List.range m).filter fun k=>decide (1≤k)&&(l.getD k nd0).up==(i:Int)&&(l.getD k nd0).kind != 2
def attsT (l:List Nd) (i m:Nat):List Nat:=(List.range m).filter fun k=>decide (1≤k)&&(l.getD k nd0).up==(i:Int)&&(l.getD k nd0).kind==2
theorem kidsT_one (l:List Nd) (i:Nat):kidsT l i 1=[]:=by simp[kidsT,List.range_succ]
theorem attsT_one (l:List Nd) (i:Nat):attsT l i 1=[]:=by simp[attsT,List.range_succ]
theorem kidsT_in {l:List Nd} {i m:Nat} (hm:1≤m) (h1:(l.getD m nd0).up=(i:Int)) (h2:(l.getD m nd0).kind≠2):kidsT l i (m+1)=kidsT l i m++[m]:=by
 have h:((l.getD m nd0).kind != 2)=true:=bne_iff_ne.2 h2
 simp only[kidsT,List.range_succ,List.filter_append,List.filter_cons,List.filter_nil,decide_eq_true hm,h1,beq_self_eq_true,h,Bool.and_true,if_true]
theorem kidsT_out {l:List Nd} {i m:Nat} (h:(l.getD m nd0).up≠(i:Int)∨(l.getD m nd0).kind=2):kidsT l i (m+1)=kidsT l i m:=by
 have h:(decide (1≤m)&&(l.getD m nd0).up==(i:Int)&&(l.getD m nd0).kind != 2)=false:=by
  rcases h with h | h
  ·have:((l.getD m nd0).up==(i:Int))=false:=beq_eq_false_iff_ne.2 h
   rw[this];simp
  ·rw[h];simp
 simp only[kidsT,List.range_succ,List.filter_append,List.filter_cons,List.filter_nil,h,List.append_nil,Bool.false_eq_true,if_false]
theorem attsT_in {l:List Nd} {i m:Nat} (hm:1≤m) (h1:(l.getD m nd0).up=(i:Int)) (h2:(l.getD m nd0).kind=2):attsT l i (m+1)=attsT l i m++[m]:=by
 simp only[attsT,List.range_succ,List.filter_append,List.filter_cons,List.filter_nil,decide_eq_true hm,h1,beq_self_eq_true,h2,Bool.and_true,if_true]
theorem attsT_out {l:List Nd} {i m:Nat} (h:(l.getD m nd0).up≠(i:Int)∨(l.getD m nd0).kind≠2):attsT l i (m+1)=attsT l i m:=by
 have h:(decide (1≤m)&&(l.getD m nd0).up==(i:Int)&&(l.getD m nd0).kind==2)=false:=by
  rcases h with h | h
  ·have:((l.getD m nd0).up==(i:Int))=false:=beq_eq_false_iff_ne.2 h
   rw[this];simp
  ·have:((l.getD m nd0).kind==2)=false:=beq_eq_false_iff_ne.2 h
   rw[this];simp
 simp only[attsT,List.range_succ,List.filter_append,List.filter_cons,List.filter_nil,h,List.append_nil,Bool.false_eq_true,if_false]
def TabAt (J:AHeap) (r n:Nat) (q:Nat→Nat) (v:Nat→List Nat):Prop:=
 J.get r=some (.row 33 1 ((List.range n).map fun j => .slc (q j) (v j).length))∧∀j,j<n→J.get (q j)=some (.row 3 1 (intsA (v j)))
theorem TabAt.keep {J J':AHeap} {r n:Nat} {q:Nat→Nat} {v v':Nat→List Nat} (h:TabAt J r n q v) (g0:J'.get r=J.get r) (g:∀j,j<n→J'.get (q j)=J.get (q j)) (e:∀j,v' j=v j):TabAt J' r n q v':=by
 have:v'=v:=funext e
 subst this
 exact⟨g0.trans h.1,fun j hj=>(g j hj).trans (h.2 j hj)⟩
structure LpAt (Z:AHeap) (k0:Nat) (l:List Nd) (c:Nat) (qk qa:Nat→Nat) (J:AHeap):Prop where
 le:c+1≤l.length
 nx:Z.next≤J.next
 kz:k0+1<Z.next
 tk:TabAt J k0 l.length qk (fun j=>kidsT l j (c+1))
 ta:TabAt J (k0+1) l.length qa (fun j=>attsT l j (c+1))
 bk:∀j,j<l.length→Z.next≤qk j∧qk j<J.next
 ba:∀j,j<l.length→Z.next≤qa j∧qa j<J.next
 ik:∀i j,i<l.length→j<l.length→qk i=qk j→i=j
 ia:∀i j,i<l.length→j<l.length→qa i=qa j→i=j
 dj:∀i j,i<l.length→j<l.length→qk i≠qa j
 fr:∀j,j<Z.next→j≠k0→j≠k0+1→J.get j=Z.get j
theorem LpAt.kid {Z J J':AHeap} {k0 c u m:Nat} {l:List Nd} {qk qa:Nat→Nat} (h:LpAt Z k0 l c qk qa J) (hc:c+1<l.length) (hu:u<l.length) (hup:(l.getD (c+1) nd0).up=(u:Int)) (hk:(l.getD (c+1) nd0).kind≠2)
  (hm:J.next≤m) (hm2:m<J'.next) (g1:J'.get k0=some (.row 33 1 (((List.range l.length).map fun j=>AV.slc (qk j) (kidsT l j (c+1)).length).set u (.slc m ((kidsT l u (c+1)).length+1))))) (g2:J'.get m=some (.row 3 1 (intsA (kidsT l u (c+1))++[.int .i64 ((c+1:Nat):Int)])))
  (g3:∀j,j<J.next→j≠k0→j≠qk u→J'.get j=J.get j):LpAt Z k0 l (c+1) (fun j=>if j=u then m else qk j) qa J':=by
 have hz:=h.kz
 have hn:=h.nx
 refine⟨by omega,by omega,hz,?_,?_,fun j hj=>?_,fun j hj=>?_,fun i j hi hj e=>?_,h.ia,fun i j hi hj=>?_,fun j hj j1 j2=>?_⟩
 ·refine⟨?_,fun j hj=>?_⟩
  ·rw[g1]
   have:=map_range_set (fun j=>AV.slc (qk j) (kidsT l j (c+1)).length) (fun j=>AV.slc (if j=u then m else qk j) (kidsT l j (c+1+1)).length) l.length u hu (fun j hj=>by rw[if_neg hj,kidsT_out (.inl (fun e=>hj (by omega)))])
   simp only[if_true,kidsT_in (by omega:1≤c+1) hup hk,List.length_append,List.length_cons,List.length_nil,Nat.zero_add]at this
   rw[this]
  ·by_cases hju:j=u
   ·subst hju
    simp only[if_true]
    rw[g2,kidsT_in (by omega) hup hk]
    simp[intsA]
   ·have hb:=h.bk j hj
    show J'.get (if j=u then m else qk j)=some (.row 3 1 (intsA (kidsT l j (c+1+1))))
    rw[if_neg hju,g3 _ hb.2 (by omega) (fun e=>hju (h.ik j u hj hu e)),kidsT_out (.inl (fun e=>hju (by omega)))]
    exact h.tk.2 j hj
 ·refine h.ta.keep (g3 _ (by omega) (by omega) (fun e=>by have:=h.bk u hu;omega)) (fun j hj=>g3 _ (h.ba j hj).2 (by have:=h.ba j hj;omega) (fun e=>h.dj u j hu hj e.symm)) (fun j=>?_)
  exact attsT_out (.inr hk)
 ·have hb:=h.bk j hj
  split<;>omega
 ·have hb:=h.ba j hj
  omega
 ·have hbi:=h.bk i hi
  have hbj:=h.bk j hj
  by_cases hiu:i=u<;>by_cases hju:j=u
  ·omega
  ·rw[if_pos hiu,if_neg hju]at e;omega
  ·rw[if_neg hiu,if_pos hju]at e;omega
  ·rw[if_neg hiu,if_neg hju]at e;exact h.ik i j hi hj e
 ·have hb:=h.ba j hj
  split
  ·omega
  ·exact h.dj i j hi hj
 ·rw[g3 j (by omega) j1 (fun e=>by have:=h.bk u hu;omega)]
  exact h.fr j hj j1 j2
theorem LpAt.att {Z J J':AHeap} {k0 c u m:Nat} {l:List Nd} {qk qa:Nat→Nat} (h:LpAt Z k0 l c qk qa J) (hc:c+1<l.length) (hu:u<l.length) (hup:(l.getD (c+1) nd0).up=(u:Int)) (hk:(l.getD (c+1) nd0).kind=2)
  (hm:J.next≤m) (hm2:m<J'.next) (g1:J'.get (k0+1)=some (.row 33 1 (((List.range l.length).map fun j=>AV.slc (qa j) (attsT l j (c+1)).length).set u (.slc m ((attsT l u (c+1)).length+1))))) (g2:J'.get m=some (.row 3 1 (intsA (attsT l u (c+1))++[.int .i64 ((c+1:Nat):Int)])))
  (g3:∀j,j<J.next→j≠k0+1→j≠qa u→J'.get j=J.get j):LpAt Z k0 l (c+1) qk (fun j=>if j=u then m else qa j) J':=by
 have hz:=h.kz
 have hn:=h.nx
 refine⟨by omega,by omega,hz,?_,?_,fun j hj=>?_,fun j hj=>?_,h.ik,fun i j hi hj e=>?_,fun i j hi hj=>?_,fun j hj j1 j2=>?_⟩
 ·refine h.tk.keep (g3 _ (by omega) (by omega) (fun e=>by have:=h.ba u hu;omega)) (fun j hj=>g3 _ (h.bk j hj).2 (by have:=h.bk j hj;omega) (fun e=>h.dj j u hj hu e)) (fun j=>?_)
  exact kidsT_out (.inr hk)
 ·refine⟨?_,fun j hj=>?_⟩
  ·rw[g1]
   have:=map_range_set (fun j=>AV.slc (qa j) (attsT l j (c+1)).length) (fun j=>AV.slc (if j=u then m else qa j) (attsT l j (c+1+1)).length) l.length u hu (fun j hj=>by rw[if_neg hj,attsT_out (.inl (fun e=>hj (by omega)))])
   simp only[if_true,attsT_in (by omega:1≤c+1) hup hk,List.length_append,List.length_cons,List.length_nil,Nat.zero_add]at this
   rw[this]
  ·by_cases hju:j=u
   ·subst hju
    simp only[if_true]
    rw[g2,attsT_in (by omega) hup hk]
    simp[intsA]
   ·have hb:=h.ba j hj
    show J'.get (if j=u then m else qa j)=some (.row 3 1 (intsA (attsT l j (c+1+1))))
    rw[if_neg hju,g3 _ hb.2 (by omega) (fun e=>hju (h.ia j u hj hu e)),attsT_out (.inl (fun e=>hju (by omega)))]
    exact h.ta.2 j hj
 ·have hb:=h.bk j hj
  omega
 ·have hb:=h.ba j hj
  split<;>omega
 ·have hbi:=h.ba i hi
  have hbj:=h.ba j hj
  by_cases hiu:i=u<;>by_cases hju:j=u
  ·omega
  ·rw[if_pos hiu,if_neg hju]at e;omega
  ·rw[if_neg hiu,if_pos hju]at e;omega
  ·rw[if_neg hiu,if_neg hju]at e;exact h.ia i j hi hj e
 ·have hb:=h.bk i hi
  split
  ·omega
  ·exact h.dj i j hi hj
 ·rw[g3 j (by omega) j2 (fun e=>by have:=h.ba u hu;omega)]
  exact h.fr j hj j1 j2
theorem LpAt.init (G:Nat→Option (List AV)) {Z:AHeap} {k0:Nat} {l:List Nd} (hl:1≤l.length) (hz:k0+1<Z.next) (h1:Z.get k0=some (.row 33 1 ((List.range l.length).map fun _ => .nils))) (h2:Z.get (k0+1)=some (.row 33 1 ((List.range l.length).map fun _ => .nils))) :
  ∃J,(∀a,Weak G a Z a J)∧LpAt Z k0 l 0 (fun j=>Z.next+j) (fun j=>Z.next+l.length+j) J:=by
 obtain⟨Y,w1,n1,r1,q1,f1⟩:=nil_rows G (re:=3) (size:=1) h1 (by omega) l.length (Nat.le_refl _)
 have h2':=(f1 (k0+1) (by omega) (by omega)).trans h2
 obtain⟨J,w2,n2,r2,q2,f2⟩:=nil_rows G (re:=3) (size:=1) h2' (by omega) l.length (Nat.le_refl _)
 refine⟨J,fun a=>(w1 a).trans (w2 a),by omega,by omega,hz,⟨?_,fun j hj=>?_⟩,⟨?_,fun j hj=>?_⟩,fun j hj=>by omega,fun j hj=>by omega,fun i j _ _ e=>by omega,fun i j _ _ e=>by omega,fun i j hi hj=>by omega,fun j hj j1 j2=>?_⟩
 ·rw[f2 k0 (by omega) (by omega),r1]
  congr 2
  apply List.map_congr_left
  intro j hj
  rw[if_pos (List.mem_range.1 hj)]
  show _=AV.slc (Z.next+j) (kidsT l j 1).length
  rw[kidsT_one]
  rfl
 ·show J.get (Z.next+j)=some (.row 3 1 (intsA (kidsT l j 1)))
  rw[f2 _ (by omega) (by omega),q1 j hj,kidsT_one]
  rfl
 ·rw[r2]
  congr 2
  apply List.map_congr_left
  intro j hj
  rw[if_pos (List.mem_range.1 hj)]
  show _=AV.slc (Z.next+l.length+j) (attsT l j 1).length
  rw[attsT_one,n1]
  rfl
 ·show J.get (Z.next+l.length+j)=some (.row 3 1 (intsA (attsT l j 1)))
  rw[←n1,q2 j hj,attsT_one]
  rfl
 ·rw[f2 j (by omega) j2,f1 j hj j1]
theorem Weak.freezeField (G:Nat→Option (List AV)) {H:AHeap} {wp k:Nat} {e t:TypeId} {size:Nat} {vals cs cs':List AV} (hj:H.get k=some (.row e size vals)) (hsz:0<size) (hw:H.get wp=some (.cells t cs)) (hne:wp≠k) (hcs:Tzs k (fun len=>some (.lst len vals)) none cs cs') :
  ∃H',(∀a,Weak G a H a H')∧H'.next=H.next∧H'.get wp=some (.cells t cs')∧∀j,j≠wp→j≠k→H'.get j=H.get j:=by
 refine⟨⟨H.next,fun j=>if j=k then none else if j=wp then some (.cells t cs')else H.get j⟩,fun a=>Weak.freeze hj hsz (Nat.le_refl _) (by simp) (fun j=>?_) (Tzs.refl a),rfl,?_,fun j j1 j2=>?_⟩
 ·by_cases h1:j=k
  ·exact .inr (.inl (by simp[h1]))
  ·by_cases h2:j=wp
   ·subst h2
    exact .inr (.inr ⟨_,.cells t cs',hw,by simp[h1],.cells _ _ _ hcs⟩)
   ·cases hg:H.get j with
    | none=>exact .inr (.inl (by simp[h1,h2,hg]))
    | some o=>exact .inr (.inr ⟨o,o,rfl,by simp[h1,h2,hg],.same o⟩)
 ·simp only
  rw[if_neg hne,if_pos trivial]
 ·simp only
  rw[if_neg j2,if_neg j1]
theorem LpAt.done (G:Nat→Option (List AV)) {Z J:AHeap} {k0 wp c:Nat} {l:List Nd} {qk qa:Nat→Nat} {x3 x4 x5 x6 x7 x8 x9 x10 x11:AV} (h:LpAt Z k0 l c qk qa J) (hc:c+1=l.length) (hz:wp<Z.next) (hw0:wp≠k0) (hw1:wp≠k0+1) (hw:Z.get wp=some (.cells 97 [x3,.slc k0 l.length,.slc (k0+1) l.length,x4,x5,x6,x7,x8,x9,x10,x11,.nils])) :
  ∃J',(∀a,Weak G a J a J')∧J'.next=J.next∧J'.get wp=some (.cells 97 [x3,.lst l.length (tabA (kidsOf l) l.length),.lst l.length (tabA (attsOf l) l.length),x4,x5,x6,x7,x8,x9,x10,x11,.nils])∧∀j,j<Z.next→j≠k0→j≠k0+1→j≠wp→J'.get j=Z.get j:=by
 have hkz:=h.kz
 obtain⟨J1,w1,n1,r1,_,f1⟩:=freeze_rows G (by omega) h.tk.1 h.tk.2 h.ik (fun j hj=>by have:=h.bk j hj;omega) l.length (Nat.le_refl _)
 have ta1:J1.get (k0+1)=some (.row 33 1 ((List.range l.length).map fun j => .slc (qa j) (attsT l j (c+1)).length)):=(f1 _ (by omega) (fun m hm=>by have:=h.bk m hm;omega)).trans h.ta.1
 have tq1:∀j,j<l.length→J1.get (qa j)=some (.row 3 1 (intsA (attsT l j (c+1)))):=fun j hj=>(f1 _ (by have:=h.ba j hj;omega) (fun m hm e=>h.dj m j hm hj e.symm)).trans (h.ta.2 j hj)
 obtain⟨J2,w2,n2,r2,_,f2⟩:=freeze_rows G (by omega) ta1 tq1 h.ia (fun j hj=>by have:=h.ba j hj;omega) l.length (Nat.le_refl _)
 have rk:J2.get k0=some (.row 33 1 (tabA (kidsOf l) l.length)):=by
  rw[f2 k0 (by omega) (fun m hm=>by have:=h.ba m hm;omega),r1]
  congr 2
  apply List.map_congr_left
  intro j hj
  rw[if_pos (List.mem_range.1 hj),hc]
  rfl
 have ra:J2.get (k0+1)=some (.row 33 1 (tabA (attsOf l) l.length)):=by
  rw[r2]
  congr 2
  apply List.map_congr_left
  intro j hj
  rw[if_pos (List.mem_range.1 hj),hc]
  rfl
 have low:∀j,j<Z.next→j≠k0→j≠k0+1→J2.get j=Z.get j:=fun j j1 j2 j3=>by
  rw[f2 j j3 (fun m hm=>by have:=h.ba m hm;omega),f1 j j2 (fun m hm=>by have:=h.bk m hm;omega)]
  exact h.fr j j1 j2 j3
 have w2w:=(low wp hz hw0 hw1).trans hw
 obtain⟨J3,w3,n3,g3,f3⟩:=Weak.freezeField G (cs':=[x3,.lst l.length (tabA (kidsOf l) l.length),.slc (k0+1) l.length,x4,x5,x6,x7,x8,x9,x10,x11,.nils]) rk (by omega) w2w hw0 ⟨.same _,.slc _ _ rfl,Tzs.refl _⟩
 have ra3:=(f3 (k0+1) (fun e=>hw1 e.symm) (by omega)).trans ra
 obtain⟨J4,w4,n4,g4,f4⟩:=Weak.freezeField G (cs':=[x3,.lst l.length (tabA (kidsOf l) l.length),.lst l.length (tabA (attsOf l) l.length),x4,x5,x6,x7,x8,x9,x10,x11,.nils]) ra3 (by omega) g3 hw1 ⟨.same _,.same _,.slc _ _ rfl,Tzs.refl _⟩
 refine⟨J4,fun a=>(((w1 a).trans (w2 a)).trans (w3 a)).trans (w4 a),by omega,g4,fun j j1 j2 j3 j4=>?_⟩
 rw[f4 j j4 j3,f3 j j4 j2]
 exact low j j1 j2 j3
end Go.Ab
namespace Go.Ab
open Go Go.Lib Go.Proofs
def partOf:Nat→SC→SC
 | 0,.seq a _=>a
 | n+1,.seq _ b=>partOf n b
 | _,s=>s
def restOf:Nat→SC→SC
 | 0,s=>s
 | n+1,.seq _ b=>restOf n b
 | _,s=>s
def roundOf:SC→SC
 | .seq _ (.block _ (.loop b))=>b
 | s=>s
def lpF (l:List Nd) (tp op sp ep wp c:Nat) (b:AV):List AV:=
 [.und,.und,.und,.ptr tp 0,.ptr op 0,.und,.ptr sp 0,.ptr ep 0,.ptr wp 0]++List.replicate 57 .und++[.lst (l.length-1) (ndsH (l.drop 1)),.int .i64 ((l.length-1:Nat):Int),.int .i64 c,b]++List.replicate 110 .und
set_option maxHeartbeats 16000000 in
set_option maxRecDepth 100000 in
theorem table_round {G:Nat→Option (List AV)} {l:List Nd} (hv:ValidN l) {Z:AHeap} {k0 wp tp op sp ep:Nat} {x4 x5 x6 x7 x8 x9 x10 x11 x3:AV} (hz:wp<Z.next) (hw0:wp≠k0) (hw1:wp≠k0+1) (hw:Z.get wp=some (.cells 97 [x3,.slc k0 l.length,.slc (k0+1) l.length,x4,x5,x6,x7,x8,x9,x10,x11,.nils]))
  {Q:APost} {c:Nat} {qk qa:Nat→Nat} {J:AHeap} (h:LpAt Z k0 l c qk qa J) (hQ:c+1=l.length→Q (.exit 0) (lpF l tp op sp ep wp c (.bool false)) J) :
  awpS Tryz.prog G (roundOf (partOf 7 S20.1)) (thenA (fun a' H'=>∃x':Nat × (Nat→Nat) × (Nat→Nat) × AHeap,LpAt Z k0 l x'.1 x'.2.1 x'.2.2.1 x'.2.2.2∧l.length-x'.1<l.length-c∧Fg a' (lpF l tp op sp ep wp x'.1 .und)∧HW H' x'.2.2.2) Q) (lpF l tp op sp ep wp c .und) J:=by
 have hle:=h.le
 have hln:=hv.len
 have hnx:=h.nx
 have hkz:=h.kz
 have jw:=(h.fr wp hz hw0 hw1).trans hw
 simp only[lpF]at hQ
 by_cases hlt:c<l.length-1
 case neg=>
  have d0:decide ((c:Int)<((l.length-1:Nat):Int))=false:=decide_eq_false (by omega)
  have hce:c+1=l.length:=by omega
  have hq:=hQ hce
  simp (maxSteps:=400000) only[wF,storeA,reduceCtorEq,Nat.reduceAdd,Nat.reduceSub,Nat.reduceEqDiff,Nat.reduceLeDiff,Int.reduceToNat,Int.reduceLE,Int.reduceLT,Int.reduceAdd,Int.reduceNeg,Nat.reduceMul,roundOf,partOf,S20,T20,lpF,d0]at hq ⊢
  exact hq
 case pos=>
  have d0:decide ((c:Int)<((l.length-1:Nat):Int))=true:=decide_eq_true (by omega)
  have q0:((c:Int)<((l.length-1:Nat):Int))=True:=eq_true (by omega)
  have hdl:(l.drop 1).length=l.length-1:=by simp
  have hat:=ndsH_at (l.drop 1) c (by omega)
  have hx:(l.drop 1)[c]'(by omega)=l.getD (c+1) nd0:=by
   rw[List.getElem_drop,List.getD_eq_getElem?_getD,List.getElem?_eq_getElem (by omega)]
   simp[Nat.add_comm]
  rw[hx]at hat
  have hle2:(c*4+4≤(ndsH (l.drop 1)).length)=True:=by rw[ndsH_len,hdl];simp;omega
  have hup:=hv.up (c+1) (by omega) (by omega)
  obtain⟨u,hu⟩:∃u:Nat,(l.getD (c+1) nd0).up=u:=⟨(l.getD (c+1) nd0).up.toNat,by omega⟩
  have hul:u<l.length:=by omega
  have q1:((u:Int)<(l.length:Int))=True:=eq_true (by omega)
  have hkid:=fun(J':AHeap) (m:Nat) (h2:(l.getD (c+1) nd0).kind≠2)=>h.kid (J':=J') (m:=m) (by omega) hul hu h2
  have hatt:=fun(J':AHeap) (m:Nat) (h2:(l.getD (c+1) nd0).kind=2)=>h.att (J':=J') (m:=m) (by omega) hul hu h2
  generalize hxx:l.getD (c+1) nd0=x at hat hu hkid hatt
  simp only[ndH]at hat
  have ew:IntKind.i64.wrap ((c:Int)+1)=((c+1:Nat):Int):=by rw[wrap64]<;>omega
  have bku:=h.bk u hul
  have bau:=h.ba u hul
  have u1:(wp=J.next)=False:=eq_false (by omega)
  by_cases h2:x.kind=2
  case pos=>
   have e2:((x.kind:Int)==2)=true:=by rw[h2];rfl
   simp (maxSteps:=400000) only[wF,storeA,reduceCtorEq,Nat.reduceAdd,Nat.reduceSub,Nat.reduceEqDiff,Nat.reduceLeDiff,Int.reduceToNat,Int.reduceLE,Int.reduceLT,Int.reduceAdd,Int.reduceNeg,Nat.reduceMul,roundOf,partOf,S20,T20,lpF,d0,q0,hat,hle2,hu,indexAddrA,u1,AV.boxable,e2]
   generalize hX:AHeap.set (J.allocAt J.next _) J.next _=X
   have xn:X.next=J.next+1:=by rw[←hX];simp only[AHeap.next_set,AHeap.next_allocAt];omega
   have xx:X.get J.next=some (.cells 36 [.int .i64 x.kind,.str x.name,.str x.text,.int .i64 (u:Int)]):=by rw[←hX,AHeap.get_set_same]
   have xo:∀i,i<J.next→X.get i=J.get i:=fun i hi=>by rw[←hX,AHeap.get_set_ne _ _ (by omega),AHeap.get_allocAt_ne _ _ (by omega)]
   clear hX
   have xw:=(xo wp (by omega)).trans jw
   have xt:=(xo (k0+1) (by omega)).trans h.ta.1
   have xq:=(xo (qa u) (by omega)).trans (h.ta.2 u hul)
   have tg:=map_range_get (fun j=>AV.slc (qa j) (attsT l j (c+1)).length) hul
   simp only at xt tg
   have hlen:(intsA (attsT l u (c+1))).length=(attsT l u (c+1)).length:=by simp[intsA]
   have hal:(attsT l u (c+1)).length≤c+1:=by
    have:=List.length_filter_le (fun k=>decide (1≤k)&&(l.getD k nd0).up==(u:Int)&&(l.getD k nd0).kind==2) (List.range (c+1))
    simpa[attsT]using this
   have v1:(wp=X.next)=False:=eq_false (by omega)
   have v2:(k0+1=X.next)=False:=eq_false (by omega)
   have v3:(J.next=X.next)=False:=eq_false (by omega)
   have v4:(qa u=X.next)=False:=eq_false (by omega)
   have v5:(k0+1=X.next+1)=False:=eq_false (by omega)
   have v6:(k0+1=qa u)=False:=eq_false (by omega)
   have v7:(qa u=k0+1)=False:=eq_false (by omega)
   have v8:(wp=qa u)=False:=eq_false (by omega)
   have v9:(X.next=qa u)=False:=eq_false (by omega)
   refine drawW_fixed mixedOrders L20_14_eq P20_14_eq ?_
   simp (maxSteps:=400000) only[wF,storeA,reduceCtorEq,Nat.reduceAdd,Nat.reduceSub,Nat.reduceEqDiff,Nat.reduceLeDiff,Int.reduceToNat,Int.reduceLE,Int.reduceLT,Int.reduceAdd,Int.reduceNeg,Nat.reduceMul,L20_14,T20,xw,xx,xt,xq,q1,tg,indexAddrA,ew,Nat.mul_one,v1,v2,v3,v4,v5,v6,v7,v8,v9,buildA,appendA,appSrc,AV.isSlc,sliceLit,fillA,zerosA,srcCells,AV.boxable,Nat.le_refl,Nat.reduceLT,hlen]
   generalize hY:AHeap.set _ (k0+1) _=Y
   refine⟨⟨beq_eq_false_iff_ne.2 (by omega),by unfold maxApp;omega⟩,by simp;omega,by simp;omega,(c+1,qk,_,Y),hatt Y (X.next+1) h2 (by omega) ?_ ?_ ?_ fun j j1 j2 j3=>?_,by simp only;omega,?_,HW.refl _⟩
   ·rw[←hY];simp only[AHeap.next_set,AHeap.next_allocAt,AHeap.next_del];omega
   ·rw[←hY,AHeap.get_set_same]
   ·rw[←hY,AHeap.get_set_ne _ _ (by omega),AHeap.get_allocAt_same]
   ·rw[←hY,AHeap.get_set_ne _ _ j2,AHeap.get_allocAt_ne _ _ (by omega),AHeap.get_del_ne _ j3,AHeap.get_allocAt_ne _ _ (by omega)]
    exact xo j j1
   ·simp[Fg,lpF]
  case neg=>
   have e2:((x.kind:Int)==2)=false:=beq_eq_false_iff_ne.2 (by omega)
   simp (maxSteps:=400000) only[wF,storeA,reduceCtorEq,Nat.reduceAdd,Nat.reduceSub,Nat.reduceEqDiff,Nat.reduceLeDiff,Int.reduceToNat,Int.reduceLE,Int.reduceLT,Int.reduceAdd,Int.reduceNeg,Nat.reduceMul,roundOf,partOf,S20,T20,lpF,d0,q0,hat,hle2,hu,indexAddrA,u1,AV.boxable,e2]
   generalize hX:AHeap.set (J.allocAt J.next _) J.next _=X
   have xn:X.next=J.next+1:=by rw[←hX];simp only[AHeap.next_set,AHeap.next_allocAt];omega
   have xx:X.get J.next=some (.cells 36 [.int .i64 x.kind,.str x.name,.str x.text,.int .i64 (u:Int)]):=by rw[←hX,AHeap.get_set_same]
   have xo:∀i,i<J.next→X.get i=J.get i:=fun i hi=>by rw[←hX,AHeap.get_set_ne _ _ (by omega),AHeap.get_allocAt_ne _ _ (by omega)]
   clear hX
   have xw:=(xo wp (by omega)).trans jw
   have xt:=(xo k0 (by omega)).trans h.tk.1
   have xq:=(xo (qk u) (by omega)).trans (h.tk.2 u hul)
   have tg:=map_range_get (fun j=>AV.slc (qk j) (kidsT l j (c+1)).length) hul
   simp only at xt tg
   have hlen:(intsA (kidsT l u (c+1))).length=(kidsT l u (c+1)).length:=by simp[intsA]
   have hal:(kidsT l u (c+1)).length≤c+1:=by
    have:=List.length_filter_le (fun k=>decide (1≤k)&&(l.getD k nd0).up==(u:Int)&&(l.getD k nd0).kind != 2) (List.range (c+1))
    simpa[kidsT]using this
   have v1:(wp=X.next)=False:=eq_false (by omega)
   have v2:(k0=X.next)=False:=eq_false (by omega)
   have v3:(J.next=X.next)=False:=eq_false (by omega)
   have v4:(qk u=X.next)=False:=eq_false (by omega)
   have v5:(k0=X.next+1)=False:=eq_false (by omega)
   have v6:(k0=qk u)=False:=eq_false (by omega)
   have v7:(qk u=k0)=False:=eq_false (by omega)
   have v8:(wp=qk u)=False:=eq_false (by omega)
   have v9:(X.next=qk u)=False:=eq_false (by omega)
   refine drawW_fixed mixedOrders L20_15_eq P20_15_eq ?_
   simp (maxSteps:=400000) only[wF,storeA,reduceCtorEq,Nat.reduceAdd,Nat.reduceSub,Nat.reduceEqDiff,Nat.reduceLeDiff,Int.reduceToNat,Int.reduceLE,Int.reduceLT,Int.reduceAdd,Int.reduceNeg,Nat.reduceMul,L20_15,T20,xw,xx,xt,xq,q1,tg,indexAddrA,ew,Nat.mul_one,v1,v2,v3,v4,v5,v6,v7,v8,v9,buildA,appendA,appSrc,AV.isSlc,sliceLit,fillA,zerosA,srcCells,AV.boxable,Nat.le_refl,Nat.reduceLT,hlen]
   generalize hY:AHeap.set _ k0 _=Y
   refine⟨⟨beq_eq_false_iff_ne.2 (by omega),by unfold maxApp;omega⟩,by simp;omega,by simp;omega,(c+1,_,qa,Y),hkid Y (X.next+1) h2 (by omega) ?_ ?_ ?_ fun j j1 j2 j3=>?_,by simp only;omega,?_,HW.refl _⟩
   ·rw[←hY];simp only[AHeap.next_set,AHeap.next_allocAt,AHeap.next_del];omega
   ·rw[←hY,AHeap.get_set_same]
   ·rw[←hY,AHeap.get_set_ne _ _ (by omega),AHeap.get_allocAt_same]
   ·rw[←hY,AHeap.get_set_ne _ _ j2,AHeap.get_allocAt_ne _ _ (by omega),AHeap.get_del_ne _ j3,AHeap.get_allocAt_ne _ _ (by omega)]
    exact xo j j1
   ·simp[Fg,lpF]
end Go.Ab
namespace Go.Ab
open Go Go.Lib Go.Proofs
def badAt (l:List Nd) (i:Nat):Bool:=badN l i||(decide ((l.getD i nd0).kind=1)&&isRawS (l.getD (l.getD i nd0).up.toNat nd0).name)
def bdF (l:List Nd) (tp op sp ep wp c:Nat) (b:AV):List AV:=
 [.und,.und,.und,.ptr tp 0,.ptr op 0,.und,.ptr sp 0,.ptr ep 0,.ptr wp 0]++List.replicate 107 .und++[.lst l.length (ndsH l),.int .i64 l.length,.int .i64 c,b]++List.replicate 60 .und
theorem MAt.kept {H J:AHeap} {M:WM} (hm:MAt H M) (hb:M.sw<H.next∧M.vo<H.next∧M.ra<H.next∧M.ke<H.next∧M.si<H.next) (h:Kept H J):MAt J M:=
 ⟨(h.2 _ hb.1).trans hm.sw,(h.2 _ hb.2.1).trans hm.vo,(h.2 _ hb.2.2.1).trans hm.ra,(h.2 _ hb.2.2.2.1).trans hm.ke,(h.2 _ hb.2.2.2.2).trans hm.si⟩
set_option maxHeartbeats 16000000 in
set_option maxRecDepth 100000 in
theorem bad_round {G:Nat→Option (List AV)} (E:Env G) (X:EnvH G) (hM:SMapOk G) (hA:AnyOk G) {l:List Nd} (hv:ValidN l) {M:WM} {Z J:AHeap} {wp tp op sp ep:Nat} {b0 v y1 y2:AV} (hj:Kept Z J) (hn:wp<Z.next∧tp<Z.next∧sp<Z.next∧ep<Z.next) (hne:sp≠ep) (hmb:M.sw<Z.next∧M.vo<Z.next∧M.ra<Z.next∧M.ke<Z.next∧M.si<Z.next)
  (hw:Z.get wp=some ((mkW l M).obj b0 v)) (hm:MAt Z M) (ht:Z.get tp=some (.cells 25 [.lst l.length (ndsH l)])) (hs:Z.get sp=some (.cells 9 [y1])) (he:Z.get ep=some (.cells 26 [y2]))
  {Q:APost} {c:Nat} (hc:c≤l.length) (hcb:∀i,1≤i→i<c→badAt l i=false) (hQ:c=l.length→Q (.exit 2) (bdF l tp op sp ep wp c (.bool false)) J)
  (hB:∀(a':List AV) (J':AHeap),(∃i,1≤i∧i<l.length∧badAt l i=true)→a'.getD 6 .und = .ptr sp 0→a'.getD 7 .und = .ptr ep 0→Z.next≤J'.next→J'.get sp=some (.cells 9 [.str []])→J'.get ep=some (.cells 26 [.int .i64 420])→(∀j,j<Z.next→j≠sp→j≠ep→J'.get j=Z.get j)→Q .ret a' J') :
  awpS Tryz.prog G (roundOf (partOf 8 S20.1)) (thenA (fun a' H'=>∃x':Nat × AHeap,(x'.1≤l.length∧(∀i,1≤i→i<x'.1→badAt l i=false)∧Kept Z x'.2)∧l.length-x'.1<l.length-c∧Fg a' (bdF l tp op sp ep wp x'.1 .und)∧HW H' x'.2) Q) (bdF l tp op sp ep wp c .und) J:=by
 have hln:=hv.len
 have jw:=(hj.2 _ hn.1).trans hw
 have jt:=(hj.2 _ hn.2.1).trans ht
 have js:=(hj.2 _ hn.2.2.1).trans hs
 have je:=(hj.2 _ hn.2.2.2).trans he
 have jm:=hm.kept hmb hj
 simp only[bdF]at hQ
 by_cases hlt:c<l.length
 case neg=>
  have d0:decide ((c:Int)<(l.length:Int))=false:=decide_eq_false (by omega)
  have hq:=hQ (by omega)
  simp (maxSteps:=400000) only[wF,storeA,reduceCtorEq,Nat.reduceAdd,Nat.reduceSub,Nat.reduceEqDiff,Nat.reduceLeDiff,Int.reduceToNat,Int.reduceLE,Int.reduceLT,Int.reduceAdd,Int.reduceNeg,Nat.reduceMul,roundOf,partOf,S20,T20,bdF,d0]at hq ⊢
  exact hq
 case pos=>
  have d0:decide ((c:Int)<(l.length:Int))=true:=decide_eq_true (by omega)
  have q0:((c:Int)<(l.length:Int))=True:=eq_true (by omega)
  have ew:IntKind.i64.wrap ((c:Int)+1)=((c+1:Nat):Int):=by rw[wrap64]<;>omega
  by_cases h0:c=0
  case pos=>
   have d1:decide ((c:Int)>0)=false:=decide_eq_false (by omega)
   simp (maxSteps:=400000) only[wF,storeA,reduceCtorEq,Nat.reduceAdd,Nat.reduceSub,Nat.reduceEqDiff,Nat.reduceLeDiff,Int.reduceToNat,Int.reduceLE,Int.reduceLT,Int.reduceAdd,Int.reduceNeg,Nat.reduceMul,roundOf,partOf,S20,T20,bdF,d0,d1,ew]
   exact⟨(c+1,J),⟨hlt,fun i i1 i2=>by omega,hj⟩,by simp only;omega,by simp[Fg,bdF],HW.refl _⟩
  case neg=>
   have d1:decide ((c:Int)>0)=true:=decide_eq_true (by omega)
   simp (maxSteps:=400000) only[wF,storeA,reduceCtorEq,Nat.reduceAdd,Nat.reduceSub,Nat.reduceEqDiff,Nat.reduceLeDiff,Int.reduceToNat,Int.reduceLE,Int.reduceLT,Int.reduceAdd,Int.reduceNeg,Nat.reduceMul,roundOf,partOf,S20,T20,bdF,d0,d1,ew]
   refine AInv.retK B49 (bad_ok E X hM hA hv jw jm (by omega) hlt) (fun v2 J1 hq=>?_) (fun v2 J1 hq=>by cases hq.1)
   obtain⟨hv',k1⟩:=hq
   cases hv'
   have kJ:=hj.trans k1
   have j1t:=(kJ.2 _ hn.2.1).trans ht
   have j1s:=(kJ.2 _ hn.2.2.1).trans hs
   have j1e:=(kJ.2 _ hn.2.2.2).trans he
   have j1w:=(kJ.2 _ hn.1).trans hw
   have j1m:=hm.kept hmb kJ
   have g0:=kind_at (l:=l) (k:=c) hlt
   simp only[Nat.add_zero]at g0
   have u1:(ep=sp)=False:=eq_false (fun e=>hne e.symm)
   have u2:(sp=ep)=False:=eq_false hne
   have stop:∀(a':List AV) (J2:AHeap),Kept Z J2→badAt l c=true→a'.getD 6 .und = .ptr sp 0→a'.getD 7 .und = .ptr ep 0→Q .ret a' ((J2.set sp (.cells 9 [.str []])).set ep (.cells 26 [.int .i64 420])):=fun a' J2 k2 hb a6 a7=>by
    refine hB _ _ ⟨c,by omega,hlt,hb⟩ a6 a7 (by simp only[AHeap.next_set];exact k2.1) ?_ ?_ fun j j1 j2 j3=>?_
    ·rw[AHeap.get_set_ne _ _ hne,AHeap.get_set_same]
    ·rw[AHeap.get_set_same]
    ·rw[AHeap.get_set_ne _ _ j3,AHeap.get_set_ne _ _ j2];exact k2.2 j j1
   have goon:∀J2:AHeap,Kept Z J2→badAt l c=false→∃x':Nat × AHeap,(x'.1≤l.length∧(∀i,1≤i→i<x'.1→badAt l i=false)∧Kept Z x'.2)∧l.length-x'.1<l.length-c∧c+1=x'.1∧J2=x'.2:=fun J2 k2 hb=>by
    refine⟨(c+1,J2),⟨hlt,fun i i1 i2=>?_,k2⟩,by simp only;omega,rfl,rfl⟩
    rcases(by omega:i<c∨i=c)with h | h
    ·exact hcb i i1 h
    ·rw[h];exact hb
   cases hb:badN l c with
   | true=>
    have hbt:badAt l c=true:=by unfold badAt;rw[hb];rfl
    simp (maxSteps:=400000) only[wF,storeA,reduceCtorEq,Nat.reduceAdd,Nat.reduceSub,Nat.reduceEqDiff,Nat.reduceLeDiff,Int.reduceToNat,Int.reduceLE,Int.reduceLT,Int.reduceAdd,Int.reduceNeg,Nat.reduceMul,T20,hb,j1s,j1e,u1,u2]
    exact stop _ _ kJ hbt rfl rfl
   | false=>
    simp (maxSteps:=400000) only[wF,storeA,reduceCtorEq,Nat.reduceAdd,Nat.reduceSub,Nat.reduceEqDiff,Nat.reduceLeDiff,Int.reduceToNat,Int.reduceLE,Int.reduceLT,Int.reduceAdd,Int.reduceNeg,Nat.reduceMul,T20,hb,j1t,q0,indexAddrA,g0]
    by_cases h1:(l.getD c nd0).kind=1
    case neg=>
     have e1:(((l.getD c nd0).kind:Int)==1)=false:=beq_eq_false_iff_ne.2 (by omega)
     have hbf:badAt l c=false:=by unfold badAt;rw[hb,decide_eq_false h1];rfl
     simp (maxSteps:=400000) only[wF,storeA,reduceCtorEq,Nat.reduceAdd,Nat.reduceSub,Nat.reduceEqDiff,Nat.reduceLeDiff,Int.reduceToNat,Int.reduceLE,Int.reduceLT,Int.reduceAdd,Int.reduceNeg,Nat.reduceMul,T20,e1,ew]
     obtain⟨⟨c',J'⟩,a1,a2,a3,a4⟩:=goon J1 kJ hbf
     simp only at a3 a4
     subst a3;subst a4
     exact⟨(c+1,J1),a1,a2,by simp[Fg,bdF],HW.refl _⟩
    case pos=>
     have e1:(((l.getD c nd0).kind:Int)==1)=true:=by rw[h1];rfl
     simp (maxSteps:=400000) only[wF,storeA,reduceCtorEq,Nat.reduceAdd,Nat.reduceSub,Nat.reduceEqDiff,Nat.reduceLeDiff,Int.reduceToNat,Int.reduceLE,Int.reduceLT,Int.reduceAdd,Int.reduceNeg,Nat.reduceMul,T20,e1]
     refine AInv.retK B50 (inRaw_ok hM hv j1w j1m (by omega) hlt) (fun v2 J2 hq=>?_) (fun v2 J2 hq=>by cases hq.1)
     obtain⟨hv',k2⟩:=hq
     cases hv'
     have kJ2:=kJ.trans k2.kept
     have j2s:=(kJ2.2 _ hn.2.2.1).trans hs
     have j2e:=(kJ2.2 _ hn.2.2.2).trans he
     cases hr:isRawS (l.getD (l.getD c nd0).up.toNat nd0).name with
     | true=>
      have hbt:badAt l c=true:=by unfold badAt;rw[hb,hr,decide_eq_true h1];rfl
      simp (maxSteps:=400000) only[wF,storeA,reduceCtorEq,Nat.reduceAdd,Nat.reduceSub,Nat.reduceEqDiff,Nat.reduceLeDiff,Int.reduceToNat,Int.reduceLE,Int.reduceLT,Int.reduceAdd,Int.reduceNeg,Nat.reduceMul,T20,j2s,j2e,u1,u2]
      exact stop _ _ kJ2 hbt rfl rfl
     | false=>
      have hbf:badAt l c=false:=by unfold badAt;rw[hb,hr,decide_eq_true h1];rfl
      simp (maxSteps:=400000) only[wF,storeA,reduceCtorEq,Nat.reduceAdd,Nat.reduceSub,Nat.reduceEqDiff,Nat.reduceLeDiff,Int.reduceToNat,Int.reduceLE,Int.reduceLT,Int.reduceAdd,Int.reduceNeg,Nat.reduceMul,T20,ew]
      obtain⟨⟨c',J'⟩,a1,a2,a3,a4⟩:=goon J2 kJ2 hbf
      simp only at a3 a4
      subst a3;subst a4
      exact⟨(c+1,J2),a1,a2,by simp[Fg,bdF],HW.refl _⟩
end Go.Ab
namespace Go.Ab
open Go Go.Lib Go.Proofs Go.RowKit
def SpaceG (G:Nat→Option (List AV)):Prop:=∀(C:Ctx) (w:World),Rel G C w→Lib.TabIs Tryz.prog w "strings.asciiSpace" .u8 Lib.asciiSpaceTab
theorem strs_vrs {C:Ctx}:∀(l:List (List UInt8)),VRs C (strsA l) (l.map fun x=>Value.string ⟨x.toArray⟩)
 | []=>⟨rfl,fun i x y hx=>by simp[strsA]at hx⟩
 | a::l=>by
  have:=strs_vrs (C:=C) l
  exact VRs.cons (.str a) this
theorem fields_row {G:Nat→Option (List AV)} (g:SpaceG G) {s:List UInt8} (hs:s.length≤1000000000) (ha:∀b∈s,b.toNat<128) (hn:(Lib.fields s).length≤1000) (H:AHeap) :
  ACalls Tryz.prog G 81 [.str s] H fun r H'=>r = .ret (.slc H.next (Lib.fields s).length)∧H'=H.allocAt H.next (.row 9 1 (strsA (Lib.fields s))):=by
 intro C w args R hH hv
 subst hH
 have hargs:args=#[.string ⟨s.toArray⟩]:=by
  have:=flats_eq (xs:=[.str s]) (vs:=[.string ⟨s.toArray⟩]) rfl hv
  rw[←this]
 rw[hargs]
 refine(Tryz.strings_Fields ⟨s.toArray⟩ w (by rw[size_of];omega) (fun j b hb=>ha b (List.mem_of_getElem? (by simpa using hb))) (g C w R)).mono ?_
 rintro e w' ⟨rfl,rfl⟩
 simp only[List.toList_toArray]
 generalize Lib.fields s=F at hn ⊢
 have hown:(w.alloc (.cells (F.map fun l=>Value.string ⟨l.toArray⟩).toArray 9)).ownsRow w.heap.size 9 1 (.slice (some ⟨w.heap.size,0,none⟩) F.length F.length) F.length (F.map fun l=>Value.string ⟨l.toArray⟩):=by
  refine⟨by simp,.inr ⟨w.heap.size,F.length,_,rfl,Nat.le_refl _,heap_alloc_new w _,Nat.le_refl _,by unfold maxLen;omega,by simp,?_⟩⟩
  rw[Nat.mul_one]
  exact List.take_of_length_le (by simp)
 obtain⟨R',A'⟩:=alloc_row R (.inl (Nat.le_refl _)) hown (World.grownBy_alloc w _ none) (strs_vrs F)
 obtain⟨a,cap,hv',hso⟩:=SlcOk.new (C:=C) (n:=C.H.next) (cs:=strsA F) (ownsRow_base hown (Nat.zero_le _)) (by simp[strsA])
 cases hv'
 exact⟨.ret (.slc C.H.next F.length),_,⟨rfl,rfl⟩,.slc _ _ _ _ hso,R',A'⟩
theorem findA_fresh {k:List UInt8} {l:List (List UInt8)} (h:k ∉ l):findA (.str k) (wordsM l) 0=some none:=(findA_words k l 0).2 h
set_option maxHeartbeats 8000000 in
set_option maxRecDepth 100000 in
theorem words_ok {G:Nat→Option (List AV)} (g:SpaceG G) {s:List UInt8} {ws:List (List UInt8)} (hs:s.length≤1000000000) (ha:∀b∈s,b.toNat<128) (hf:Lib.fields s=ws) (hn:ws.length≤1000) (hd:ws.Nodup) (H:AHeap) :
  ACalls Tryz.prog G 47 [.str s] H fun r H'=>∃m,r = .ret (.map m)∧H.next≤m∧m<H'.next∧H'.get m=some (.map (wordsM ws))∧∀j,j<H.next→H'.get j=H.get j:=by
 refine ACalls.of Tryz.func47 S47_eq R47 N47 rfl rfl ?_
 simp (maxSteps:=400000) only[wF,storeA,reduceCtorEq,Nat.reduceAdd,Nat.reduceSub,Nat.reduceEqDiff,Nat.reduceLeDiff,Int.reduceToNat,Int.reduceLE,Int.reduceLT,Int.reduceAdd,Int.reduceNeg,Nat.reduceMul,S47,N47,R47,T47]
 refine AInv.retK (show bodyT Tryz.prog 81=true by kernel_rfl) (fields_row g hs ha (by rw[hf];exact hn) _) (fun v J hq=>?_) (fun v J hq=>by cases hq.1)
 obtain⟨hv,hJ⟩:=hq
 cases hv
 rw[hf]at hJ ⊢
 have hX:(H.allocAt H.next (AObj.map [])).next=H.next+1:=by simp only[AHeap.next_allocAt];omega
 rw[hX]at hJ ⊢
 have jn:J.next=H.next+2:=by rw[hJ];simp only[AHeap.next_allocAt];omega
 have jr:J.get (H.next+1)=some (.row 9 1 (strsA ws)):=by rw[hJ,AHeap.get_allocAt_same]
 have jm:J.get H.next=some (.map []):=by rw[hJ,AHeap.get_allocAt_ne _ _ (by omega),AHeap.get_allocAt_same]
 have jo:∀j,j<H.next→J.get j=H.get j:=fun j hj=>by rw[hJ,AHeap.get_allocAt_ne _ _ (by omega),AHeap.get_allocAt_ne _ _ (by omega)]
 clear hJ hX
 simp (maxSteps:=400000) only[wF,storeA,reduceCtorEq,Nat.reduceAdd,Nat.reduceSub,Nat.reduceEqDiff,Nat.reduceLeDiff,Int.reduceToNat,Int.reduceLE,Int.reduceLT,Int.reduceAdd,Int.reduceNeg,Nat.reduceMul,T47]
 refine ATrS.loopK (κ:=Nat × AHeap) (fun c=>[.und,.und,.und,.map H.next,.und,.und,.und,.und,.slc (H.next+1) ws.length,.int .i64 ws.length,.int .i64 c.1]++List.replicate 7 .und) (fun c=>c.2)
  (fun c=>c.1≤ws.length∧c.2.get H.next=some (.map (wordsM (ws.take c.1)))∧c.2.get (H.next+1)=some (.row 9 1 (strsA ws))∧c.2.next=H.next+2∧∀j,j<H.next→c.2.get j=H.get j) (fun c=>ws.length-c.1) ⟨(0,J),⟨Nat.zero_le _,by simpa[wordsM]using jm,jr,jn,jo⟩,by simp[Fg],HW.refl _⟩ ?_
 clear jn jr jm jo
 rintro⟨c,J⟩ ⟨hc,jm,jr,jn,jo⟩
 simp only at hc jm jr jn jo
 by_cases hlt:c<ws.length
 ·have d0:decide ((c:Int)<(ws.length:Int))=true:=decide_eq_true (by omega)
  have q0:((c:Int)<(ws.length:Int))=True:=eq_true (by omega)
  have g0:(strsA ws)[c]?=some (.str ws[c]):=by simp[strsA,hlt]
  have ew:IntKind.i64.wrap ((c:Int)+1)=((c+1:Nat):Int):=by rw[wrap64]<;>omega
  have hnot:ws[c] ∉ ws.take c:=by
   intro hm
   obtain⟨i,hi,he⟩:=List.getElem_of_mem hm
   rw[List.length_take]at hi
   rw[List.getElem_take]at he
   have:=(List.getElem_inj hd).1 he
   omega
  have hfr:=findA_fresh hnot
  have hst:wordsM (ws.take (c+1))=wordsM (ws.take c)++[(.str ws[c],.int .i64 1)]:=by
   have e1:ws.take (c+1)=ws.take c++[ws[c]]:=by rw[List.take_succ,List.getElem?_eq_getElem hlt];rfl
   rw[e1]
   unfold wordsM
   rw[List.map_append]
   rfl
  simp (maxSteps:=400000) only[wF,storeA,reduceCtorEq,Nat.reduceAdd,Nat.reduceSub,Nat.reduceEqDiff,Nat.reduceLeDiff,Int.reduceToNat,Int.reduceLE,Int.reduceLT,Int.reduceAdd,Int.reduceNeg,Nat.reduceMul,T47,d0,q0,jr,jm,g0,indexAddrA,Nat.mul_one,updateA,keyT,hfr,ew]
  refine⟨(c+1,_),⟨hlt,?_,?_,?_,fun j hj=>?_⟩,by simp only;omega,by simp[Fg],HW.refl _⟩
  ·show(AHeap.set J H.next _).get H.next=_
   rw[AHeap.get_set_same,hst]
  ·show(AHeap.set J H.next _).get (H.next+1)=_
   rw[AHeap.get_set_ne _ _ (by omega)];exact jr
  ·exact jn
  ·show(AHeap.set J H.next _).get j=_
   rw[AHeap.get_set_ne _ _ (by omega)];exact jo j hj
 ·have d0:decide ((c:Int)<(ws.length:Int))=false:=decide_eq_false (by omega)
  have hce:c=ws.length:=by omega
  subst hce
  rw[List.take_length]at jm
  simp (maxSteps:=400000) only[wF,storeA,reduceCtorEq,Nat.reduceAdd,Nat.reduceSub,Nat.reduceEqDiff,Nat.reduceLeDiff,Int.reduceToNat,Int.reduceLE,Int.reduceLT,Int.reduceAdd,Int.reduceNeg,Nat.reduceMul,T47,d0]
  exact⟨H.next,rfl,Nat.le_refl _,by omega,jm,jo⟩
def voidT:List UInt8:=[97,114,101,97,32,98,97,115,101,32,98,114,32,99,111,108,32,101,109,98,101,100,32,104,114,32,105,109,103,32,105,110,112,117,116,32,108,105,110,107,32,109,101,116,97,32,112,97,114,97,109,32,115,111,117,114,99,101,32,116,114,97,99,107,32,119,98,114]
def rawT:List UInt8:=[115,99,114,105,112,116,32,115,116,121,108,101]
def keptT:List UInt8:=[112,114,101,32,116,101,120,116,97,114,101,97]
theorem void_fields:Lib.fields voidT=voidsS:=by decide
theorem raw_fields:Lib.fields rawT=rawsS:=by decide
theorem kept_fields:Lib.fields keptT=keptS:=by decide
end Go.Ab
