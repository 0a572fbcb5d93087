/- Attributes, walked. -/
import Derived.Test.YtebgjmoihhbjjaaGreatDoorW9
set_option linter.all false
namespace Go.Ab
open Go Go.Lib Go.Proofs
theorem attribute_ok {G:Nat→Option (List AV)} (E:Env G) (B:EnvB G) (P:EnvP G) {s:List UInt8} {i:Nat} (hi:i≤s.length) (hs:s.length≤900000000) (H:AHeap) :
  ACalls Tryz.prog G 115 [.str s,.int .i64 i] H fun r H'=>r = .ret (.tup [.agg [.str (attrS s i).1.1,.str (attrS s i).1.2],.int .i64 (attrS s i).2.1,.bool (attrS s i).2.2])∧Kept H H':=by
 refine ACalls.wf fun wf=>?_
 refine ACalls.of Tryz.func115 S115_eq R115 N115 rfl rfl ?_
 simp (maxSteps:=400000) only[wF,storeA,reduceCtorEq,Nat.reduceAdd,Nat.reduceSub,Nat.reduceEqDiff,Nat.reduceLeDiff,Int.reduceToNat,Int.reduceLE,Int.reduceLT,Int.reduceAdd,Int.reduceNeg,Nat.reduceMul,S115,N115,R115,T115]
 generalize hH0:H.allocAt H.next _=H0
 have g0:H0.get H.next=some (.cells 59 [.str [],.str []]):=by rw[←hH0];simp
 have n0:H0.next=H.next+1:=by rw[←hH0];simp[AHeap.next_allocAt]
 have f0:∀j,j<H.next→H0.get j=H.get j:=fun j hj=>by rw[←hH0,AHeap.get_allocAt_ne _ _ (by omega)]
 refine AInv.pureK B113 (until_ok E hi (by omega)) fun H1 h1=>?_
 have hr:attrS s i =
  (if isNameS ((s.take (untilN s i [61])).drop i)=true∧Lib.hasPrefix (s.drop (skipN s (untilN s i [61]))) [61]=true then
   (if skipN s (skipN s (untilN s i [61])+1)<s.length∧(s.getD (skipN s (skipN s (untilN s i [61])+1)) 0=34∨s.getD (skipN s (skipN s (untilN s i [61])+1)) 0=39)then
    (if Lib.indexByte (s.drop (skipN s (skipN s (untilN s i [61])+1)+1)) (s.getD (skipN s (skipN s (untilN s i [61])+1)) 0)<0 then(([],[]),0,false)
    else(((s.take (untilN s i [61])).drop i,(valueS ((s.take (skipN s (skipN s (untilN s i [61])+1)+1+(Lib.indexByte (s.drop (skipN s (skipN s (untilN s i [61])+1)+1)) (s.getD (skipN s (skipN s (untilN s i [61])+1)) 0)).toNat)).drop (skipN s (skipN s (untilN s i [61])+1)+1))).1),
     skipN s (skipN s (untilN s i [61])+1)+(Lib.indexByte (s.drop (skipN s (skipN s (untilN s i [61])+1)+1)) (s.getD (skipN s (skipN s (untilN s i [61])+1)) 0)).toNat+2,
     (valueS ((s.take (skipN s (skipN s (untilN s i [61])+1)+1+(Lib.indexByte (s.drop (skipN s (skipN s (untilN s i [61])+1)+1)) (s.getD (skipN s (skipN s (untilN s i [61])+1)) 0)).toNat)).drop (skipN s (skipN s (untilN s i [61])+1)+1))).2))
   else(([],[]),0,false))
  else(([],[]),0,false)):=rfl
 have k1:=untilN_ge s i [61]
 have k2:=untilN_le (s:=s) (i:=i) [61] hi
 generalize untilN s i [61]=k at k1 k2 hr ⊢
 have q1:((i:Int)≤(k:Nat))=True:=by simp;omega
 have q2:((k:Int)≤s.length)=True:=by simp;omega
 have g1:H1.get H.next=some (.cells 59 [.str [],.str []]):=by rw[h1.2];exact g0
 simp (maxSteps:=400000) only[wF,storeA,reduceCtorEq,Nat.reduceAdd,Nat.reduceSub,Nat.reduceEqDiff,Nat.reduceLeDiff,Int.reduceToNat,Int.reduceLE,Int.reduceLT,Int.reduceAdd,Int.reduceNeg,Nat.reduceMul,T115,q1,q2,g1]
 refine AInv.pureK B114 (skip_ok G k2 (by omega)) fun H2 h2=>?_
 have hnl:((s.take k).drop i).length≤1000000000:=by simp;omega
 generalize (s.take k).drop i=name at hr hnl h2 ⊢
 have k3:=skipN_ge s k
 have k4:=skipN_le k2
 generalize skipN s k=a at k3 k4 hr ⊢
 have g2:H2.get H.next=some (.cells 59 [.str name,.str []]):=by rw[h2.2];simp
 have n1:=h1.1
 have n2:=h2.1
 simp only[AHeap.next_set]at n2
 have f2:∀j,j<H.next→H2.get j=H.get j:=fun j hj=>by rw[h2.2,AHeap.get_set_ne _ _ (by omega),h1.2];exact f0 j hj
 simp (maxSteps:=400000) only[wF,storeA,reduceCtorEq,Nat.reduceAdd,Nat.reduceSub,Nat.reduceEqDiff,Nat.reduceLeDiff,Int.reduceToNat,Int.reduceLE,Int.reduceLT,Int.reduceAdd,Int.reduceNeg,Nat.reduceMul,T115,g2]
 refine AInv.pureK B43 (isName_ok E hnl) fun H3 h3=>?_
 have g3:H3.get H.next=some (.cells 59 [.str name,.str []]):=by rw[h3.2];exact g2
 have n3:=h3.1
 have f3:∀j,j<H.next→H3.get j=H.get j:=fun j hj=>by rw[h3.2];exact f2 j hj
 have q3:((a:Int)≤s.length)=True:=by simp;omega
 have fail:∀(J:AHeap),H.next≤J.next→(∀j,j<H.next→J.get j=H.get j)→∀o,Kept H (J.set H.next o):=fun J hn hj o=>⟨hn,fun j hj'=>by rw[AHeap.get_set_ne _ _ (by omega)];exact hj j hj'⟩
 cases hn:isNameS name with
 | false=>
  simp (maxSteps:=400000) only[wF,storeA,reduceCtorEq,Nat.reduceAdd,Nat.reduceSub,Nat.reduceEqDiff,Nat.reduceLeDiff,Int.reduceToNat,Int.reduceLE,Int.reduceLT,Int.reduceAdd,Int.reduceNeg,Nat.reduceMul,T115,g3,buildA,fillA]
  exact⟨by rw[hr,hn];rfl,fail _ (by omega) f3 _⟩
 | true=>
  simp (maxSteps:=400000) only[wF,storeA,reduceCtorEq,Nat.reduceAdd,Nat.reduceSub,Nat.reduceEqDiff,Nat.reduceLeDiff,Int.reduceToNat,Int.reduceLE,Int.reduceLT,Int.reduceAdd,Int.reduceNeg,Nat.reduceMul,T115,g3,q3]
  refine AInv.pureK E.hasPreB (E.hasPre _ _) fun H4 h4=>?_
  have g4:H4.get H.next=some (.cells 59 [.str name,.str []]):=by rw[h4.2];exact g3
  have n4:=h4.1
  have f4:∀j,j<H.next→H4.get j=H.get j:=fun j hj=>by rw[h4.2];exact f3 j hj
  cases hp:Lib.hasPrefix (s.drop a) [61]with
  | false=>
   simp (maxSteps:=400000) only[wF,storeA,reduceCtorEq,Nat.reduceAdd,Nat.reduceSub,Nat.reduceEqDiff,Nat.reduceLeDiff,Int.reduceToNat,Int.reduceLE,Int.reduceLT,Int.reduceAdd,Int.reduceNeg,Nat.reduceMul,T115,g4,buildA,fillA]
   exact⟨by rw[hr,hn,hp];rfl,fail _ (by omega) f4 _⟩
  | true=>
   have hpl:=hasPrefix_len hp
   simp only[List.length_cons,List.length_nil,List.length_drop]at hpl
   have e1:IntKind.i64.wrap ((a:Int)+1)=((a+1:Nat):Int):=by rw[wrap64]<;>omega
   simp (maxSteps:=400000) only[wF,storeA,reduceCtorEq,Nat.reduceAdd,Nat.reduceSub,Nat.reduceEqDiff,Nat.reduceLeDiff,Int.reduceToNat,Int.reduceLE,Int.reduceLT,Int.reduceAdd,Int.reduceNeg,Nat.reduceMul,T115,e1]
   refine AInv.pureK B114 (skip_ok G (i:=a+1) (by omega) (by omega)) fun H5 h5=>?_
   have g5:H5.get H.next=some (.cells 59 [.str name,.str []]):=by rw[h5.2];exact g4
   have n5:=h5.1
   have f5:∀j,j<H.next→H5.get j=H.get j:=fun j hj=>by rw[h5.2];exact f4 j hj
   rw[hn,hp,if_pos ⟨rfl,rfl⟩]at hr
   have k5:=skipN_ge s (a+1)
   have k6:=skipN_le (s:=s) (i:=a+1) (by omega)
   generalize skipN s (a+1)=b at k5 k6 hr ⊢
   by_cases hbl:b<s.length
   ·have hget:s[b]?=some (s.getD b 0):=by simp[List.getD,List.getElem?_eq_getElem hbl]
    generalize s.getD b 0=c at hr hget
    have d0:((b:Int)==(s.length:Int))=false:=by simp;omega
    have e34:((c.toNat:Int)==34)=(c==34):=byte_eq c 34 (by omega)
    have e39:((c.toNat:Int)==39)=(c==39):=byte_eq c 39 (by omega)
    by_cases hq:c=34∨c=39
    ·rw[if_pos ⟨hbl,hq⟩]at hr
     have eb:IntKind.i64.wrap ((b:Int)+1)=((b+1:Nat):Int):=by rw[wrap64]<;>omega
     have qb:(((b+1:Nat):Int)≤s.length)=True:=by simp;omega
     have ib:=fun h=>indexByte_bound (s:=s.drop (b+1)) (c:=c) h
     simp only[List.length_drop]at ib
     rcases hq with hq | hq
     case' inl=>
      have d34:((c.toNat:Int) != 34)=false:=by rw[bne,e34];simp[hq]
      simp (maxSteps:=400000) only[wF,storeA,reduceCtorEq,Nat.reduceAdd,Nat.reduceSub,Nat.reduceEqDiff,Nat.reduceLeDiff,Int.reduceToNat,Int.reduceLE,Int.reduceLT,Int.reduceAdd,Int.reduceNeg,Nat.reduceMul,T115,d0,hget,d34]
     case' inr=>
      have d34:((c.toNat:Int) != 34)=true:=by rw[bne,e34];simp[hq]
      have d39:((c.toNat:Int) != 39)=false:=by rw[bne,e39];simp[hq]
      simp (maxSteps:=400000) only[wF,storeA,reduceCtorEq,Nat.reduceAdd,Nat.reduceSub,Nat.reduceEqDiff,Nat.reduceLeDiff,Int.reduceToNat,Int.reduceLE,Int.reduceLT,Int.reduceAdd,Int.reduceNeg,Nat.reduceMul,T115,d0,hget,d34,d39]
     all_goals
      refine drawW_ok (ex:=false) mixedOrders L115_9_eq P115_9_eq ?_
      simp (maxSteps:=400000) only[wF,storeA,reduceCtorEq,Nat.reduceAdd,Nat.reduceSub,Nat.reduceEqDiff,Nat.reduceLeDiff,Int.reduceToNat,Int.reduceLE,Int.reduceLT,Int.reduceAdd,Int.reduceNeg,Nat.reduceMul,L115_9,T115,eb,qb,hget]
      refine callW.pure E.indexByteB (E.indexByte _ _) ?_
      simp (maxSteps:=400000) only[wF,storeA,reduceCtorEq,Nat.reduceAdd,Nat.reduceSub,Nat.reduceEqDiff,Nat.reduceLeDiff,Int.reduceToNat,Int.reduceLE,Int.reduceLT,Int.reduceAdd,Int.reduceNeg,Nat.reduceMul,T115]
      intro m hm
      have g6:(⟨m,H5.get⟩:AHeap).get H.next=some (.cells 59 [.str name,.str []]):=g5
      have f6:∀j,j<H.next→(⟨m,H5.get⟩:AHeap).get j=H.get j:=f5
      have hmn:H.next<(⟨m,H5.get⟩:AHeap).next:=by simp only;omega
      generalize (⟨m,H5.get⟩:AHeap)=H6 at g6 f6 hmn ⊢
      generalize Lib.indexByte (s.drop (b+1)) c=n at hr ib ⊢
      cases dn:decide (n<0)with
      | true=>
       rw[if_pos (by simpa using dn)]at hr
       simp (maxSteps:=400000) only[wF,storeA,reduceCtorEq,Nat.reduceAdd,Nat.reduceSub,Nat.reduceEqDiff,Nat.reduceLeDiff,Int.reduceToNat,Int.reduceLE,Int.reduceLT,Int.reduceAdd,Int.reduceNeg,Nat.reduceMul,T115,dn,g6,buildA,fillA]
       exact⟨by simp[hr],fail _ (by omega) f6 _⟩
      | false=>
       simp at dn
       obtain⟨m',rfl⟩:∃m':Nat,n=m':=⟨n.toNat,by omega⟩
       have dn':decide ((m':Int)<0)=false:=by simp
       rw[if_neg (by omega)]at hr
       have ib':=ib dn
       simp only[Int.toNat_natCast]at ib' hr
       have e2:IntKind.i64.wrap (((b+1:Nat):Int)+(m':Int))=((b+1+m':Nat):Int):=by rw[wrap64]<;>omega
       have e3:IntKind.i64.wrap ((b:Int)+(m':Int))=((b+m':Nat):Int):=by rw[wrap64]<;>omega
       have e4:IntKind.i64.wrap (((b+m':Nat):Int)+2)=((b+m'+2:Nat):Int):=by rw[wrap64]<;>omega
       have q4:(((b+1:Nat):Int)≤((b+1+m':Nat):Int))=True:=by simp;omega
       have q5:(((b+1+m':Nat):Int)≤s.length)=True:=by simp;omega
       simp (maxSteps:=400000) only[wF,storeA,reduceCtorEq,Nat.reduceAdd,Nat.reduceSub,Nat.reduceEqDiff,Nat.reduceLeDiff,Int.reduceToNat,Int.reduceLE,Int.reduceLT,Int.reduceAdd,Int.reduceNeg,Nat.reduceMul,T115,dn',eb,e2,q4,q5]
       refine AInv.retK B128 (value_ok E B P (by simp;omega) H6) (fun v J hq=>?_) (fun v J hq=>by cases hq.1)
       obtain⟨hv,hJ⟩:=hq
       cases hv
       have gJ:J.get H.next=some (.cells 59 [.str name,.str []]):=by rw[hJ.2 _ hmn];exact g6
       have nJ:=hJ.1
       simp (maxSteps:=400000) only[wF,storeA,reduceCtorEq,Nat.reduceAdd,Nat.reduceSub,Nat.reduceEqDiff,Nat.reduceLeDiff,Int.reduceToNat,Int.reduceLE,Int.reduceLT,Int.reduceAdd,Int.reduceNeg,Nat.reduceMul,T115,gJ,e3,e4]
       refine⟨by rw[hr],by simp only[AHeap.next_set];omega,fun j hj=>?_⟩
       rw[AHeap.get_set_ne _ _ (by omega),AHeap.get_set_ne _ _ (by omega),hJ.2 j (by omega)]
       exact f6 j hj
    ·have d34:((c.toNat:Int) != 34)=true:=by rw[bne,e34];simp;exact fun h=>hq (.inl h)
     have d39:((c.toNat:Int) != 39)=true:=by rw[bne,e39];simp;exact fun h=>hq (.inr h)
     rw[if_neg (fun h=>hq h.2)]at hr
     simp (maxSteps:=400000) only[wF,storeA,reduceCtorEq,Nat.reduceAdd,Nat.reduceSub,Nat.reduceEqDiff,Nat.reduceLeDiff,Int.reduceToNat,Int.reduceLE,Int.reduceLT,Int.reduceAdd,Int.reduceNeg,Nat.reduceMul,T115,d0,hget,d34,d39,g5,buildA,fillA]
     exact⟨by simp[hr],fail _ (by omega) f5 _⟩
   ·have d0:((b:Int)==(s.length:Int))=true:=by simp;omega
    rw[if_neg (fun h=>hbl h.1)]at hr
    simp (maxSteps:=400000) only[wF,storeA,reduceCtorEq,Nat.reduceAdd,Nat.reduceSub,Nat.reduceEqDiff,Nat.reduceLeDiff,Int.reduceToNat,Int.reduceLE,Int.reduceLT,Int.reduceAdd,Int.reduceNeg,Nat.reduceMul,T115,d0,g5,buildA,fillA]
    exact⟨by simp[hr],fail _ (by omega) f5 _⟩
end Go.Ab
