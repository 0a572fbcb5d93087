/- Next, walked. -/
import Derived.Test.YtebgjmoihhbjjaaGreatDoorW18
set_option linter.all false
namespace Go.Ab
open Go Go.Lib Go.Proofs
theorem ptextF_ne {s:List UInt8} {top:Bool}:∀(f i:Nat) (acc:List UInt8) (w:Wrong),ptextF f top s i acc = .error w→w.e≠0
 | 0,i,acc,w,h=>by simp[ptextF]at h
 | f+1,i,acc,w,h=>by
  simp only[ptextF]at h
  split at h
  ·split at h
   ·split at h
    ·exact ptextF_ne f _ _ w h
    ·cases h;simp
   split at h
   ·split at h
    ·exact ptextF_ne f _ _ w h
    ·cases h;simp
   split at h
   ·cases h;simp
   ·exact ptextF_ne f _ _ w h
  ·cases h
theorem rowF_ne {s:List UInt8} {top:Bool}:∀(f i:Nat) (acc:List UInt8) (is:Bool) (w:Wrong),rowF f top s i acc is = .error w→w.e≠0
 | 0,i,acc,is,w,h=>by simp[rowF]at h
 | f+1,i,acc,is,w,h=>by
  simp only[rowF]at h
  split at h
  ·split at h
   ·split at h
    ·cases h;simp
    ·exact rowF_ne f _ _ _ w h
   split at h
   ·cases h
   ·split at h
    ·rename_i w' hw
     cases h
     exact ptextF_ne _ _ _ _ hw
    ·exact rowF_ne f _ _ _ w h
  ·cases h
theorem pieceS_ne {s:List UInt8} {p:Pst} {w:Wrong} (h:pieceS s p = .error w):w.e≠0:=by
 unfold pieceS at h
 split at h
 ·cases h
 split at h
 ·cases h
 split at h
 ·split at h
  ·cases h
  ·cases h;simp
 split at h
 ·cases h;simp
 ·split at h
  ·cases h;simp
  split at h
  ·cases h;simp
  split at h
  ·cases h;simp
  cases h
theorem eventF_ne {s:List UInt8}:∀(f:Nat) (p:Pst) (w:Wrong),eventF f s p = .error w→w.e≠0
 | 0,p,w,h=>by simp[eventF]at h
 | f+1,p,w,h=>by
  simp only[eventF]at h
  split at h
  ·split at h
   ·rename_i w' hw
    cases h
    exact rowF_ne _ _ _ _ _ hw
   ·split at h
    ·split at h
     ·exact eventF_ne f _ w h
     ·cases h
    ·split at h
     ·rename_i w' hw
      cases h
      exact pieceS_ne hw
     ·cases h
  ·split at h
   ·cases h;simp
   ·cases h
theorem eventS_ne {s:List UInt8} {p:Pst} {w:Wrong} (h:eventS s p = .error w):w.e≠0:=by
 unfold eventS at h
 split at h
 ·split at h
  ·cases h;simp
  ·exact eventF_ne _ _ _ h
 ·exact eventF_ne _ _ _ h
theorem eventF_empty {s:List UInt8}:∀(f:Nat) (p:Pst) (r),p.empty=none→eventF f s p = .ok r→∀e,r.2.empty=some e→e.kind=1
 | 0,p,r,hp,h,e,he=>by
  simp only[eventF,Except.ok.injEq]at h
  subst h
  simp[hp]at he
 | f+1,p,r,hp,h,e,he=>by
  simp only[eventF]at h
  split at h
  ·split at h
   ·cases h
   ·split at h
    ·split at h
     ·exact eventF_empty f _ r (by exact hp) h e he
     ·cases h
      simp[hp]at he
    ·split at h
     ·cases h
     ·rename_i x q hq
      cases h
      exact pieceS_empty hq hp e he
  ·split at h
   ·cases h
   ·cases h
    simp[hp]at he
theorem eventS_empty {s:List UInt8} {p:Pst} {r} (hp:p.empty=none) (h:eventS s p = .ok r) (e:Ev) (he:r.2.empty=some e):e.kind=1:=by
 unfold eventS at h
 split at h
 ·split at h
  ·cases h
  ·exact eventF_empty _ _ r (by exact hp) h e he
 ·exact eventF_empty _ _ r hp h e he
theorem ACalls.wfp {P:Program} {G:Nat→Option (List AV)} {f:FuncId} {args:List AV} {H:AHeap} {Q:ARes→AHeap→Prop} (h:ACalls P G f args H Q):ACalls P G f args H fun r H'=>Q r H'∧∀k o,H'.get k=some o→k<H'.next:=
 fun C w a R hH hv=>(h C w a R hH hv).mono fun e w' ⟨r,C',q,hr,R',A'⟩=>⟨r,C',⟨q,fun k o hk=>(R'.pres k o hk).1⟩,hr,R',A'⟩
def ParAt (H:AHeap) (pid ko:Nat) (s:List UInt8) (q:Par):Prop:=
 ∃i,(q.e=0→i=q.p.i)∧PAt H pid ko s ⟨i,q.p.opens,q.p.any,q.p.empty⟩ (.int .i64 q.last.1) (.int .i64 q.last.2.1) (.int .i64 q.last.2.2) (.int .i64 q.seen.1) (.int .i64 q.seen.2.1) (.int .i64 q.seen.2.2) (.int .i64 q.e)
def NextPost (s:List UInt8) (q:Par) (H:AHeap) (pid ko:Nat) (r:ARes) (H':AHeap):Prop:=
 r = .ret (.tup [evA (nextS s q).1.1,.bool (nextS s q).1.2.1,.int .i64 (nextS s q).1.2.2])∧∃ko',ParAt H' pid ko' s (nextS s q).2∧PKeep H pid ko ko' H'
theorem Weak.evNilE (G:Nat→Option (List AV)) (k:Int) (a b:List UInt8) (m n:Int) (o:Bool) (e:Int) (J:AHeap) :
  Weak G [.tup [.agg [.int .i64 k,.str a,.str b,.nils,.int .i64 m,.int .i64 n],.bool o,.int .i64 e]] J [.tup [.agg [.int .i64 k,.str a,.str b,.lst 0 [],.int .i64 m,.int .i64 n],.bool o,.int .i64 e]] J:=
 Weak.nilLst ⟨.tup' ⟨.agg' ⟨.same _,.same _,.same _,.nil _ rfl,.same _,.same _,trivial⟩,.same _,.same _,trivial⟩,trivial⟩
set_option maxRecDepth 100000 in
set_option maxHeartbeats 4000000 in
theorem next_tail {G:Nat→Option (List AV)} (E:Env G) {J:AHeap} {b pid:Nat} {s:List UInt8} {i:Nat} {l0 l1 l2:AV} {y:Pos} {op an em er:AV} {x0 x1 x2 x3 x4 x5:AV} {o:Bool} {e0:Int} {D:APost} (hs:s.length≤400000000) (hi:i≤s.length) (hy:PosOk s y)
  (hx:[x0,x1,x2,x3,x4,x5].all AV.one=true)
  (hb:BoxAt J b (b+1) (b+1+1) (b+1+1+1) pid [x0,x1,x2,x3,x4,x5] o e0) (hp:J.get pid=some (parserO s (.int .i64 i) l0 l1 l2 y.1 y.2.1 y.2.2 op an em er)) (hpb:pid<b)
  (hD:∀a Y,a.getD 2 .und = .ptr (b+1) 0→a.getD 3 .und = .ptr (b+1+1) 0→a.getD 4 .und = .ptr (b+1+1+1) 0→J.next≤Y.next →
   BoxAt Y b (b+1) (b+1+1) (b+1+1+1) pid [x0,x1,x2,x3,x4,x5] o 0 →
   Y.get pid=some (.cells 54 [.str s,.int .i64 i,.int .i64 (findS s i y).1,.int .i64 (findS s i y).2.1,.int .i64 (findS s i y).2.2,.int .i64 (findS s i y).1,.int .i64 (findS s i y).2.1,.int .i64 (findS s i y).2.2,op,an,em,er]) →
   (∀j,j≠pid→j≠b+1→j≠b+1+1→j≠b+1+1+1→Y.get j=J.get j)→D .ret a Y) :
  ATrS Tryz.prog G (.draw 15 (D21 15)) (thenA (awpS Tryz.prog G (.seq (.draw 16 (D21 16)) .ret) D) D) ([.und,.ptr b 0,.ptr (b+1) 0,.ptr (b+1+1) 0,.ptr (b+1+1+1) 0]++List.replicate 90 .und) J:=by
 obtain⟨h1,h2,h3,h4⟩:=hb
 have a1:(pid=b)=False:=by simp;omega
 have a2:(pid=b+1)=False:=by simp;omega
 have a3:(pid=b+1+1)=False:=by simp;omega
 have a4:(pid=b+1+1+1)=False:=by simp;omega
 have b1:(b=b+1)=False:=by simp
 have b2:(b=b+1+1)=False:=by simp;omega
 have b3:(b=b+1+1+1)=False:=by simp;omega
 have r1:(b+1=b)=False:=by simp
 have r2:(b+1+1=b)=False:=by simp;omega
 have r3:(b+1+1+1=b)=False:=by simp;omega
 have d1:(b=pid)=False:=by simp;omega
 have d2:(b+1=pid)=False:=by simp;omega
 have d3:(b+1+1=pid)=False:=by simp;omega
 have d4:(b+1+1+1=pid)=False:=by simp;omega
 have hpU:=hp
 unfold parserO at hpU
 refine drawW_ok (ex:=false) mixedOrders L21_15_eq P21_15_eq ?_
 simp (maxSteps:=400000) only[wF,storeA,reduceCtorEq,Nat.reduceAdd,Nat.reduceSub,Nat.reduceEqDiff,Nat.reduceLeDiff,Int.reduceToNat,Int.reduceLE,Int.reduceLT,Int.reduceAdd,Int.reduceNeg,Nat.reduceMul,L21_15,T21,h1,hpU]
 refine⟨rfl,[pid],[pid],_,_,find_LCalls E hp hi (by omega) hy,?_⟩
 unfold parserO
 simp (maxSteps:=400000) only[wF,storeA,reduceCtorEq,Nat.reduceAdd,Nat.reduceSub,Nat.reduceEqDiff,Nat.reduceLeDiff,Int.reduceToNat,Int.reduceLE,Int.reduceLT,Int.reduceAdd,Int.reduceNeg,Nat.reduceMul,T21,h1,d1,posA]
 refine⟨by simp;omega,fun m hm=>?_⟩
 generalize hY:(⟨m,_⟩:AHeap)=Y
 have yn:Y.next=m:=by rw[←hY]
 have yp:Y.get pid=some (.cells 54 [.str s,.int .i64 i,.int .i64 (findS s i y).1,.int .i64 (findS s i y).2.1,.int .i64 (findS s i y).2.2,.int .i64 (findS s i y).1,.int .i64 (findS s i y).2.1,.int .i64 (findS s i y).2.2,op,an,em,er]):=by
  rw[←hY]
  simp only[AHeap.get_set_same]
 have yo:∀j,j≠pid→Y.get j=J.get j:=fun j hj=>by
  rw[←hY]
  simp only[AHeap.get_set,hj,if_false]
 have y1:=(yo b (by omega)).trans h1
 have y2:=(yo (b+1) (by omega)).trans h2
 have y3:=(yo (b+1+1) (by omega)).trans h3
 have y4:=(yo (b+1+1+1) (by omega)).trans h4
 refine drawW_fixed mixedOrders L21_16_eq P21_16_eq ?_
 simp (maxSteps:=400000) only[wF,storeA,reduceCtorEq,Nat.reduceAdd,Nat.reduceSub,Nat.reduceEqDiff,Nat.reduceLeDiff,Int.reduceToNat,Int.reduceLE,Int.reduceLT,Int.reduceAdd,Int.reduceNeg,Nat.reduceMul,L21_16,T21,y2,y3,y4,r1,r2,r3,b1,b2,b3]
 refine⟨by simpa only[AV.one,List.all_cons,List.all_nil,Bool.and_true]using hx,by simp,hD _ _ rfl rfl rfl ?_ ⟨?_,?_,?_,?_⟩ ?_ fun j k1 k2 k3 k4=>?_⟩
 ·simp only[AHeap.next_set]
  omega
 ·rw[AHeap.get_set_ne _ _ (by omega),AHeap.get_set_ne _ _ (by omega),AHeap.get_set_ne _ _ (by omega)]
  exact y1
 ·rw[AHeap.get_set_ne _ _ (by omega),AHeap.get_set_ne _ _ (by omega),AHeap.get_set_same]
 ·rw[AHeap.get_set_ne _ _ (by omega),AHeap.get_set_same]
 ·rw[AHeap.get_set_same]
 ·rw[AHeap.get_set_ne _ _ (by omega),AHeap.get_set_ne _ _ (by omega),AHeap.get_set_ne _ _ (by omega)]
  exact yp
 ·rw[AHeap.get_set_ne _ _ k4,AHeap.get_set_ne _ _ k3,AHeap.get_set_ne _ _ k2]
  exact yo j k1
set_option maxRecDepth 100000 in
set_option maxHeartbeats 4000000 in
theorem next_ok {G:Nat→Option (List AV)} (E:Env G) (B:EnvB G) (P:EnvP G) {H:AHeap} {s:List UInt8} {pid ko:Nat} {q:Par}
  (hp:ParAt H pid ko s q) (hq:ParOk s q) (hs:s.length≤400000000):ACalls Tryz.prog G 21 [.ptr pid 0] H (NextPost s q H pid ko):=by
 refine ACalls.wf fun wf=>?_
 obtain⟨i,hi,hpk,⟨em,hpo,hem⟩,hro⟩:=hp
 simp only at hpo hem hro
 have hpn:=wf _ _ hpo
 have hkn:=wf _ _ hro
 have hokq:=hq
 obtain⟨⟨pi,opens,any,empty⟩,last,seen,e⟩:=q
 simp only at hpo hem hro hi
 refine ACalls.ret (ACalls.of_defer Tryz.func21 S21_eq B33 R21 N21 rfl rfl ?_)
 have a1:(pid=H.next)=False:=by simp;omega
 have a2:(pid=H.next+1)=False:=by simp;omega
 have a3:(pid=H.next+1+1)=False:=by simp;omega
 have a4:(pid=H.next+1+1+1)=False:=by simp;omega
 have b1:(H.next=H.next+1)=False:=by simp
 have b2:(H.next=H.next+1+1)=False:=by simp;omega
 have b3:(H.next=H.next+1+1+1)=False:=by simp;omega
 have b4:(H.next+1=H.next+1+1)=False:=by simp
 have b5:(H.next+1=H.next+1+1+1)=False:=by simp
 have b6:(H.next+1+1=H.next+1+1+1)=False:=by simp
 have hl0:=hq.last
 simp only at hl0
 have dl:(((last.2.1:Nat):Int)==0)=false:=by simp;omega
 have r1:(H.next+1=H.next)=False:=by simp
 have r2:(H.next+1+1=H.next)=False:=by simp;omega
 have r3:(H.next+1+1+1=H.next)=False:=by simp;omega
 have d1:(H.next=pid)=False:=by simp;omega
 have d2:(H.next+1=pid)=False:=by simp;omega
 have d3:(H.next+1+1=pid)=False:=by simp;omega
 have d4:(H.next+1+1+1=pid)=False:=by simp;omega
 have boxes:∀(X:AHeap),(((H.allocAt H.next (.cells 29 [.ptr pid 0])).allocAt (H.next+1) (.cells 39 [.int .i64 0,.str [],.str [],.nils,.int .i64 0,.int .i64 0])).allocAt (H.next+1+1) (.cells 4 [.bool false])).allocAt (H.next+1+1+1) (.cells 24 [.int .i64 0])=X →
   X.next=H.next+4∧X.get H.next=some (.cells 29 [.ptr pid 0])∧X.get (H.next+1)=some (.cells 39 [.int .i64 0,.str [],.str [],.nils,.int .i64 0,.int .i64 0])∧X.get (H.next+1+1)=some (.cells 4 [.bool false])∧X.get (H.next+1+1+1)=some (.cells 24 [.int .i64 0])∧∀j,j<H.next→X.get j=H.get j:=by
  rintro X rfl
  refine⟨by simp only[AHeap.next_allocAt];omega,?_,?_,?_,?_,fun j hj=>?_⟩
  ·simp only[AHeap.get_allocAt,b1,b2,b3,if_false,if_true]
  ·simp only[AHeap.get_allocAt,b4,b5,if_false,if_true]
  ·simp only[AHeap.get_allocAt,b6,if_false,if_true]
  ·simp only[AHeap.get_allocAt,if_true]
  ·rw[AHeap.get_allocAt_ne _ _ (by omega),AHeap.get_allocAt_ne _ _ (by omega),AHeap.get_allocAt_ne _ _ (by omega),AHeap.get_allocAt_ne _ _ (by omega)]
 by_cases he:e=0
 ·subst he
  have hii:=hi rfl
  subst hii
  have de:(((0:Nat):Int) != 0)=false:=rfl
  cases empty with
  | some x=>
   obtain⟨hxa,ke,rfl,hkp,hke⟩:=hem
   have hkn':=wf _ _ hke
   have c1:(ke=H.next)=False:=by simp;omega
   have c2:(ke=H.next+1)=False:=by simp;omega
   have c3:(ke=H.next+1+1)=False:=by simp;omega
   have c4:(ke=H.next+1+1+1)=False:=by simp;omega
   have hN:nextS s ⟨⟨i,opens,any,some x⟩,last,seen,0⟩=((x,true,0),⟨⟨i,opens,any,none⟩,last,seen,0⟩):=by simp[nextS]
   simp (maxSteps:=400000) only[wF,storeA,reduceCtorEq,Nat.reduceAdd,Nat.reduceSub,Nat.reduceEqDiff,Nat.reduceLeDiff,Int.reduceToNat,Int.reduceLE,Int.reduceLT,Int.reduceAdd,Int.reduceNeg,Nat.reduceMul,N21,R21,T21,AV.boxable,eqNeq,a1,a2,a3,a4,b1,b2,b3,b4,b5,b6,hpo,dl,de]
   generalize hX:AHeap.allocAt _ (H.next+1+1+1) _=X
   obtain⟨xn,xP,xX,xO,xE,xo⟩:=boxes X hX
   have xp:=(xo pid hpn).trans hpo
   have xk:=(xo ko hkn).trans hro
   have xke:=(xo ke hkn').trans hke
   unfold evO at xke
   have c5:(ke=pid)=False:=by simp;omega
   refine drawW_fixed mixedOrders L21_6_eq P21_6_eq ?_
   simp (maxSteps:=400000) only[wF,storeA,reduceCtorEq,Nat.reduceAdd,Nat.reduceSub,Nat.reduceEqDiff,Nat.reduceLeDiff,Int.reduceToNat,Int.reduceLE,Int.reduceLT,Int.reduceAdd,Int.reduceNeg,Nat.reduceMul,L21_6,T21,xP,xX,xO,xE,xp,xke,a1,a2,a3,a4,b1,b2,b3,b4,b5,b6,r1,r2,r3,d1,d2,d3,d4,AV.boxable]
   refine⟨by simp<;>omega,?_⟩
   refine⟨_,_,Weak.evNilE G _ _ _ _ _ _ _ _,?_,ko,?_,.inl rfl,by simp only[AHeap.next_set];omega,fun j h1 h2 h3=>?_⟩
   ·rw[hN]
    simp[evA,hxa,attrsA]
   ·rw[hN]
    refine⟨i,fun _=>rfl,hpk,⟨.nilp,?_,rfl⟩,?_⟩
    ·simp only[AHeap.get_set,a2,a3,a4,if_false,if_true]
    ·rw[AHeap.get_set_ne _ _ (by omega),AHeap.get_set_ne _ _ (by omega),AHeap.get_set_ne _ _ (by omega),AHeap.get_set_ne _ _ (by omega),AHeap.get_set_ne _ _ (by omega)]
     exact xk
   ·rw[AHeap.get_set_ne _ _ (by omega),AHeap.get_set_ne _ _ (by omega),AHeap.get_set_ne _ _ (by omega),AHeap.get_set_ne _ _ (by omega),AHeap.get_set_ne _ _ (by omega)]
    exact xo j h1
  | none=>
   have hem:em = .nilp:=hem
   subst hem
   simp (maxSteps:=400000) only[wF,storeA,reduceCtorEq,Nat.reduceAdd,Nat.reduceSub,Nat.reduceEqDiff,Nat.reduceLeDiff,Int.reduceToNat,Int.reduceLE,Int.reduceLT,Int.reduceAdd,Int.reduceNeg,Nat.reduceMul,N21,R21,T21,AV.boxable,eqNeq,a1,a2,a3,a4,b1,b2,b3,b4,b5,b6,hpo,dl,de]
   generalize hX:AHeap.allocAt _ (H.next+1+1+1) _=X
   obtain⟨xn,xP,xX,xO,xE,xo⟩:=boxes X hX
   have xp:=(xo pid hpn).trans hpo
   have xk:=(xo ko hkn).trans hro
   refine⟨(show(46:Nat)<95 by omega),AInv.call B35 (event_ok E B P (H:=X) (p:=⟨i,opens,any,none⟩) ⟨hpk,⟨.nilp,xp,rfl⟩,xk⟩ hokq.i hs rfl (by have:=hokq.opens;simp only at this ⊢;omega)).wfp fun r J hq=>?_⟩
   obtain⟨hq,wfJ⟩:=hq
   have hpsn:=hokq.seen
   simp only at hpsn
   cases hev:eventS s ⟨i,opens,any,none⟩with
   | error w=>
    have hN:nextS s ⟨⟨i,opens,any,none⟩,last,seen,0⟩=((noEv,false,w.e),⟨⟨i,opens,any,none⟩,findS s w.at_ seen,findS s w.at_ seen,w.e⟩):=by simp[nextS,hev]
    rw[hev]at hq
    obtain⟨hq,i',⟨_,⟨em',jp,hem'⟩,jk⟩,hko,jn,jf⟩:=hq
    subst hq
    have hem':em' = .nilp:=hem'
    subst hem'
    simp (maxSteps:=400000) only[wF,storeA,reduceCtorEq,Nat.reduceAdd,Nat.reduceSub,Nat.reduceEqDiff,Nat.reduceLeDiff,Int.reduceToNat,Int.reduceLE,Int.reduceLT,Int.reduceAdd,Int.reduceNeg,Nat.reduceMul,T21,deferA]
    have jP:=(jf H.next (by omega) (by omega) (by omega)).trans xP
    have jX:=(jf (H.next+1) (by omega) (by omega) (by omega)).trans xX
    have jO:=(jf (H.next+1+1) (by omega) (by omega) (by omega)).trans xO
    have jE:=(jf (H.next+1+1+1) (by omega) (by omega) (by omega)).trans xE
    refine closure_ok E (bp:=H.next) (bx:=H.next+1) (bo:=H.next+1+1) (be:=H.next+1+1+1) (ko:=ko) (n:=opens.length) (y:=seen) (w:=w) ⟨jP,jX,jO,jE⟩ jp (eventS_err hev) hs hpsn (by omega) (by omega) (by omega) (by omega) (by omega) (by omega) (by omega) (by omega) (by omega) (by omega) (by omega) (by omega) (by omega) (by omega) (by omega) ?_
    rintro H' hn' hp' ⟨k1,k2,k3,k4⟩ hf'
    simp (maxSteps:=400000) only[wF,storeA,reduceCtorEq,Nat.reduceAdd,Nat.reduceSub,Nat.reduceEqDiff,Nat.reduceLeDiff,Int.reduceToNat,Int.reduceLE,Int.reduceLT,Int.reduceAdd,Int.reduceNeg,Nat.reduceMul,T21,k2,k3,k4]
    refine⟨_,_,Weak.evNilE G _ _ _ _ _ _ _ _,by rw[hN];rfl,ko,?_,.inl rfl,by omega,fun j g1 g2 g3=>?_⟩
    ·rw[hN]
     refine⟨i',fun h=>?_,hpk,⟨.nilp,hp',rfl⟩,?_⟩
     ·exact absurd h (eventS_ne hev)
     ·rw[hf' ko (by omega) (Ne.symm hpk) (by omega) (by omega) (by omega)]
      exact jk
    ·rw[hf' j (by omega) g2 (by omega) (by omega) (by omega),jf j (by omega) g2 g3]
     exact xo j g1
   | ok z=>
    obtain⟨z,p'⟩:=z
    rw[hev]at hq
    cases z with
    | none=>
     have hN:nextS s ⟨⟨i,opens,any,none⟩,last,seen,0⟩=((noEv,false,0),⟨p',findS s p'.i seen,findS s p'.i seen,0⟩):=by simp[nextS,hev]
     obtain⟨hq,ko',⟨hpk',⟨em',jp,hem'⟩,jk⟩,hko,jn,jf⟩:=hq
     subst hq
     have hbd:=eventS_bound hokq.i hev
     have hpe:p'.empty=none:=hbd.2.2.1 rfl
     rw[hpe]at hem'
     have hem':em' = .nilp:=hem'
     subst hem'
     have jP:=(jf H.next (by omega) (by omega) (by omega)).trans xP
     have jX:=(jf (H.next+1) (by omega) (by omega) (by omega)).trans xX
     have jO:=(jf (H.next+1+1) (by omega) (by omega) (by omega)).trans xO
     have jE:=(jf (H.next+1+1+1) (by omega) (by omega) (by omega)).trans xE
     simp only[evA,noEv]
     simp (maxSteps:=400000) only[wF,storeA,reduceCtorEq,Nat.reduceAdd,Nat.reduceSub,Nat.reduceEqDiff,Nat.reduceLeDiff,Int.reduceToNat,Int.reduceLE,Int.reduceLT,Int.reduceAdd,Int.reduceNeg,Nat.reduceMul,T21,jP,jX,jO,jp,r1,r2,r3,b1,b2,b3,b4,a1,a2,a3,eqNeq]
     refine ATrS.weak (Weak.of (a':=[.und,.ptr H.next 0,.ptr (H.next+1) 0,.ptr (H.next+1+1) 0,.ptr (H.next+1+1+1) 0]++List.replicate 90 .und) (by simp[Fg]) (HW.refl _)) (next_tail E (s:=s) (i:=p'.i) (y:=seen) (e0:=0) (o:=false) (l0 := .int .i64 last.1) (l1 := .int .i64 last.2.1) (l2 := .int .i64 last.2.2) (op := .slc ko' p'.opens.length) (an := .bool p'.any) (em := .nilp) (er := .int .i64 ((0:Nat):Int))
      (x0 := .int .i64 ((0:Nat):Int)) (x1 := .str []) (x2 := .str []) (x3 := .lst 0 (attrsA [])) (x4 := .int .i64 ((0:Nat):Int)) (x5 := .int .i64 ((0:Nat):Int)) hs hbd.2.1 hpsn (by simp[AV.one]) ⟨?_,?_,?_,?_⟩ ?_ hpn fun a Y c2 c3 c4 yn yb yp yo=>?_)
     ·rw[AHeap.get_set_ne _ _ (by omega),AHeap.get_set_ne _ _ (by omega)]
      exact jP
     ·rw[AHeap.get_set_ne _ _ (by omega),AHeap.get_set_same]
     ·rw[AHeap.get_set_same]
     ·rw[AHeap.get_set_ne _ _ (by omega),AHeap.get_set_ne _ _ (by omega)]
      exact jE
     ·rw[AHeap.get_set_ne _ _ (by omega),AHeap.get_set_ne _ _ (by omega)]
      exact jp
     ·obtain⟨yP,yX,yO,yE⟩:=yb
      simp only[AHeap.next_set]at yn
      simp only[deferA]
      refine closure_nil G ?_
      simp (maxSteps:=400000) only[wF,storeA,reduceCtorEq,Nat.reduceAdd,Nat.reduceSub,Nat.reduceEqDiff,Nat.reduceLeDiff,Int.reduceToNat,Int.reduceLE,Int.reduceLT,Int.reduceAdd,Int.reduceNeg,Nat.reduceMul,T21,c2,c3,c4,yX,yO,yE]
      refine⟨_,_,Weak.refl G _ _,by rw[hN];rfl,ko',?_,?_,by omega,fun j g1 g2 g3=>?_⟩
      ·rw[hN]
       refine⟨p'.i,fun _=>rfl,hpk',⟨.nilp,yp,by rw[hpe];rfl⟩,?_⟩
       rw[yo ko' (Ne.symm hpk') (by omega) (by omega) (by omega),AHeap.get_set_ne _ _ (by omega),AHeap.get_set_ne _ _ (by omega)]
       exact jk
      ·rcases hko with h | h
       ·exact .inl h
       ·exact .inr (by omega)
      ·rw[yo j g2 (by omega) (by omega) (by omega),AHeap.get_set_ne _ _ (by omega),AHeap.get_set_ne _ _ (by omega),jf j (by omega) g2 g3]
       exact xo j g1
    | some y=>
     obtain⟨x,from_⟩:=y
     have hN:nextS s ⟨⟨i,opens,any,none⟩,last,seen,0⟩=(({ x with line:=(findS s from_ seen).2.1,col:=(findS s from_ seen).2.2 },true,0),⟨{ p' with empty:=p'.empty.map fun z=>{ z with line:=(findS s from_ seen).2.1,col:=(findS s from_ seen).2.2 } },findS s p'.i (findS s from_ seen),findS s p'.i (findS s from_ seen),0⟩):=by simp[nextS,hev]
     obtain⟨hq,hnew,ko',⟨hpk',⟨em',jp,hem'⟩,jk⟩,hko,jn,jf⟩:=hq
     subst hq
     have hbd:=eventS_bound hokq.i hev
     have hbd2:=hbd.2.2.2 _ rfl
     simp only at hbd hbd2
     have hfr:from_≤s.length:=by
      have g1:=hbd2.2.2.1
      have g2:=hbd.2.1
      simp only at g1 g2
      omega
     have hkj:=wfJ _ _ jk
     have jP:=(jf H.next (by omega) (by omega) (by omega)).trans xP
     have jX:=(jf (H.next+1) (by omega) (by omega) (by omega)).trans xX
     have jO:=(jf (H.next+1+1) (by omega) (by omega) (by omega)).trans xO
     have jE:=(jf (H.next+1+1+1) (by omega) (by omega) (by omega)).trans xE
     simp only[evA]
     simp (maxSteps:=400000) only[wF,storeA,reduceCtorEq,Nat.reduceAdd,Nat.reduceSub,Nat.reduceEqDiff,Nat.reduceLeDiff,Int.reduceToNat,Int.reduceLE,Int.reduceLT,Int.reduceAdd,Int.reduceNeg,Nat.reduceMul,T21,jP,jX,jO,jp,r1,r2,r3,b1,b2,b3,b4,a1,a2,a3,eqNeq]
     generalize hJ1:AHeap.set (AHeap.set J _ _) _ _=J1
     have n1:J1.next=J.next:=by rw[←hJ1];rfl
     have j1X:J1.get (H.next+1)=some (.cells 39 [.int .i64 x.kind,.str x.name,.str x.text,.lst x.attrs.length (attrsA x.attrs),.int .i64 x.line,.int .i64 x.col]):=by rw[←hJ1,AHeap.get_set_ne _ _ (by omega),AHeap.get_set_same]
     have j1O:J1.get (H.next+1+1)=some (.cells 4 [.bool true]):=by rw[←hJ1,AHeap.get_set_same]
     have j1o:∀j,j≠H.next+1→j≠H.next+1+1→J1.get j=J.get j:=fun j g1 g2=>by rw[←hJ1,AHeap.get_set_ne _ _ g2,AHeap.get_set_ne _ _ g1]
     have j1p:=(j1o pid (by omega) (by omega)).trans jp
     refine AInv.retK B34 (find_set E (H:=J1) (x:=seen) j1p hfr (by omega) hpsn) (fun v J2 hq=>?_) (fun v J2 hq=>by cases hq.1)
     obtain⟨hv,hn2,hg2⟩:=hq
     cases hv
     have hpsn2:=hpsn.find hfr
     generalize hy:findS s from_ seen=y at hg2 hN hpsn2
     have j2p:J2.get pid=some (.cells 54 [.str s,.int .i64 p'.i,.int .i64 last.1,.int .i64 last.2.1,.int .i64 last.2.2,.int .i64 y.1,.int .i64 y.2.1,.int .i64 y.2.2,.slc ko' p'.opens.length,.bool p'.any,em',.int .i64 ((0:Nat):Int)]):=by rw[hg2,AHeap.get_set_same];rfl
     have j2o:∀j,j≠pid→J2.get j=J1.get j:=fun j g1=>by rw[hg2,AHeap.get_set_ne _ _ g1]
     have j2P:=(j2o H.next (by omega)).trans ((j1o H.next (by omega) (by omega)).trans jP)
     have j2X:=(j2o (H.next+1) (by omega)).trans j1X
     have j2O:=(j2o (H.next+1+1) (by omega)).trans j1O
     have j2E:=(j2o (H.next+1+1+1) (by omega)).trans ((j1o (H.next+1+1+1) (by omega) (by omega)).trans jE)
     have e1:(H.next=J2.next)=False:=by simp;omega
     have e2:(H.next+1=J2.next)=False:=by simp;omega
     have e3:(J2.next=H.next+1)=False:=by simp;omega
     have e4:(pid=J2.next)=False:=by simp;omega
     simp (maxSteps:=400000) only[wF,storeA,reduceCtorEq,Nat.reduceAdd,Nat.reduceSub,Nat.reduceEqDiff,Nat.reduceLeDiff,Int.reduceToNat,Int.reduceLE,Int.reduceLT,Int.reduceAdd,Int.reduceNeg,Nat.reduceMul,T21,posA]
     refine drawW_fixed mixedOrders L21_12_eq P21_12_eq ?_
     have hek:=fun e he=>eventS_empty (p:=⟨i,opens,any,none⟩) rfl hev e he
     simp only at hek
     obtain⟨i2,opens2,any2,empty2⟩:=p'
     simp only at hek hbd hbd2 hN jp jk j1p j2p hem'
     cases empty2 with
     | none=>
      have hem':em' = .nilp:=hem'
      subst hem'
      simp (maxSteps:=400000) only[wF,storeA,reduceCtorEq,Nat.reduceAdd,Nat.reduceSub,Nat.reduceEqDiff,Nat.reduceLeDiff,Int.reduceToNat,Int.reduceLE,Int.reduceLT,Int.reduceAdd,Int.reduceNeg,Nat.reduceMul,L21_12,T21,j2X,j2P,j2p,e1,e2,e3,e4,b1,a2,eqNeq]
      refine⟨by simp;omega,?_⟩
      refine ATrS.weak (Weak.of (a':=[.und,.ptr H.next 0,.ptr (H.next+1) 0,.ptr (H.next+1+1) 0,.ptr (H.next+1+1+1) 0]++List.replicate 90 .und) (by simp[Fg]) (HW.refl _)) (next_tail E (s:=s) (i:=i2) (y:=y) (e0:=0) (o:=true) (l0 := .int .i64 last.1) (l1 := .int .i64 last.2.1) (l2 := .int .i64 last.2.2) (op := .slc ko' opens2.length) (an := .bool any2) (em := .nilp) (er := .int .i64 ((0:Nat):Int))
       (x0 := .int .i64 x.kind) (x1 := .str x.name) (x2 := .str x.text) (x3 := .lst x.attrs.length (attrsA x.attrs)) (x4 := .int .i64 y.2.1) (x5 := .int .i64 y.2.2) hs hbd.2.1 hpsn2 (by simp[AV.one]) ⟨?_,?_,?_,?_⟩ ?_ hpn fun a Y c2 c3 c4 yn yb yp yo=>?_)
      ·simp only[AHeap.get_set,AHeap.get_allocAt,e1,b1,if_false]
       exact j2P
      ·simp only[AHeap.get_set,if_true]
      ·rw[AHeap.get_set_ne _ _ (by omega),AHeap.get_set_ne _ _ (by omega),AHeap.get_set_ne _ _ (by omega),AHeap.get_allocAt_ne _ _ (by omega)]
       exact j2O
      ·rw[AHeap.get_set_ne _ _ (by omega),AHeap.get_set_ne _ _ (by omega),AHeap.get_set_ne _ _ (by omega),AHeap.get_allocAt_ne _ _ (by omega)]
       exact j2E
      ·rw[AHeap.get_set_ne _ _ (by omega),AHeap.get_set_ne _ _ (by omega),AHeap.get_set_ne _ _ (by omega),AHeap.get_allocAt_ne _ _ (by omega)]
       exact j2p
      ·obtain⟨yP,yX,yO,yE⟩:=yb
       simp only[AHeap.next_set,AHeap.next_allocAt]at yn
       simp only[deferA]
       refine closure_nil G ?_
       simp (maxSteps:=400000) only[wF,storeA,reduceCtorEq,Nat.reduceAdd,Nat.reduceSub,Nat.reduceEqDiff,Nat.reduceLeDiff,Int.reduceToNat,Int.reduceLE,Int.reduceLT,Int.reduceAdd,Int.reduceNeg,Nat.reduceMul,T21,c2,c3,c4,yX,yO,yE]
       refine⟨_,_,Weak.refl G _ _,by rw[hN];rfl,ko',?_,?_,by omega,fun j g1 g2 g3=>?_⟩
       ·rw[hN]
        refine⟨i2,fun _=>rfl,hpk',⟨.nilp,yp,rfl⟩,?_⟩
        rw[yo ko' (Ne.symm hpk') (by omega) (by omega) (by omega),AHeap.get_set_ne _ _ (by omega),AHeap.get_set_ne _ _ (by omega),AHeap.get_set_ne _ _ (by omega),AHeap.get_allocAt_ne _ _ (by omega),j2o ko' (Ne.symm hpk'),j1o ko' (by omega) (by omega)]
        exact jk
       ·rcases hko with h | h
        ·exact .inl h
        ·exact .inr (by omega)
       ·rw[yo j g2 (by omega) (by omega) (by omega),AHeap.get_set_ne _ _ (by omega),AHeap.get_set_ne _ _ (by omega),AHeap.get_set_ne _ _ (by omega),AHeap.get_allocAt_ne _ _ (by omega),j2o j g2,j1o j (by omega) (by omega),jf j (by omega) g2 g3]
        exact xo j g1
     | some z=>
      obtain⟨hza,ke,rfl,hkp,hke⟩:=hem'
      have hzk:=hek z rfl
      have k1:ke≠H.next:=fun h=>by rw[h,jP]at hke;simp[evO]at hke
      have k2:ke≠H.next+1:=fun h=>by
       rw[h,jX]at hke
       simp only[evO,Option.some.injEq,AObj.cells.injEq,List.cons.injEq,AV.int.injEq]at hke
       omega
      have k3:ke≠H.next+1+1:=fun h=>by rw[h,jO]at hke;simp[evO]at hke
      have k4:ke≠H.next+1+1+1:=fun h=>by rw[h,jE]at hke;simp[evO]at hke
      have k5:=wfJ _ _ hke
      have k6:=hnew _ ke jp rfl
      have kk:ke≠ko':=fun h=>by rw[h,jk]at hke;simp[evO]at hke
      have j2k:J2.get ke=some (.cells 39 [.int .i64 z.kind,.str z.name,.str z.text,.nils,.int .i64 z.line,.int .i64 z.col]):=by rw[j2o ke hkp,j1o ke k2 k3,hke];rfl
      have m1:(H.next=ke)=False:=by simp;omega
      have m2:(H.next+1=ke)=False:=by simp;omega
      have m3:(ke=H.next+1)=False:=by simp;omega
      have m4:(pid=ke)=False:=by simp;omega
      have m5:(ke=J2.next)=False:=by simp;omega
      simp (maxSteps:=400000) only[wF,storeA,reduceCtorEq,Nat.reduceAdd,Nat.reduceSub,Nat.reduceEqDiff,Nat.reduceLeDiff,Int.reduceToNat,Int.reduceLE,Int.reduceLT,Int.reduceAdd,Int.reduceNeg,Nat.reduceMul,L21_12,T21,j2X,j2P,j2p,e1,e2,e3,e4,b1,a2,eqNeq]
      refine⟨by simp;omega,?_⟩
      refine drawW_fixed mixedOrders L21_14_eq P21_14_eq ?_
      simp (maxSteps:=400000) only[wF,storeA,reduceCtorEq,Nat.reduceAdd,Nat.reduceSub,Nat.reduceEqDiff,Nat.reduceLeDiff,Int.reduceToNat,Int.reduceLE,Int.reduceLT,Int.reduceAdd,Int.reduceNeg,Nat.reduceMul,L21_14,T21,j2X,j2P,j2p,j2k,e1,e2,e3,e4,b1,a2,m1,m2,m3,m4,m5]
      refine⟨by simp;omega,?_⟩
      refine ATrS.weak (Weak.of (a':=[.und,.ptr H.next 0,.ptr (H.next+1) 0,.ptr (H.next+1+1) 0,.ptr (H.next+1+1+1) 0]++List.replicate 90 .und) (by simp[Fg]) (HW.refl _)) (next_tail E (s:=s) (i:=i2) (y:=y) (e0:=0) (o:=true) (l0 := .int .i64 last.1) (l1 := .int .i64 last.2.1) (l2 := .int .i64 last.2.2) (op := .slc ko' opens2.length) (an := .bool any2) (em := .ptr ke 0) (er := .int .i64 ((0:Nat):Int))
       (x0 := .int .i64 x.kind) (x1 := .str x.name) (x2 := .str x.text) (x3 := .lst x.attrs.length (attrsA x.attrs)) (x4 := .int .i64 y.2.1) (x5 := .int .i64 y.2.2) hs hbd.2.1 hpsn2 (by simp[AV.one]) ⟨?_,?_,?_,?_⟩ ?_ hpn fun a Y c2 c3 c4 yn yb yp yo=>?_)
      ·simp only[AHeap.get_set,AHeap.get_allocAt,e1,b1,m1,if_false]
       exact j2P
      ·simp only[AHeap.get_set,m2,if_true,if_false]
      ·rw[AHeap.get_set_ne _ _ (by omega),AHeap.get_set_ne _ _ (by omega),AHeap.get_set_ne _ _ (by omega),AHeap.get_set_ne _ _ (by omega),AHeap.get_set_ne _ _ (by omega),AHeap.get_allocAt_ne _ _ (by omega)]
       exact j2O
      ·rw[AHeap.get_set_ne _ _ (by omega),AHeap.get_set_ne _ _ (by omega),AHeap.get_set_ne _ _ (by omega),AHeap.get_set_ne _ _ (by omega),AHeap.get_set_ne _ _ (by omega),AHeap.get_allocAt_ne _ _ (by omega)]
       exact j2E
      ·rw[AHeap.get_set_ne _ _ (by omega),AHeap.get_set_ne _ _ (by omega),AHeap.get_set_ne _ _ (by omega),AHeap.get_set_ne _ _ (by omega),AHeap.get_set_ne _ _ (by omega),AHeap.get_allocAt_ne _ _ (by omega)]
       exact j2p
      ·obtain⟨yP,yX,yO,yE⟩:=yb
       simp only[AHeap.next_set,AHeap.next_allocAt]at yn
       simp only[deferA]
       refine closure_nil G ?_
       simp (maxSteps:=400000) only[wF,storeA,reduceCtorEq,Nat.reduceAdd,Nat.reduceSub,Nat.reduceEqDiff,Nat.reduceLeDiff,Int.reduceToNat,Int.reduceLE,Int.reduceLT,Int.reduceAdd,Int.reduceNeg,Nat.reduceMul,T21,c2,c3,c4,yX,yO,yE]
       refine⟨_,_,Weak.refl G _ _,by rw[hN];rfl,ko',?_,?_,by omega,fun j g1 g2 g3=>?_⟩
       ·rw[hN]
        refine⟨i2,fun _=>rfl,hpk',⟨.ptr ke 0,yp,hza,ke,rfl,hkp,?_⟩,?_⟩
        ·rw[yo ke hkp k2 k3 k4]
         simp only[AHeap.get_set,if_true,evO]
        rw[yo ko' (Ne.symm hpk') (by omega) (by omega) (by omega),AHeap.get_set_ne _ _ (by omega),AHeap.get_set_ne _ _ (by omega),AHeap.get_set_ne _ _ (by omega),AHeap.get_set_ne _ _ (by omega),AHeap.get_set_ne _ _ (by omega),AHeap.get_allocAt_ne _ _ (by omega),j2o ko' (Ne.symm hpk'),j1o ko' (by omega) (by omega)]
        exact jk
       ·rcases hko with h | h
        ·exact .inl h
        ·exact .inr (by omega)
       ·rw[yo j g2 (by omega) (by omega) (by omega),AHeap.get_set_ne _ _ (by omega),AHeap.get_set_ne _ _ (by omega),AHeap.get_set_ne _ _ (by omega),AHeap.get_set_ne _ _ (by omega),AHeap.get_set_ne _ _ (by omega),AHeap.get_allocAt_ne _ _ (by omega),j2o j g2,j1o j (by omega) (by omega),jf j (by omega) g2 g3]
        exact xo j g1
 ·have de:((e:Int) != 0)=true:=by simp;omega
  have hN:nextS s ⟨⟨pi,opens,any,empty⟩,last,seen,e⟩=((noEv,false,e),⟨⟨pi,opens,any,empty⟩,last,seen,e⟩):=by simp[nextS,he]
  simp (maxSteps:=400000) only[wF,storeA,reduceCtorEq,Nat.reduceAdd,Nat.reduceSub,Nat.reduceEqDiff,Nat.reduceLeDiff,Int.reduceToNat,Int.reduceLE,Int.reduceLT,Int.reduceAdd,Int.reduceNeg,Nat.reduceMul,N21,R21,T21,AV.boxable,eqNeq,a1,a2,a3,a4,b1,b2,b3,b4,b5,b6,hpo,dl,de]
  generalize hX:AHeap.allocAt _ (H.next+1+1+1) _=X
  obtain⟨xn,xP,xX,xO,xE,xo⟩:=boxes X hX
  have xp:=(xo pid hpn).trans hpo
  have xk:=(xo ko hkn).trans hro
  refine drawW_fixed mixedOrders L21_4_eq P21_4_eq ?_
  simp (maxSteps:=400000) only[wF,storeA,reduceCtorEq,Nat.reduceAdd,Nat.reduceSub,Nat.reduceEqDiff,Nat.reduceLeDiff,Int.reduceToNat,Int.reduceLE,Int.reduceLT,Int.reduceAdd,Int.reduceNeg,Nat.reduceMul,L21_4,T21,xP,xX,xO,xE,xp,a1,a2,a3,a4,b1,b2,b3,b4,b5,b6,r1,r2,r3,d1,d2,d3,d4,buildA,fillA,AV.boxable]
  refine⟨by simp;omega,_,_,Weak.evNilE G _ _ _ _ _ _ _ _,by rw[hN];rfl,ko,?_,.inl rfl,by simp only[AHeap.next_set];omega,fun j h1 h2 h3=>?_⟩
  ·rw[hN]
   refine⟨i,hi,hpk,⟨em,?_,?_⟩,?_⟩
   ·simp only[AHeap.get_set,a2,a3,a4,if_false]
    exact xp
   ·revert hem
    unfold EmAt
    cases empty with
    | none=>exact id
    | some z=>
     rintro⟨g1,ke,g2,g3,g4⟩
     have:=wf _ _ g4
     refine⟨g1,ke,g2,g3,?_⟩
     rw[AHeap.get_set_ne _ _ (by omega),AHeap.get_set_ne _ _ (by omega),AHeap.get_set_ne _ _ (by omega),xo ke this]
     exact g4
   ·rw[AHeap.get_set_ne _ _ (by omega),AHeap.get_set_ne _ _ (by omega),AHeap.get_set_ne _ _ (by omega)]
    exact xk
  ·rw[AHeap.get_set_ne _ _ (by omega),AHeap.get_set_ne _ _ (by omega),AHeap.get_set_ne _ _ (by omega)]
   exact xo j h1
end Go.Ab
