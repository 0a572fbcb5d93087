/- What takes up the reader's panics, walked. -/
import Derived.Test.YtebgjmoihhbjjaaGreatDoorW17
set_option linter.all false
namespace Go.Ab
open Go Go.Lib Go.Proofs
def BoxAt (H:AHeap) (bp bx bo be pid:Nat) (x:List AV) (o:Bool) (e:Int):Prop:=
 H.get bp=some (.cells 29 [.ptr pid 0])∧H.get bx=some (.cells 39 x)∧H.get bo=some (.cells 4 [.bool o])∧H.get be=some (.cells 24 [.int .i64 e])
set_option maxRecDepth 100000 in
theorem closure_ok {G:Nat→Option (List AV)} (E:Env G) {H:AHeap} {bp bx bo be pid ko:Nat} {s:List UInt8} {i l0 l1 l2:AV} {y:Pos} {an em er:AV} {o:Bool} {e:Int} {x0 x1 x2 x3 x4 x5:AV} {n:Nat} {w:Wrong} {K:AHeap→Prop}
  (hb:BoxAt H bp bx bo be pid [x0,x1,x2,x3,x4,x5] o e) (hp:H.get pid=some (parserO s i l0 l1 l2 y.1 y.2.1 y.2.2 (.slc ko n) an em er)) (hw:w.at_≤s.length) (hs:s.length≤400000000) (hy:PosOk s y)
  (d1:bp≠bx) (d2:bp≠bo) (d3:bp≠be) (d4:bx≠bo) (d5:bx≠be) (d6:bo≠be) (d7:pid≠bp) (d8:pid≠bx) (d9:pid≠bo) (d10:pid≠be) (n0:pid<H.next) (n1:bp<H.next) (n2:bx<H.next) (n3:bo<H.next) (n4:be<H.next)
  (hK:∀H',H.next≤H'.next→H'.get pid=some (.cells 54 [.str s,i,.int .i64 (findS s w.at_ y).1,.int .i64 (findS s w.at_ y).2.1,.int .i64 (findS s w.at_ y).2.2,.int .i64 (findS s w.at_ y).1,.int .i64 (findS s w.at_ y).2.1,.int .i64 (findS s w.at_ y).2.2,.slc ko n,an,em,.int .i64 w.e]) →
   BoxAt H' bp bx bo be pid [.int .i64 0,.str [],.str [],.nils,.int .i64 0,.int .i64 0] false w.e→(∀j,j<H.next→j≠pid→j≠bx→j≠bo→j≠be→H'.get j=H.get j)→K H') :
  DCalls Tryz.prog G 33 [.ptr bp 0,.ptr bx 0,.ptr bo 0,.ptr be 0] H (some (wrongA w)) K:=by
 obtain⟨h1,h2,h3,h4⟩:=hb
 refine DCalls.of Tryz.func33 S33_eq N33 rfl rfl ?_
 have hpU:=hp
 unfold parserO at hpU
 have g1:(bp=H.next)=False:=by simp;omega
 have g2:(bx=H.next)=False:=by simp;omega
 have g3:(bo=H.next)=False:=by simp;omega
 have g4:(be=H.next)=False:=by simp;omega
 have g5:(pid=H.next)=False:=by simp;omega
 simp (maxSteps:=400000) only[wF,storeA,reduceCtorEq,Nat.reduceAdd,Nat.reduceSub,Nat.reduceEqDiff,Nat.reduceLeDiff,Int.reduceToNat,Int.reduceLE,Int.reduceLT,Int.reduceAdd,Int.reduceNeg,Nat.reduceMul,N33,R33,T33,pvA,wrongA,assertA,eqNeq,AV.isConst,Bool.or_true]
 generalize hX:(H.allocAt H.next _).set H.next _=X
 have xn:X.next=H.next+1:=by rw[←hX];simp only[AHeap.next_set,AHeap.next_allocAt];omega
 have xw:X.get H.next=some (.cells 78 [.int .i64 w.at_,.int .i64 w.e]):=by rw[←hX,AHeap.get_set_same]
 have xo:∀j,j<H.next→X.get j=H.get j:=fun j hj=>by rw[←hX,AHeap.get_set_ne _ _ (by omega),AHeap.get_allocAt_ne _ _ (by omega)]
 have xp:=(xo pid n0).trans hp
 have x1':=(xo bp n1).trans h1
 have x2':=(xo bx n2).trans h2
 have x3':=(xo bo n3).trans h3
 have x4':=(xo be n4).trans h4
 have q1:(bp=pid)=False:=by simp;omega
 have q2:(bx=pid)=False:=by simp;omega
 have q3:(bo=pid)=False:=by simp;omega
 have q4:(be=pid)=False:=by simp;omega
 have q5:(H.next=pid)=False:=by simp;omega
 refine drawW_ok (ex:=false) mixedOrders L33_5_eq P33_5_eq ?_
 simp (maxSteps:=400000) only[wF,storeA,reduceCtorEq,Nat.reduceAdd,Nat.reduceSub,Nat.reduceEqDiff,Nat.reduceLeDiff,Int.reduceToNat,Int.reduceLE,Int.reduceLT,Int.reduceAdd,Int.reduceNeg,Nat.reduceMul,L33_5,T33,x1',xw]
 refine⟨rfl,[pid],[pid],_,_,find_LCalls E xp hw (by omega) hy,?_⟩
 have xpU:=xp
 unfold parserO
 simp (maxSteps:=400000) only[wF,storeA,reduceCtorEq,Nat.reduceAdd,Nat.reduceSub,Nat.reduceEqDiff,Nat.reduceLeDiff,Int.reduceToNat,Int.reduceLE,Int.reduceLT,Int.reduceAdd,Int.reduceNeg,Nat.reduceMul,T33,x1',xw,q1,q5,posA]
 refine⟨by simp;omega,fun m hm=>?_⟩
 generalize hY:(⟨m,_⟩:AHeap)=Y
 have yn:Y.next=m:=by rw[←hY]
 have yp:Y.get pid=some (.cells 54 [.str s,i,.int .i64 (findS s w.at_ y).1,.int .i64 (findS s w.at_ y).2.1,.int .i64 (findS s w.at_ y).2.2,.int .i64 (findS s w.at_ y).1,.int .i64 (findS s w.at_ y).2.1,.int .i64 (findS s w.at_ y).2.2,.slc ko n,an,em,.int .i64 w.e]):=by
  rw[←hY]
  simp only[AHeap.get_set_same]
 have yo:∀j,j≠pid→Y.get j=X.get j:=fun j hj=>by
  rw[←hY]
  simp only[AHeap.get_set,hj,if_false]
 have y1:=(yo bp (by omega)).trans x1'
 have y2:=(yo bx (by omega)).trans x2'
 have y3:=(yo bo (by omega)).trans x3'
 have y4:=(yo be (by omega)).trans x4'
 have y5:=(yo H.next (by omega)).trans xw
 have r1:(bo=bx)=False:=by simp;omega
 have r2:(be=bx)=False:=by simp;omega
 have r3:(be=bo)=False:=by simp;omega
 have r4:(H.next=bx)=False:=by simp;omega
 have r5:(H.next=bo)=False:=by simp;omega
 refine drawW_fixed mixedOrders L33_6_eq P33_6_eq ?_
 simp (maxSteps:=400000) only[wF,storeA,reduceCtorEq,Nat.reduceAdd,Nat.reduceSub,Nat.reduceEqDiff,Nat.reduceLeDiff,Int.reduceToNat,Int.reduceLE,Int.reduceLT,Int.reduceAdd,Int.reduceNeg,Nat.reduceMul,L33_6,T33,y2,y3,y4,y5,r1,r2,r3,r4,r5,buildA,fillA,AV.boxable,endA]
 refine⟨by simp;omega,hK _ (by simp only[AHeap.next_set];omega) ?_ ⟨?_,?_,?_,?_⟩ fun j k1 k2 k3 k4 k5=>?_⟩
 ·rw[AHeap.get_set_ne _ _ (by omega),AHeap.get_set_ne _ _ (by omega),AHeap.get_set_ne _ _ (by omega)]
  exact yp
 ·rw[AHeap.get_set_ne _ _ (by omega),AHeap.get_set_ne _ _ (by omega),AHeap.get_set_ne _ _ (by omega)]
  exact y1
 ·rw[AHeap.get_set_ne _ _ (by omega),AHeap.get_set_ne _ _ (by omega),AHeap.get_set_same]
 ·rw[AHeap.get_set_ne _ _ (by omega),AHeap.get_set_same]
 ·rw[AHeap.get_set_same]
 ·rw[AHeap.get_set_ne _ _ k5,AHeap.get_set_ne _ _ k4,AHeap.get_set_ne _ _ k3,yo j k2,xo j k1]
theorem closure_nil (G:Nat→Option (List AV)) {H:AHeap} {bp bx bo be:Nat} {K:AHeap→Prop} (hK:K H) :
  DCalls Tryz.prog G 33 [.ptr bp 0,.ptr bx 0,.ptr bo 0,.ptr be 0] H none K:=by
 refine DCalls.of Tryz.func33 S33_eq N33 rfl rfl ?_
 simp (maxSteps:=400000) only[wF,storeA,reduceCtorEq,Nat.reduceAdd,Nat.reduceSub,Nat.reduceEqDiff,Nat.reduceLeDiff,Int.reduceToNat,Int.reduceLE,Int.reduceLT,Int.reduceAdd,Int.reduceNeg,Nat.reduceMul,N33,R33,T33,pvA,eqNeq,AV.isConst,Bool.or_true,endA]
 exact hK
end Go.Ab
