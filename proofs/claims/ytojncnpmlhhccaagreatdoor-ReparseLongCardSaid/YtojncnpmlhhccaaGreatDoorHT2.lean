/- tree's builder: other, end, text, walked. -/
import Derived.Test.YtojncnpmlhhccaaGreatDoorHT1
set_option linter.all false
namespace Go.Ab
open Go Go.Lib Go.Proofs
theorem ndsH_at:∀(l:List Nd) (i:Nat) (h:i<l.length),((ndsH l).drop (i*4)).take 4=ndH l[i]
 | [],i,h=>by simp at h
 | a::l,0,_=>rfl
 | a::l,i+1,h=>by
  have:=ndsH_at l i (by simpa using h)
  have e:(i+1)*4=i*4+1+1+1+1:=by omega
  simp only[ndsH,List.flatMap_cons,e,ndH,List.cons_append,List.nil_append,List.drop_succ_cons,List.getElem_cons_succ]at this ⊢
  exact this
theorem ndsH_get (l:List Nd) (i k:Nat) (h:i<l.length) (hk:k<4):(ndsH l)[i*4+k]?=(ndH l[i])[k]?:=by
 have:=ndsH_at l i h
 rw[←this,List.getElem?_take,if_pos hk,List.getElem?_drop]
set_option maxHeartbeats 4000000 in
set_option maxRecDepth 100000 in
theorem t_other4_ok {G:Nat→Option (List AV)} (E:Env G) (X:EnvH G) (T:EnvT G) {H:AHeap} {bid kl:Nat} {t:TSt} (hb:BAt H bid kl t) {text:List UInt8} (hl:t.l.length≤65536) (hby:t.bytes≤1048576) (ht:text.length≤1000000000) :
  ACalls Tryz.prog G 46 [.ptr bid 0,.int .i64 4,.str [],.str text] H (BPost H bid kl (otherT t 4 [] text)):=by
 refine ACalls.of Tryz.func46 S46_eq R46 N46 rfl rfl ?_
 simp (maxSteps:=400000) only[wF,storeA,reduceCtorEq,Nat.reduceAdd,Nat.reduceSub,Nat.reduceEqDiff,Nat.reduceLeDiff,Int.reduceToNat,Int.reduceLE,Int.reduceLT,Int.reduceAdd,Int.reduceNeg,Nat.reduceMul,S46,N46,R46]
 refine AInv.pureK B56 (t_allowed4_ok E X T ht) fun H1 h1=>?_
 obtain⟨b1,k1⟩:=hb.keep h1.kept
 unfold otherT
 cases ha:allowedS 4 [] text with
 | false=>
  simp (maxSteps:=400000) only[wF,storeA,reduceCtorEq,Nat.reduceAdd,Nat.reduceSub,Nat.reduceEqDiff,Nat.reduceLeDiff,Int.reduceToNat,Int.reduceLE,Int.reduceLT,Int.reduceAdd,Int.reduceNeg,Nat.reduceMul,Bool.not_false]
  exact⟨rfl,k1.1,k1.2.2⟩
 | true=>
  rw[if_neg (by simp)]
  simp (maxSteps:=400000) only[wF,storeA,reduceCtorEq,Nat.reduceAdd,Nat.reduceSub,Nat.reduceEqDiff,Nat.reduceLeDiff,Int.reduceToNat,Int.reduceLE,Int.reduceLT,Int.reduceAdd,Int.reduceNeg,Nat.reduceMul,Bool.not_true]
  refine AInv.call B79 (t_add_ok G b1 (kind:=4) hl hby ht) fun r H2 h2=>?_
  cases ho:t.add 4 [] text with
  | error e=>
   rw[ho]at h2
   obtain⟨rfl,n2,f2⟩:=h2
   simp (maxSteps:=400000) only[wF,storeA,reduceCtorEq,Nat.reduceAdd,Nat.reduceSub,Nat.reduceEqDiff,Nat.reduceLeDiff,Int.reduceToNat,Int.reduceLE,Int.reduceLT,Int.reduceAdd,Int.reduceNeg,Nat.reduceMul,]
   exact⟨rfl,by have:=k1.1;omega,fun j j1 j2 j3=>by rw[f2 j (by have:=k1.1;omega) j2 j3];exact k1.2.2 j j1 j2 j3⟩
  | ok t'=>
   rw[ho]at h2
   obtain⟨rfl,kl',b2,k2⟩:=h2
   simp (maxSteps:=400000) only[wF,storeA,reduceCtorEq,Nat.reduceAdd,Nat.reduceSub,Nat.reduceEqDiff,Nat.reduceLeDiff,Int.reduceToNat,Int.reduceLE,Int.reduceLT,Int.reduceAdd,Int.reduceNeg,Nat.reduceMul,]
   exact⟨rfl,kl',b2,k1.trans k2⟩
set_option maxHeartbeats 4000000 in
set_option maxRecDepth 100000 in
theorem t_other5_ok {G:Nat→Option (List AV)} (E:Env G) (X:EnvH G) (T:EnvT G) {H:AHeap} {bid kl:Nat} {t:TSt} (hb:BAt H bid kl t) {name text:List UInt8} (hl:t.l.length≤65536) (hby:t.bytes≤1048576) (hn:name.length≤1000000000) (ht:text.length≤1000000000) :
  ACalls Tryz.prog G 46 [.ptr bid 0,.int .i64 5,.str name,.str text] H (BPost H bid kl (otherT t 5 name text)):=by
 refine ACalls.of Tryz.func46 S46_eq R46 N46 rfl rfl ?_
 simp (maxSteps:=400000) only[wF,storeA,reduceCtorEq,Nat.reduceAdd,Nat.reduceSub,Nat.reduceEqDiff,Nat.reduceLeDiff,Int.reduceToNat,Int.reduceLE,Int.reduceLT,Int.reduceAdd,Int.reduceNeg,Nat.reduceMul,S46,N46,R46]
 refine AInv.pureK B56 (t_allowed5_ok E X T hn ht) fun H1 h1=>?_
 obtain⟨b1,k1⟩:=hb.keep h1.kept
 unfold otherT
 cases ha:allowedS 5 name text with
 | false=>
  simp (maxSteps:=400000) only[wF,storeA,reduceCtorEq,Nat.reduceAdd,Nat.reduceSub,Nat.reduceEqDiff,Nat.reduceLeDiff,Int.reduceToNat,Int.reduceLE,Int.reduceLT,Int.reduceAdd,Int.reduceNeg,Nat.reduceMul,Bool.not_false]
  exact⟨rfl,k1.1,k1.2.2⟩
 | true=>
  rw[if_neg (by simp)]
  simp (maxSteps:=400000) only[wF,storeA,reduceCtorEq,Nat.reduceAdd,Nat.reduceSub,Nat.reduceEqDiff,Nat.reduceLeDiff,Int.reduceToNat,Int.reduceLE,Int.reduceLT,Int.reduceAdd,Int.reduceNeg,Nat.reduceMul,Bool.not_true]
  refine AInv.call B79 (t_add_ok G b1 (kind:=5) hl hby ht) fun r H2 h2=>?_
  cases ho:t.add 5 name text with
  | error e=>
   rw[ho]at h2
   obtain⟨rfl,n2,f2⟩:=h2
   simp (maxSteps:=400000) only[wF,storeA,reduceCtorEq,Nat.reduceAdd,Nat.reduceSub,Nat.reduceEqDiff,Nat.reduceLeDiff,Int.reduceToNat,Int.reduceLE,Int.reduceLT,Int.reduceAdd,Int.reduceNeg,Nat.reduceMul,]
   exact⟨rfl,by have:=k1.1;omega,fun j j1 j2 j3=>by rw[f2 j (by have:=k1.1;omega) j2 j3];exact k1.2.2 j j1 j2 j3⟩
  | ok t'=>
   rw[ho]at h2
   obtain⟨rfl,kl',b2,k2⟩:=h2
   simp (maxSteps:=400000) only[wF,storeA,reduceCtorEq,Nat.reduceAdd,Nat.reduceSub,Nat.reduceEqDiff,Nat.reduceLeDiff,Int.reduceToNat,Int.reduceLE,Int.reduceLT,Int.reduceAdd,Int.reduceNeg,Nat.reduceMul,]
   exact⟨rfl,kl',b2,k1.trans k2⟩
set_option maxHeartbeats 4000000 in
set_option maxRecDepth 100000 in
theorem t_end_ok {G:Nat→Option (List AV)} (E:Env G) {H:AHeap} {bid kl:Nat} {t:TSt} (hb:BAt H bid kl t) (hok:TOk t) {x:Ev} (hx:EvB 10000000 x) (hd : -100000000≤t.deep∧t.deep≤100000000) :
  ACalls Tryz.prog G 44 [.ptr bid 0,.agg (evH x)] H (BPost H bid kl (endT t x)):=by
 refine ACalls.of Tryz.func44 S44_eq R44 N44 rfl rfl ?_
 obtain⟨a1,a2,a3,a4,a5⟩:=hb
 have hlt:=hok.op
 have hc:t.l[t.op]=t.cur:=by
  have:=hok.curE
  rw[List.getElem?_eq_getElem hlt]at this
  exact Option.some.inj this
 have hat:=ndsH_at t.l t.op hlt
 rw[hc]at hat
 have hle:(t.op*4+4≤(ndsH t.l).length)=True:=by rw[ndsH_len];simp;omega
 have q0:((0:Int)≤(t.op:Int))=True:=by simp
 have q1:((t.op:Int)<(t.l.length:Int))=True:=by simp;omega
 have u1:(bid=H.next)=False:=by simp;omega
 have u2:(kl=H.next)=False:=by simp;omega
 simp (maxSteps:=400000) only[wF,storeA,reduceCtorEq,Nat.reduceAdd,Nat.reduceSub,Nat.reduceEqDiff,Nat.reduceLeDiff,Int.reduceToNat,Int.reduceLE,Int.reduceLT,Int.reduceAdd,Int.reduceNeg,Nat.reduceMul,S44,N44,R44,T44,AV.boxable,evH]
 refine drawW_fixed mixedOrders L44_1_eq P44_1_eq ?_
 have g1:(H.next+1=H.next)=False:=by simp
 have g2:(H.next=H.next+1)=False:=by simp
 have v1:(bid=H.next+1)=False:=by simp;omega
 have v2:(kl=H.next+1)=False:=by simp;omega
 simp (maxSteps:=400000) only[wF,storeA,reduceCtorEq,Nat.reduceAdd,Nat.reduceSub,Nat.reduceEqDiff,Nat.reduceLeDiff,Int.reduceToNat,Int.reduceLE,Int.reduceLT,Int.reduceAdd,Int.reduceNeg,Nat.reduceMul,L44_1,T44,a1,a2,u1,u2,v1,v2,g1,g2,indexAddrA,hat,hle,q0,q1,ndH,AV.boxable]
 refine⟨by simp;omega,?_⟩
 generalize hX0:AHeap.set _ (H.next+1) _=X
 have x0:X.get H.next=some (.cells 88 [.int .i64 x.kind,.str x.name,.str x.text,atH x.attrs,.int .i64 x.line,.int .i64 x.col]):=by rw[←hX0,AHeap.get_set_ne _ _ (by omega),AHeap.get_allocAt_ne _ _ (by omega),AHeap.get_allocAt_same]
 have x1:X.get (H.next+1)=some (.cells 36 [.int .i64 t.cur.kind,.str t.cur.name,.str t.cur.text,.int .i64 t.cur.up]):=by rw[←hX0,AHeap.get_set_same]
 have xn:X.next=H.next+2:=by rw[←hX0];simp only[AHeap.next_set,AHeap.next_allocAt];omega
 have xo:∀j,j<H.next→X.get j=H.get j:=fun j hj=>by rw[←hX0,AHeap.get_set_ne _ _ (by omega),AHeap.get_allocAt_ne _ _ (by omega),AHeap.get_allocAt_ne _ _ (by omega)]
 clear hX0
 refine AInv.pureK B80 (isName_ok E (by have:=hx.1;omega)) fun H1 h1=>?_
 have p1:=h1.1
 have y0:=(congrFun h1.2 _).trans x0
 have y1:=(congrFun h1.2 _).trans x1
 have yb:=(congrFun h1.2 _).trans ((xo _ a4).trans a1)
 have yk:=(congrFun h1.2 _).trans ((xo _ a5).trans a2)
 have yo:∀j,j<H.next→H1.get j=H.get j:=fun j hj=>(congrFun h1.2 _).trans (xo j hj)
 unfold endT
 cases hN:isNameS x.name with
 | false=>
  simp (maxSteps:=400000) only[wF,storeA,reduceCtorEq,Nat.reduceAdd,Nat.reduceSub,Nat.reduceEqDiff,Nat.reduceLeDiff,Int.reduceToNat,Int.reduceLE,Int.reduceLT,Int.reduceAdd,Int.reduceNeg,Nat.reduceMul,Bool.not_false,T44]
  exact⟨rfl,by omega,fun j j1 _ _=>yo j j1⟩
 | true=>
 rw[if_neg (by simp)]
 by_cases hk:t.cur.kind=1
 case neg=>
  have b1:((t.cur.kind:Int) != 1)=true:=by simp;omega
  rw[if_pos (.inl hk)]
  simp (maxSteps:=400000) only[wF,storeA,reduceCtorEq,Nat.reduceAdd,Nat.reduceSub,Nat.reduceEqDiff,Nat.reduceLeDiff,Int.reduceToNat,Int.reduceLE,Int.reduceLT,Int.reduceAdd,Int.reduceNeg,Nat.reduceMul,Bool.not_true,T44,y0,y1,b1]
  exact⟨rfl,by omega,fun j j1 _ _=>yo j j1⟩
 have b1:((t.cur.kind:Int) != 1)=false:=by simp;omega
 by_cases hn:t.cur.name=x.name
 case neg=>
  have b2:(t.cur.name==x.name)=false:=by simp[hn]
  rw[if_pos (.inr hn)]
  simp (maxSteps:=400000) only[wF,storeA,reduceCtorEq,Nat.reduceAdd,Nat.reduceSub,Nat.reduceEqDiff,Nat.reduceLeDiff,Int.reduceToNat,Int.reduceLE,Int.reduceLT,Int.reduceAdd,Int.reduceNeg,Nat.reduceMul,Bool.not_true,T44,y0,y1,b1,b2,eqNeq,Bool.not_false]
  exact⟨rfl,by omega,fun j j1 _ _=>yo j j1⟩
 have b2:(t.cur.name==x.name)=true:=by simp[hn]
 have hup:=hok.up _ _ hok.curE hk
 have ed:IntKind.i64.wrap (t.deep-1)=t.deep-1:=by rw[wrap64]<;>omega
 rw[if_neg (by rintro(h | h);exact h hk;exact h hn)]
 have w1:(H.next+1=bid)=False:=by simp;omega
 simp (maxSteps:=400000) only[wF,storeA,reduceCtorEq,Nat.reduceAdd,Nat.reduceSub,Nat.reduceEqDiff,Nat.reduceLeDiff,Int.reduceToNat,Int.reduceLE,Int.reduceLT,Int.reduceAdd,Int.reduceNeg,Nat.reduceMul,Bool.not_true,T44,y0,y1,yb,b1,b2,eqNeq,ed,w1,h_set_set]
 refine⟨rfl,kl,⟨?_,?_,a3,?_,?_⟩,?_,.inl rfl,fun j j1 j2 j3=>?_⟩
 ·rw[AHeap.get_set_same,show t.cur.up=((t.cur.up.toNat:Nat):Int) by omega];rfl
 ·rw[AHeap.get_set_ne _ _ (by omega)];exact yk
 ·simp only[AHeap.next_set];omega
 ·simp only[AHeap.next_set];omega
 ·simp only[AHeap.next_set];omega
 ·rw[AHeap.get_set_ne _ _ j2];exact yo j j1
end Go.Ab
