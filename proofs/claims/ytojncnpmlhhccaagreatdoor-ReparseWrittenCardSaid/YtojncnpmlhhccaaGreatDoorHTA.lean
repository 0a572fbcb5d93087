/- tree's allowed and the builder's add, walked. tree's builder: other, end, text, walked. tree's builder: text, walked. tree's builder: start, walked. -/
import Derived.Test.YtojncnpmlhhccaaGreatDoorHWC
set_option linter.all false
namespace Go.Ab
open Go Go.Lib Go.Proofs
structure EnvT (G:Nat→Option (List AV)):Prop where
 suf:∀s p,s.length≤1000000000→PureCall Tryz.prog G 88 [.str s,.str p] (.bool (Lib.hasSuffix s p))
 sufB:bodyT Tryz.prog 88=true
 low:∀s,s.length≤1000000000→PureCall Tryz.prog G 89 [.str s] (.str (Lib.toLowerD s))
 lowB:bodyT Tryz.prog 89=true
 any:∀s,s.length≤1→PureCall Tryz.prog G 85 [.str s,.str [32,9,13,10]] (.bool (Lib.containsAny s [32,9,13,10]))
 anyB:bodyT Tryz.prog 85=true
theorem t_allowed1_ok {G:Nat→Option (List AV)} (E:Env G) {name text:List UInt8} (hn:name.length≤1000000000) (ht:text.length≤1000000000):PureCall Tryz.prog G 56 [.int .i64 1,.str name,.str text] (.bool (allowedS 1 name text)):=by
 intro H
 refine ACalls.keep (ACalls.of Tryz.func56 S56_eq R56 N56 rfl rfl ?_)
 have z0:((1:Int)==0)=false:=rfl
 have z1:((1:Int)==1)=true:=rfl
 simp (maxSteps:=400000) only[wF,storeA,reduceCtorEq,Nat.reduceAdd,Nat.reduceSub,Nat.reduceEqDiff,Nat.reduceLeDiff,Int.reduceToNat,Int.reduceLE,Int.reduceLT,Int.reduceAdd,Int.reduceNeg,Nat.reduceMul,S56,N56,R56]
 refine AInv.pureK B23 (isText_ok E ht) fun H1 h1=>?_
 unfold allowedS
 cases hT:isTextS text with
 | false=>
  simp (maxSteps:=400000) only[wF,storeA,reduceCtorEq,Nat.reduceAdd,Nat.reduceSub,Nat.reduceEqDiff,Nat.reduceLeDiff,Int.reduceToNat,Int.reduceLE,Int.reduceLT,Int.reduceAdd,Int.reduceNeg,Nat.reduceMul,Bool.not_false]
  exact⟨by simp,h1.post⟩
 | true=>
  simp (maxSteps:=400000) only[wF,storeA,reduceCtorEq,Nat.reduceAdd,Nat.reduceSub,Nat.reduceEqDiff,Nat.reduceLeDiff,Int.reduceToNat,Int.reduceLE,Int.reduceLT,Int.reduceAdd,Int.reduceNeg,Nat.reduceMul,Bool.not_true,z0,z1]
  refine AInv.pureK B80 (isName_ok E hn) fun H2 h2=>?_
  cases hN:isNameS name with
  | false=>
   simp (maxSteps:=400000) only[wF,storeA,reduceCtorEq,Nat.reduceAdd,Nat.reduceSub,Nat.reduceEqDiff,Nat.reduceLeDiff,Int.reduceToNat,Int.reduceLE,Int.reduceLT,Int.reduceAdd,Int.reduceNeg,Nat.reduceMul,]
   first | exact⟨by simp,(h1.trans h2).post⟩ | exact(h1.trans h2).post
  | true=>
   simp (maxSteps:=400000) only[wF,storeA,reduceCtorEq,Nat.reduceAdd,Nat.reduceSub,Nat.reduceEqDiff,Nat.reduceLeDiff,Int.reduceToNat,Int.reduceLE,Int.reduceLT,Int.reduceAdd,Int.reduceNeg,Nat.reduceMul,]
   first | exact⟨by simp,(h1.trans h2).post⟩ | exact(h1.trans h2).post
theorem t_allowed2_ok {G:Nat→Option (List AV)} (E:Env G) {name text:List UInt8} (hn:name.length≤1000000000) (ht:text.length≤1000000000):PureCall Tryz.prog G 56 [.int .i64 2,.str name,.str text] (.bool (allowedS 2 name text)):=by
 intro H
 refine ACalls.keep (ACalls.of Tryz.func56 S56_eq R56 N56 rfl rfl ?_)
 have z0:((2:Int)==0)=false:=rfl
 have z1:((2:Int)==1)=false:=rfl
 have z2:((2:Int)==2)=true:=rfl
 simp (maxSteps:=400000) only[wF,storeA,reduceCtorEq,Nat.reduceAdd,Nat.reduceSub,Nat.reduceEqDiff,Nat.reduceLeDiff,Int.reduceToNat,Int.reduceLE,Int.reduceLT,Int.reduceAdd,Int.reduceNeg,Nat.reduceMul,S56,N56,R56]
 refine AInv.pureK B23 (isText_ok E ht) fun H1 h1=>?_
 unfold allowedS
 cases hT:isTextS text with
 | false=>
  simp (maxSteps:=400000) only[wF,storeA,reduceCtorEq,Nat.reduceAdd,Nat.reduceSub,Nat.reduceEqDiff,Nat.reduceLeDiff,Int.reduceToNat,Int.reduceLE,Int.reduceLT,Int.reduceAdd,Int.reduceNeg,Nat.reduceMul,Bool.not_false]
  exact⟨by simp,h1.post⟩
 | true=>
  simp (maxSteps:=400000) only[wF,storeA,reduceCtorEq,Nat.reduceAdd,Nat.reduceSub,Nat.reduceEqDiff,Nat.reduceLeDiff,Int.reduceToNat,Int.reduceLE,Int.reduceLT,Int.reduceAdd,Int.reduceNeg,Nat.reduceMul,Bool.not_true,z0,z1,z2]
  refine AInv.pureK B80 (isName_ok E hn) fun H2 h2=>?_
  simp (maxSteps:=400000) only[wF,storeA,reduceCtorEq,Nat.reduceAdd,Nat.reduceSub,Nat.reduceEqDiff,Nat.reduceLeDiff,Int.reduceToNat,Int.reduceLE,Int.reduceLT,Int.reduceAdd,Int.reduceNeg,Nat.reduceMul,]
  first | exact⟨by simp,(h1.trans h2).post⟩ | exact(h1.trans h2).post
theorem t_allowed4_ok {G:Nat→Option (List AV)} (E:Env G) (X:EnvH G) (T:EnvT G) {text:List UInt8} (ht:text.length≤1000000000):PureCall Tryz.prog G 56 [.int .i64 4,.str [],.str text] (.bool (allowedS 4 [] text)):=by
 intro H
 refine ACalls.keep (ACalls.of Tryz.func56 S56_eq R56 N56 rfl rfl ?_)
 have z0:((4:Int)==0)=false:=rfl
 have z1:((4:Int)==1)=false:=rfl
 have z2:((4:Int)==2)=false:=rfl
 have z3:((4:Int)==3)=false:=rfl
 have z4:((4:Int)==4)=true:=rfl
 have ze:(([]:List UInt8)==[])=true:=rfl
 simp (maxSteps:=400000) only[wF,storeA,reduceCtorEq,Nat.reduceAdd,Nat.reduceSub,Nat.reduceEqDiff,Nat.reduceLeDiff,Int.reduceToNat,Int.reduceLE,Int.reduceLT,Int.reduceAdd,Int.reduceNeg,Nat.reduceMul,S56,N56,R56]
 refine AInv.pureK B23 (isText_ok E ht) fun H1 h1=>?_
 unfold allowedS
 cases hT:isTextS text with
 | false=>
  simp (maxSteps:=400000) only[wF,storeA,reduceCtorEq,Nat.reduceAdd,Nat.reduceSub,Nat.reduceEqDiff,Nat.reduceLeDiff,Int.reduceToNat,Int.reduceLE,Int.reduceLT,Int.reduceAdd,Int.reduceNeg,Nat.reduceMul,Bool.not_false]
  exact⟨by simp,h1.post⟩
 | true=>
  simp (maxSteps:=400000) only[wF,storeA,reduceCtorEq,Nat.reduceAdd,Nat.reduceSub,Nat.reduceEqDiff,Nat.reduceLeDiff,Int.reduceToNat,Int.reduceLE,Int.reduceLT,Int.reduceAdd,Int.reduceNeg,Nat.reduceMul,Bool.not_true,z0,z1,z2,z3,z4,ze]
  refine AInv.pureK X.hasB (X.has _ _ ht) fun H2 h2=>?_
  cases hC:Lib.contains text [45,45]with
  | true=>
   simp (maxSteps:=400000) only[wF,storeA,reduceCtorEq,Nat.reduceAdd,Nat.reduceSub,Nat.reduceEqDiff,Nat.reduceLeDiff,Int.reduceToNat,Int.reduceLE,Int.reduceLT,Int.reduceAdd,Int.reduceNeg,Nat.reduceMul,Bool.not_true]
   exact⟨by simp[sDash,hC],(h1.trans h2).post⟩
  | false=>
   simp (maxSteps:=400000) only[wF,storeA,reduceCtorEq,Nat.reduceAdd,Nat.reduceSub,Nat.reduceEqDiff,Nat.reduceLeDiff,Int.reduceToNat,Int.reduceLE,Int.reduceLT,Int.reduceAdd,Int.reduceNeg,Nat.reduceMul,Bool.not_false]
   refine AInv.pureK T.sufB (T.suf _ _ ht) fun H3 h3=>?_
   simp (maxSteps:=400000) only[wF,storeA,reduceCtorEq,Nat.reduceAdd,Nat.reduceSub,Nat.reduceEqDiff,Nat.reduceLeDiff,Int.reduceToNat,Int.reduceLE,Int.reduceLT,Int.reduceAdd,Int.reduceNeg,Nat.reduceMul,]
   exact⟨by simp[sDash,hC],((h1.trans h2).trans h3).post⟩
theorem t_allowed5_ok {G:Nat→Option (List AV)} (E:Env G) (X:EnvH G) (T:EnvT G) {name text:List UInt8} (hn:name.length≤1000000000) (ht:text.length≤1000000000):PureCall Tryz.prog G 56 [.int .i64 5,.str name,.str text] (.bool (allowedS 5 name text)):=by
 intro H
 refine ACalls.keep (ACalls.of Tryz.func56 S56_eq R56 N56 rfl rfl ?_)
 have z0:((5:Int)==0)=false:=rfl
 have z1:((5:Int)==1)=false:=rfl
 have z2:((5:Int)==2)=false:=rfl
 have z3:((5:Int)==3)=false:=rfl
 have z4:((5:Int)==4)=false:=rfl
 have z5:((5:Int)==5)=true:=rfl
 simp (maxSteps:=400000) only[wF,storeA,reduceCtorEq,Nat.reduceAdd,Nat.reduceSub,Nat.reduceEqDiff,Nat.reduceLeDiff,Int.reduceToNat,Int.reduceLE,Int.reduceLT,Int.reduceAdd,Int.reduceNeg,Nat.reduceMul,S56,N56,R56]
 refine AInv.pureK B23 (isText_ok E ht) fun H1 h1=>?_
 unfold allowedS
 cases hT:isTextS text with
 | false=>
  simp (maxSteps:=400000) only[wF,storeA,reduceCtorEq,Nat.reduceAdd,Nat.reduceSub,Nat.reduceEqDiff,Nat.reduceLeDiff,Int.reduceToNat,Int.reduceLE,Int.reduceLT,Int.reduceAdd,Int.reduceNeg,Nat.reduceMul,Bool.not_false]
  exact⟨by simp,h1.post⟩
 | true=>
  simp (maxSteps:=400000) only[wF,storeA,reduceCtorEq,Nat.reduceAdd,Nat.reduceSub,Nat.reduceEqDiff,Nat.reduceLeDiff,Int.reduceToNat,Int.reduceLE,Int.reduceLT,Int.reduceAdd,Int.reduceNeg,Nat.reduceMul,Bool.not_true,z0,z1,z2,z3,z4,z5]
  refine AInv.pureK B80 (isName_ok E hn) fun H2 h2=>?_
  cases hN:isNameS name with
  | false=>
   simp (maxSteps:=400000) only[wF,storeA,reduceCtorEq,Nat.reduceAdd,Nat.reduceSub,Nat.reduceEqDiff,Nat.reduceLeDiff,Int.reduceToNat,Int.reduceLE,Int.reduceLT,Int.reduceAdd,Int.reduceNeg,Nat.reduceMul,]
   first | exact⟨by simp,(h1.trans h2).post⟩ | exact(h1.trans h2).post
  | true=>
   simp (maxSteps:=400000) only[wF,storeA,reduceCtorEq,Nat.reduceAdd,Nat.reduceSub,Nat.reduceEqDiff,Nat.reduceLeDiff,Int.reduceToNat,Int.reduceLE,Int.reduceLT,Int.reduceAdd,Int.reduceNeg,Nat.reduceMul,]
   refine AInv.pureK T.lowB (T.low _ hn) fun H3 h3=>?_
   cases hL:(Lib.toLowerD name==[120,109,108])with
   | true=>
    simp (maxSteps:=400000) only[wF,storeA,reduceCtorEq,Nat.reduceAdd,Nat.reduceSub,Nat.reduceEqDiff,Nat.reduceLeDiff,Int.reduceToNat,Int.reduceLE,Int.reduceLT,Int.reduceAdd,Int.reduceNeg,Nat.reduceMul,hL,Bool.not_true]
    exact⟨by simp only[bne,hL];simp,((h1.trans h2).trans h3).post⟩
   | false=>
    simp (maxSteps:=400000) only[wF,storeA,reduceCtorEq,Nat.reduceAdd,Nat.reduceSub,Nat.reduceEqDiff,Nat.reduceLeDiff,Int.reduceToNat,Int.reduceLE,Int.reduceLT,Int.reduceAdd,Int.reduceNeg,Nat.reduceMul,hL,Bool.not_false]
    refine AInv.pureK X.hasB (X.has _ _ ht) fun H4 h4=>?_
    cases hC:Lib.contains text [63,62]with
    | true=>
     simp (maxSteps:=400000) only[wF,storeA,reduceCtorEq,Nat.reduceAdd,Nat.reduceSub,Nat.reduceEqDiff,Nat.reduceLeDiff,Int.reduceToNat,Int.reduceLE,Int.reduceLT,Int.reduceAdd,Int.reduceNeg,Nat.reduceMul,Bool.not_true]
     exact⟨by simp[hC],(((h1.trans h2).trans h3).trans h4).post⟩
    | false=>
     have hm:(if(text.length:Int)<1 then(text.length:Int)else 1)=((min 1 text.length:Nat):Int):=by split<;>omega
     have v0:((0:Int)≤((min 1 text.length:Nat):Int))=True:=by simp
     have v1:(((min 1 text.length:Nat):Int)≤(text.length:Int))=True:=by simp;omega
     simp (maxSteps:=400000) only[wF,storeA,reduceCtorEq,Nat.reduceAdd,Nat.reduceSub,Nat.reduceEqDiff,Nat.reduceLeDiff,Int.reduceToNat,Int.reduceLE,Int.reduceLT,Int.reduceAdd,Int.reduceNeg,Nat.reduceMul,Bool.not_false,T56,minA,hm,v0,v1]
     refine AInv.pureK T.anyB (T.any _ (by simp only[List.length_take];omega)) fun H5 h5=>?_
     simp (maxSteps:=400000) only[wF,storeA,reduceCtorEq,Nat.reduceAdd,Nat.reduceSub,Nat.reduceEqDiff,Nat.reduceLeDiff,Int.reduceToNat,Int.reduceLE,Int.reduceLT,Int.reduceAdd,Int.reduceNeg,Nat.reduceMul,]
     exact⟨by simp[hC,hL,bne],((((h1.trans h2).trans h3).trans h4).trans h5).post⟩
def BAt (J:AHeap) (bid kl:Nat) (t:TSt):Prop:=
 J.get bid=some (.cells 85 [.slc kl t.l.length,.int .i64 t.op,.int .i64 t.deep,.int .i64 t.bytes])∧J.get kl=some (.row 36 4 (ndsH t.l))∧bid≠kl∧bid<J.next∧kl<J.next
def BKeep (J:AHeap) (bid kl:Nat) (J':AHeap) (kl':Nat):Prop:=J.next≤J'.next∧(kl'=kl∨J.next≤kl')∧∀j,j<J.next→j≠bid→j≠kl→J'.get j=J.get j
def BPost (J:AHeap) (bid kl:Nat) (o:Except Nat TSt) (r:ARes) (J':AHeap):Prop:=
 match o with
 | .error e=>r = .ret (.int .i64 e)∧J.next≤J'.next∧∀j,j<J.next→j≠bid→j≠kl→J'.get j=J.get j
 | .ok t'=>r = .ret (.int .i64 (0:Nat))∧∃kl',BAt J' bid kl' t'∧BKeep J bid kl J' kl'
theorem ndsH_len (l:List Nd):(ndsH l).length=l.length*4:=by
 induction l with
 | nil=>rfl
 | cons a l ih=>simp only[ndsH,List.flatMap_cons,List.length_append,ndH,List.length_cons,List.length_nil]at ih ⊢;rw[ih];omega
theorem ndsH_app (l m:List Nd):ndsH (l++m)=ndsH l++ndsH m:=by simp[ndsH]
theorem BAt.keep {J J':AHeap} {bid kl:Nat} {t:TSt} (h:BAt J bid kl t) (hk:Kept J J'):BAt J' bid kl t∧BKeep J bid kl J' kl:=by
 obtain⟨a1,a2,a3,a4,a5⟩:=h
 have:=hk.1
 exact⟨⟨(hk.2 _ a4).trans a1,(hk.2 _ a5).trans a2,a3,by omega,by omega⟩,this,.inl rfl,fun j hj _ _=>hk.2 j hj⟩
theorem BKeep.trans {A B C:AHeap} {bid kl kl1 kl2:Nat} (h:BKeep A bid kl B kl1) (h':BKeep B bid kl1 C kl2):BKeep A bid kl C kl2:=by
 obtain⟨a1,a2,a4⟩:=h
 obtain⟨b1,b2,b4⟩:=h'
 refine⟨by omega,?_,fun j j1 j2 j3=>?_⟩
 ·rcases b2 with h | h
  ·rw[h];exact a2
  ·exact .inr (by omega)
 ·rw[b4 j (by omega) j2 (by rcases a2 with h | h<;>omega)]
  exact a4 j j1 j2 j3
set_option maxHeartbeats 4000000 in
set_option maxRecDepth 100000 in
theorem t_add_ok (G:Nat→Option (List AV)) {H:AHeap} {bid kl:Nat} {t:TSt} (hb:BAt H bid kl t) {kind:Nat} {name text:List UInt8} (hl:t.l.length≤65536) (hby:t.bytes≤1048576) (ht:text.length≤1000000000) :
  ACalls Tryz.prog G 79 [.ptr bid 0,.int .i64 kind,.str name,.str text] H (BPost H bid kl (t.add kind name text)):=by
 refine ACalls.of Tryz.func79 S79_eq R79 N79 rfl rfl ?_
 have hb0:=hb
 obtain⟨a1,a2,a3,a4,a5⟩:=hb
 have err:t.add kind name text = .error 2→BPost H bid kl (t.add kind name text) (.ret (.int .i64 2)) H:=fun h=>by
  rw[h]
  exact⟨rfl,Nat.le_refl _,fun _ _ _ _=>rfl⟩
 by_cases c1:65536≤t.l.length
 ·have d1:decide ((t.l.length:Int)≥65536)=true:=by simp;omega
  simp (maxSteps:=400000) only[wF,storeA,reduceCtorEq,Nat.reduceAdd,Nat.reduceSub,Nat.reduceEqDiff,Nat.reduceLeDiff,Int.reduceToNat,Int.reduceLE,Int.reduceLT,Int.reduceAdd,Int.reduceNeg,Nat.reduceMul,S79,N79,R79,T79,a1,a2,d1]
  exact err (by unfold TSt.add;rw[if_pos (.inl c1)])
 have d1:decide ((t.l.length:Int)≥65536)=false:=by simp;omega
 have e1:IntKind.i64.wrap (1048576-(t.bytes:Int))=1048576-(t.bytes:Int):=by rw[wrap64]<;>omega
 have e2:IntKind.i64.wrap ((t.bytes:Int)+(text.length:Int))=((t.bytes+text.length:Nat):Int):=by rw[wrap64]<;>omega
 have u1:(H.next==kl)=false:=by simp;omega
 have u2:(t.l.length+1≤maxApp)=True:=by simp[maxApp];omega
 have u3:(kl=H.next)=False:=by simp;omega
 have u5:(bid=H.next)=False:=by simp;omega
 have u6:(bid=H.next+1)=False:=by simp;omega
 have u7:(bid=kl)=False:=by simp;omega
 have u8:(kl=bid)=False:=by simp;omega
 by_cases c2:kind≠2∧200≤t.deep
 ·have d2:((kind:Int) != 2)=true:=by simp;omega
  have d3:decide (t.deep≥200)=true:=by simp;omega
  simp (maxSteps:=400000) only[wF,storeA,reduceCtorEq,Nat.reduceAdd,Nat.reduceSub,Nat.reduceEqDiff,Nat.reduceLeDiff,Int.reduceToNat,Int.reduceLE,Int.reduceLT,Int.reduceAdd,Int.reduceNeg,Nat.reduceMul,S79,N79,R79,T79,a1,a2,d1,d2,d3]
  exact err (by unfold TSt.add;rw[if_pos (.inr (.inl c2))])
 have hd:((kind:Int) != 2)=false∨((kind:Int) != 2)=true∧decide (t.deep≥200)=false:=by
  by_cases hk:kind=2
  ·exact .inl (by simp;omega)
  ·exact .inr ⟨by simp;omega,by simp;omega⟩
 by_cases c3:1048576<t.bytes+text.length
 ·have d4:decide ((text.length:Int)>1048576-(t.bytes:Int))=true:=by simp;omega
  have he:=err (by unfold TSt.add;rw[if_pos (.inr (.inr c3))])
  rcases hd with d2 | ⟨d2,d3⟩
  ·simp (maxSteps:=400000) only[wF,storeA,reduceCtorEq,Nat.reduceAdd,Nat.reduceSub,Nat.reduceEqDiff,Nat.reduceLeDiff,Int.reduceToNat,Int.reduceLE,Int.reduceLT,Int.reduceAdd,Int.reduceNeg,Nat.reduceMul,S79,N79,R79,T79,a1,a2,d1,d2,e1,d4]
   exact he
  ·simp (maxSteps:=400000) only[wF,storeA,reduceCtorEq,Nat.reduceAdd,Nat.reduceSub,Nat.reduceEqDiff,Nat.reduceLeDiff,Int.reduceToNat,Int.reduceLE,Int.reduceLT,Int.reduceAdd,Int.reduceNeg,Nat.reduceMul,S79,N79,R79,T79,a1,a2,d1,d2,d3,e1,d4]
   exact he
 have d4:decide ((text.length:Int)>1048576-(t.bytes:Int))=false:=by simp;omega
 have hR:t.add kind name text = .ok { t with l:=t.l++[⟨kind,name,text,t.op⟩],bytes:=t.bytes+text.length }:=by
  unfold TSt.add
  rw[if_neg]
  rintro(h | h | h)
  ·exact c1 h
  ·exact c2 h
  ·exact c3 h
 rw[hR]
 rcases hd with d2 | ⟨d2,d3⟩
 case' inl=>simp (maxSteps:=400000) only[wF,storeA,reduceCtorEq,Nat.reduceAdd,Nat.reduceSub,Nat.reduceEqDiff,Nat.reduceLeDiff,Int.reduceToNat,Int.reduceLE,Int.reduceLT,Int.reduceAdd,Int.reduceNeg,Nat.reduceMul,S79,N79,R79,T79,a1,a2,d1,d2,e1,e2,d4]
 case' inr=>simp (maxSteps:=400000) only[wF,storeA,reduceCtorEq,Nat.reduceAdd,Nat.reduceSub,Nat.reduceEqDiff,Nat.reduceLeDiff,Int.reduceToNat,Int.reduceLE,Int.reduceLT,Int.reduceAdd,Int.reduceNeg,Nat.reduceMul,S79,N79,R79,T79,a1,a2,d1,d2,d3,e1,e2,d4]
 all_goals
  refine drawW_fixed mixedOrders L79_4_eq P79_4_eq ?_
  simp (maxSteps:=400000) only[wF,storeA,reduceCtorEq,Nat.reduceAdd,Nat.reduceSub,Nat.reduceEqDiff,Nat.reduceLeDiff,Int.reduceToNat,Int.reduceLE,Int.reduceLT,Int.reduceAdd,Int.reduceNeg,Nat.reduceMul,L79_4,T79,a2,u1,u2,u3,u5,u6,u7,u8,buildA,appendA,appSrc,AV.isSlc,sliceLit,fillA,zerosA,srcCells,AV.boxable,Nat.le_refl,Nat.reduceLT,ndsH_len,h_set_set]
  refine⟨by simp;omega,rfl,H.next+1,⟨?_,?_,by omega,?_,?_⟩,?_,.inr (by omega),fun j j1 j2 j3=>?_⟩
  ·rw[AHeap.get_set_same];simp
  ·rw[AHeap.get_set_ne _ _ (by omega),AHeap.get_allocAt_same,ndsH_app];rfl
  ·simp only[AHeap.next_set,AHeap.next_allocAt,AHeap.next_del];omega
  ·simp only[AHeap.next_set,AHeap.next_allocAt,AHeap.next_del];omega
  ·simp only[AHeap.next_set,AHeap.next_allocAt,AHeap.next_del];omega
  ·rw[AHeap.get_set_ne _ _ j2,AHeap.get_allocAt_ne _ _ (by omega),AHeap.get_del_ne _ j3,AHeap.get_allocAt_ne _ _ (by omega),AHeap.get_set_ne _ _ j2]
end Go.Ab
namespace Go.Ab
open Go Go.Lib Go.Proofs
theorem ndsH_at:∀(l:List Nd) (i:Nat) (h:i<l.length),((ndsH l).drop (i*4)).take 4=ndH l[i]
 | [],i,h=>by simp at h
 | a::l,0,_=>rfl
 | a::l,i+1,h=>by
  have:=ndsH_at l i (by simpa using h)
  have e:(i+1)*4=i*4+1+1+1+1:=by omega
  simp only[ndsH,List.flatMap_cons,e,ndH,List.cons_append,List.nil_append,List.drop_succ_cons,List.getElem_cons_succ]at this ⊢
  exact this
theorem ndsH_get (l:List Nd) (i k:Nat) (h:i<l.length) (hk:k<4):(ndsH l)[i*4+k]?=(ndH l[i])[k]?:=by
 have:=ndsH_at l i h
 rw[←this,List.getElem?_take,if_pos hk,List.getElem?_drop]
set_option maxHeartbeats 4000000 in
set_option maxRecDepth 100000 in
theorem t_other4_ok {G:Nat→Option (List AV)} (E:Env G) (X:EnvH G) (T:EnvT G) {H:AHeap} {bid kl:Nat} {t:TSt} (hb:BAt H bid kl t) {text:List UInt8} (hl:t.l.length≤65536) (hby:t.bytes≤1048576) (ht:text.length≤1000000000) :
  ACalls Tryz.prog G 46 [.ptr bid 0,.int .i64 4,.str [],.str text] H (BPost H bid kl (otherT t 4 [] text)):=by
 refine ACalls.of Tryz.func46 S46_eq R46 N46 rfl rfl ?_
 simp (maxSteps:=400000) only[wF,storeA,reduceCtorEq,Nat.reduceAdd,Nat.reduceSub,Nat.reduceEqDiff,Nat.reduceLeDiff,Int.reduceToNat,Int.reduceLE,Int.reduceLT,Int.reduceAdd,Int.reduceNeg,Nat.reduceMul,S46,N46,R46]
 refine AInv.pureK B56 (t_allowed4_ok E X T ht) fun H1 h1=>?_
 obtain⟨b1,k1⟩:=hb.keep h1.kept
 unfold otherT
 cases ha:allowedS 4 [] text with
 | false=>
  simp (maxSteps:=400000) only[wF,storeA,reduceCtorEq,Nat.reduceAdd,Nat.reduceSub,Nat.reduceEqDiff,Nat.reduceLeDiff,Int.reduceToNat,Int.reduceLE,Int.reduceLT,Int.reduceAdd,Int.reduceNeg,Nat.reduceMul,Bool.not_false]
  exact⟨rfl,k1.1,k1.2.2⟩
 | true=>
  rw[if_neg (by simp)]
  simp (maxSteps:=400000) only[wF,storeA,reduceCtorEq,Nat.reduceAdd,Nat.reduceSub,Nat.reduceEqDiff,Nat.reduceLeDiff,Int.reduceToNat,Int.reduceLE,Int.reduceLT,Int.reduceAdd,Int.reduceNeg,Nat.reduceMul,Bool.not_true]
  refine AInv.call B79 (t_add_ok G b1 (kind:=4) hl hby ht) fun r H2 h2=>?_
  cases ho:t.add 4 [] text with
  | error e=>
   rw[ho]at h2
   obtain⟨rfl,n2,f2⟩:=h2
   simp (maxSteps:=400000) only[wF,storeA,reduceCtorEq,Nat.reduceAdd,Nat.reduceSub,Nat.reduceEqDiff,Nat.reduceLeDiff,Int.reduceToNat,Int.reduceLE,Int.reduceLT,Int.reduceAdd,Int.reduceNeg,Nat.reduceMul,]
   exact⟨rfl,by have:=k1.1;omega,fun j j1 j2 j3=>by rw[f2 j (by have:=k1.1;omega) j2 j3];exact k1.2.2 j j1 j2 j3⟩
  | ok t'=>
   rw[ho]at h2
   obtain⟨rfl,kl',b2,k2⟩:=h2
   simp (maxSteps:=400000) only[wF,storeA,reduceCtorEq,Nat.reduceAdd,Nat.reduceSub,Nat.reduceEqDiff,Nat.reduceLeDiff,Int.reduceToNat,Int.reduceLE,Int.reduceLT,Int.reduceAdd,Int.reduceNeg,Nat.reduceMul,]
   exact⟨rfl,kl',b2,k1.trans k2⟩
set_option maxHeartbeats 4000000 in
set_option maxRecDepth 100000 in
theorem t_other5_ok {G:Nat→Option (List AV)} (E:Env G) (X:EnvH G) (T:EnvT G) {H:AHeap} {bid kl:Nat} {t:TSt} (hb:BAt H bid kl t) {name text:List UInt8} (hl:t.l.length≤65536) (hby:t.bytes≤1048576) (hn:name.length≤1000000000) (ht:text.length≤1000000000) :
  ACalls Tryz.prog G 46 [.ptr bid 0,.int .i64 5,.str name,.str text] H (BPost H bid kl (otherT t 5 name text)):=by
 refine ACalls.of Tryz.func46 S46_eq R46 N46 rfl rfl ?_
 simp (maxSteps:=400000) only[wF,storeA,reduceCtorEq,Nat.reduceAdd,Nat.reduceSub,Nat.reduceEqDiff,Nat.reduceLeDiff,Int.reduceToNat,Int.reduceLE,Int.reduceLT,Int.reduceAdd,Int.reduceNeg,Nat.reduceMul,S46,N46,R46]
 refine AInv.pureK B56 (t_allowed5_ok E X T hn ht) fun H1 h1=>?_
 obtain⟨b1,k1⟩:=hb.keep h1.kept
 unfold otherT
 cases ha:allowedS 5 name text with
 | false=>
  simp (maxSteps:=400000) only[wF,storeA,reduceCtorEq,Nat.reduceAdd,Nat.reduceSub,Nat.reduceEqDiff,Nat.reduceLeDiff,Int.reduceToNat,Int.reduceLE,Int.reduceLT,Int.reduceAdd,Int.reduceNeg,Nat.reduceMul,Bool.not_false]
  exact⟨rfl,k1.1,k1.2.2⟩
 | true=>
  rw[if_neg (by simp)]
  simp (maxSteps:=400000) only[wF,storeA,reduceCtorEq,Nat.reduceAdd,Nat.reduceSub,Nat.reduceEqDiff,Nat.reduceLeDiff,Int.reduceToNat,Int.reduceLE,Int.reduceLT,Int.reduceAdd,Int.reduceNeg,Nat.reduceMul,Bool.not_true]
  refine AInv.call B79 (t_add_ok G b1 (kind:=5) hl hby ht) fun r H2 h2=>?_
  cases ho:t.add 5 name text with
  | error e=>
   rw[ho]at h2
   obtain⟨rfl,n2,f2⟩:=h2
   simp (maxSteps:=400000) only[wF,storeA,reduceCtorEq,Nat.reduceAdd,Nat.reduceSub,Nat.reduceEqDiff,Nat.reduceLeDiff,Int.reduceToNat,Int.reduceLE,Int.reduceLT,Int.reduceAdd,Int.reduceNeg,Nat.reduceMul,]
   exact⟨rfl,by have:=k1.1;omega,fun j j1 j2 j3=>by rw[f2 j (by have:=k1.1;omega) j2 j3];exact k1.2.2 j j1 j2 j3⟩
  | ok t'=>
   rw[ho]at h2
   obtain⟨rfl,kl',b2,k2⟩:=h2
   simp (maxSteps:=400000) only[wF,storeA,reduceCtorEq,Nat.reduceAdd,Nat.reduceSub,Nat.reduceEqDiff,Nat.reduceLeDiff,Int.reduceToNat,Int.reduceLE,Int.reduceLT,Int.reduceAdd,Int.reduceNeg,Nat.reduceMul,]
   exact⟨rfl,kl',b2,k1.trans k2⟩
set_option maxHeartbeats 4000000 in
set_option maxRecDepth 100000 in
theorem t_end_ok {G:Nat→Option (List AV)} (E:Env G) {H:AHeap} {bid kl:Nat} {t:TSt} (hb:BAt H bid kl t) (hok:TOk t) {x:Ev} (hx:EvB 10000000 x) (hd : -100000000≤t.deep∧t.deep≤100000000) :
  ACalls Tryz.prog G 44 [.ptr bid 0,.agg (evH x)] H (BPost H bid kl (endT t x)):=by
 refine ACalls.of Tryz.func44 S44_eq R44 N44 rfl rfl ?_
 obtain⟨a1,a2,a3,a4,a5⟩:=hb
 have hlt:=hok.op
 have hc:t.l[t.op]=t.cur:=by
  have:=hok.curE
  rw[List.getElem?_eq_getElem hlt]at this
  exact Option.some.inj this
 have hat:=ndsH_at t.l t.op hlt
 rw[hc]at hat
 have hle:(t.op*4+4≤(ndsH t.l).length)=True:=by rw[ndsH_len];simp;omega
 have q0:((0:Int)≤(t.op:Int))=True:=by simp
 have q1:((t.op:Int)<(t.l.length:Int))=True:=by simp;omega
 have u1:(bid=H.next)=False:=by simp;omega
 have u2:(kl=H.next)=False:=by simp;omega
 simp (maxSteps:=400000) only[wF,storeA,reduceCtorEq,Nat.reduceAdd,Nat.reduceSub,Nat.reduceEqDiff,Nat.reduceLeDiff,Int.reduceToNat,Int.reduceLE,Int.reduceLT,Int.reduceAdd,Int.reduceNeg,Nat.reduceMul,S44,N44,R44,T44,AV.boxable,evH]
 refine drawW_fixed mixedOrders L44_1_eq P44_1_eq ?_
 have g1:(H.next+1=H.next)=False:=by simp
 have g2:(H.next=H.next+1)=False:=by simp
 have v1:(bid=H.next+1)=False:=by simp;omega
 have v2:(kl=H.next+1)=False:=by simp;omega
 simp (maxSteps:=400000) only[wF,storeA,reduceCtorEq,Nat.reduceAdd,Nat.reduceSub,Nat.reduceEqDiff,Nat.reduceLeDiff,Int.reduceToNat,Int.reduceLE,Int.reduceLT,Int.reduceAdd,Int.reduceNeg,Nat.reduceMul,L44_1,T44,a1,a2,u1,u2,v1,v2,g1,g2,indexAddrA,hat,hle,q0,q1,ndH,AV.boxable]
 refine⟨by simp;omega,?_⟩
 generalize hX0:AHeap.set _ (H.next+1) _=X
 have x0:X.get H.next=some (.cells 88 [.int .i64 x.kind,.str x.name,.str x.text,atH x.attrs,.int .i64 x.line,.int .i64 x.col]):=by rw[←hX0,AHeap.get_set_ne _ _ (by omega),AHeap.get_allocAt_ne _ _ (by omega),AHeap.get_allocAt_same]
 have x1:X.get (H.next+1)=some (.cells 36 [.int .i64 t.cur.kind,.str t.cur.name,.str t.cur.text,.int .i64 t.cur.up]):=by rw[←hX0,AHeap.get_set_same]
 have xn:X.next=H.next+2:=by rw[←hX0];simp only[AHeap.next_set,AHeap.next_allocAt];omega
 have xo:∀j,j<H.next→X.get j=H.get j:=fun j hj=>by rw[←hX0,AHeap.get_set_ne _ _ (by omega),AHeap.get_allocAt_ne _ _ (by omega),AHeap.get_allocAt_ne _ _ (by omega)]
 clear hX0
 refine AInv.pureK B80 (isName_ok E (by have:=hx.1;omega)) fun H1 h1=>?_
 have p1:=h1.1
 have y0:=(congrFun h1.2 _).trans x0
 have y1:=(congrFun h1.2 _).trans x1
 have yb:=(congrFun h1.2 _).trans ((xo _ a4).trans a1)
 have yk:=(congrFun h1.2 _).trans ((xo _ a5).trans a2)
 have yo:∀j,j<H.next→H1.get j=H.get j:=fun j hj=>(congrFun h1.2 _).trans (xo j hj)
 unfold endT
 cases hN:isNameS x.name with
 | false=>
  simp (maxSteps:=400000) only[wF,storeA,reduceCtorEq,Nat.reduceAdd,Nat.reduceSub,Nat.reduceEqDiff,Nat.reduceLeDiff,Int.reduceToNat,Int.reduceLE,Int.reduceLT,Int.reduceAdd,Int.reduceNeg,Nat.reduceMul,Bool.not_false,T44]
  exact⟨rfl,by omega,fun j j1 _ _=>yo j j1⟩
 | true=>
 rw[if_neg (by simp)]
 by_cases hk:t.cur.kind=1
 case neg=>
  have b1:((t.cur.kind:Int) != 1)=true:=by simp;omega
  rw[if_pos (.inl hk)]
  simp (maxSteps:=400000) only[wF,storeA,reduceCtorEq,Nat.reduceAdd,Nat.reduceSub,Nat.reduceEqDiff,Nat.reduceLeDiff,Int.reduceToNat,Int.reduceLE,Int.reduceLT,Int.reduceAdd,Int.reduceNeg,Nat.reduceMul,Bool.not_true,T44,y0,y1,b1]
  exact⟨rfl,by omega,fun j j1 _ _=>yo j j1⟩
 have b1:((t.cur.kind:Int) != 1)=false:=by simp;omega
 by_cases hn:t.cur.name=x.name
 case neg=>
  have b2:(t.cur.name==x.name)=false:=by simp[hn]
  rw[if_pos (.inr hn)]
  simp (maxSteps:=400000) only[wF,storeA,reduceCtorEq,Nat.reduceAdd,Nat.reduceSub,Nat.reduceEqDiff,Nat.reduceLeDiff,Int.reduceToNat,Int.reduceLE,Int.reduceLT,Int.reduceAdd,Int.reduceNeg,Nat.reduceMul,Bool.not_true,T44,y0,y1,b1,b2,eqNeq,Bool.not_false]
  exact⟨rfl,by omega,fun j j1 _ _=>yo j j1⟩
 have b2:(t.cur.name==x.name)=true:=by simp[hn]
 have hup:=hok.up _ _ hok.curE hk
 have ed:IntKind.i64.wrap (t.deep-1)=t.deep-1:=by rw[wrap64]<;>omega
 rw[if_neg (by rintro(h | h);exact h hk;exact h hn)]
 have w1:(H.next+1=bid)=False:=by simp;omega
 simp (maxSteps:=400000) only[wF,storeA,reduceCtorEq,Nat.reduceAdd,Nat.reduceSub,Nat.reduceEqDiff,Nat.reduceLeDiff,Int.reduceToNat,Int.reduceLE,Int.reduceLT,Int.reduceAdd,Int.reduceNeg,Nat.reduceMul,Bool.not_true,T44,y0,y1,yb,b1,b2,eqNeq,ed,w1,h_set_set]
 refine⟨rfl,kl,⟨?_,?_,a3,?_,?_⟩,?_,.inl rfl,fun j j1 j2 j3=>?_⟩
 ·rw[AHeap.get_set_same,show t.cur.up=((t.cur.up.toNat:Nat):Int) by omega];rfl
 ·rw[AHeap.get_set_ne _ _ (by omega)];exact yk
 ·simp only[AHeap.next_set];omega
 ·simp only[AHeap.next_set];omega
 ·simp only[AHeap.next_set];omega
 ·rw[AHeap.get_set_ne _ _ j2];exact yo j j1
end Go.Ab
namespace Go.Ab
open Go Go.Lib Go.Proofs
def TxOk (t:TSt):Prop:=∀n∈t.l,n.text.length≤t.bytes
theorem TxOk.init:TxOk t0T:=fun n hn=>by simp[t0T]at hn;subst hn;decide
theorem TxOk.add {t t':TSt} {kind:Nat} {name text:List UInt8} (h:TxOk t) (e:t.add kind name text = .ok t'):TxOk t':=by
 unfold TSt.add at e
 split at e
 ·cases e
 ·cases e
  intro n hn
  simp only[List.mem_append,List.mem_singleton]at hn ⊢
  rcases hn with hn | hn
  ·have:=h n hn;omega
  ·subst hn;simp only;omega
theorem TxOk.attrs:∀(l:List (List UInt8 × List UInt8)) {t t':TSt},TxOk t→attrsT l t = .ok t'→TxOk t'
 | [],t,t',h,e=>by cases e;exact h
 | a::l,t,t',h,e=>by
  simp only[attrsT]at e
  split at e
  ·cases e
  ·rename_i t1 h1
   exact TxOk.attrs l (h.add h1) e
theorem TxOk.last {t:TSt} (h:TxOk t) (hok:TOk t):t.last.text.length≤t.bytes:=h _ (List.mem_of_getElem? hok.lastE)
theorem TxOk.event {t t':TSt} {x:Ev} (h:TxOk t) (hok:TOk t) (e:eventT t x = .ok t'):TxOk t':=by
 unfold eventT startT endT textT otherT at e
 split at e
 ·split at e
  ·cases e
  split at e
  ·cases e
  split at e
  ·cases e
  split at e
  ·cases e
  ·rename_i t1 h1
   have h2:TxOk t1:=h.add h1
   exact TxOk.attrs (t:={ t1 with op:=t.l.length,deep:=t.deep+1 }) _ h2 e
 ·split at e
  ·cases e
  split at e
  ·cases e
  ·cases e;exact h
 ·split at e
  ·cases e
  split at e
  ·cases e;exact h
  split at e
  ·split at e
   ·cases e
   ·cases e
    have hl:=h.last hok
    intro n hn
    simp only[List.mem_append,List.mem_singleton]at hn ⊢
    rcases hn with hn | hn
    ·have:=h n (List.dropLast_subset _ hn);omega
    ·subst hn;simp only[List.length_append];omega
  ·exact h.add e
 ·split at e
  ·cases e
  ·exact h.add e
 ·split at e
  ·cases e
  ·exact h.add e
 ·cases e
theorem ndsH_set (D:List Nd) (x:Nd) (i:Nat) (hi:D.length=i) (v:List UInt8):(ndsH (D++[x])).set (i*4+2) (.str v)=ndsH (D++[{ x with text:=v }]):=by
 have:=ndsH_len D
 rw[ndsH_app,ndsH_app,List.set_append_right _ _ (by omega),show i*4+2-(ndsH D).length=2 by omega]
 rfl
set_option maxHeartbeats 4000000 in
set_option maxRecDepth 100000 in
theorem t_text_ok {G:Nat→Option (List AV)} (E:Env G) {H:AHeap} {bid kl:Nat} {t:TSt} (hb:BAt H bid kl t) (hok:TOk t) (htx:TxOk t) {x:Ev} (hx:EvB 10000000 x) :
  ACalls Tryz.prog G 45 [.ptr bid 0,.agg (evH x)] H (BPost H bid kl (textT t x)):=by
 refine ACalls.of Tryz.func45 S45_eq R45 N45 rfl rfl ?_
 have hb0:=hb
 obtain⟨a1,a2,a3,a4,a5⟩:=hb
 have hne:=hok.op
 have hlen:=hok.len
 have hby:=hok.bytes
 obtain⟨i,hi⟩:∃i,t.l.length=i+1:=⟨t.l.length-1,by omega⟩
 have hlt:i<t.l.length:=by omega
 have hla:t.l[i]=t.last:=by
  have h:=hok.lastE
  rw[show t.l.length-1=i by omega,List.getElem?_eq_getElem hlt]at h
  exact Option.some.inj h
 have ht:=hx.2.1
 have e0:IntKind.i64.wrap ((t.l.length:Int)-1)=(i:Int):=by rw[hi,wrap64]<;>omega
 have u1:(bid=H.next)=False:=by simp;omega
 have u2:(kl=H.next)=False:=by simp;omega
 simp (maxSteps:=400000) only[wF,storeA,reduceCtorEq,Nat.reduceAdd,Nat.reduceSub,Nat.reduceEqDiff,Nat.reduceLeDiff,Int.reduceToNat,Int.reduceLE,Int.reduceLT,Int.reduceAdd,Int.reduceNeg,Nat.reduceMul,S45,N45,R45,T45,AV.boxable,evH,u1,u2,a1,e0]
 generalize hX0:AHeap.allocAt H H.next _=X
 have x0:X.get H.next=some (.cells 88 [.int .i64 x.kind,.str x.name,.str x.text,atH x.attrs,.int .i64 x.line,.int .i64 x.col]):=by rw[←hX0,AHeap.get_allocAt_same]
 have xn:X.next=H.next+1:=by rw[←hX0];simp only[AHeap.next_allocAt];omega
 have xo:∀j,j<H.next→X.get j=H.get j:=fun j hj=>by rw[←hX0,AHeap.get_allocAt_ne _ _ (by omega)]
 clear hX0
 refine AInv.pureK B23 (isText_ok E (by omega)) fun H1 h1=>?_
 have p1:=h1.1
 have y0:=(congrFun h1.2 _).trans x0
 have y1:=(congrFun h1.2 _).trans ((xo _ a4).trans a1)
 have y2:=(congrFun h1.2 _).trans ((xo _ a5).trans a2)
 have yo:∀j,j<H.next→H1.get j=H.get j:=fun j hj=>(congrFun h1.2 _).trans (xo j hj)
 unfold textT
 cases hT:isTextS x.text with
 | false=>
  simp (maxSteps:=400000) only[wF,storeA,reduceCtorEq,Nat.reduceAdd,Nat.reduceSub,Nat.reduceEqDiff,Nat.reduceLeDiff,Int.reduceToNat,Int.reduceLE,Int.reduceLT,Int.reduceAdd,Int.reduceNeg,Nat.reduceMul,Bool.not_false,T45]
  exact⟨rfl,by omega,fun j j1 _ _=>yo j j1⟩
 | true=>
 rw[if_neg (by simp)]
 by_cases hem:x.text=[]
 ·have he:(x.text==[])=true:=by rw[hem];rfl
  simp (maxSteps:=400000) only[wF,storeA,reduceCtorEq,Nat.reduceAdd,Nat.reduceSub,Nat.reduceEqDiff,Nat.reduceLeDiff,Int.reduceToNat,Int.reduceLE,Int.reduceLT,Int.reduceAdd,Int.reduceNeg,Nat.reduceMul,Bool.not_true,T45,y0,he]
  rw[if_pos hem]
  exact⟨rfl,kl,(hb0.keep ⟨by omega,yo⟩)⟩
 have he:(x.text==[])=false:=by simp[hem]
 rw[if_neg hem]
 simp (maxSteps:=400000) only[wF,storeA,reduceCtorEq,Nat.reduceAdd,Nat.reduceSub,Nat.reduceEqDiff,Nat.reduceLeDiff,Int.reduceToNat,Int.reduceLE,Int.reduceLT,Int.reduceAdd,Int.reduceNeg,Nat.reduceMul,Bool.not_true,T45,y0,he]
 have hle:(i*4+4≤(ndsH t.l).length)=True:=by rw[ndsH_len];simp;omega
 have q0:((0:Int)≤(i:Int))=True:=by simp
 have q1:((i:Int)<(t.l.length:Int))=True:=by simp;omega
 have g0:=ndsH_get t.l i 0 hlt (by omega)
 have g3:=ndsH_get t.l i 3 hlt (by omega)
 have g2:=ndsH_get t.l i 2 hlt (by omega)
 rw[hla]at g0 g2 g3
 simp only[ndH,List.getElem?_cons_zero,List.getElem?_cons_succ,Nat.add_zero]at g0 g2 g3
 have e1:IntKind.i64.wrap (1048576-(t.bytes:Int))=1048576-(t.bytes:Int):=by rw[wrap64]<;>omega
 have e2:IntKind.i64.wrap ((t.bytes:Int)+(x.text.length:Int))=((t.bytes+x.text.length:Nat):Int):=by rw[wrap64]<;>omega
 obtain⟨b1,k1⟩:=hb0.keep (show Kept H H1 from ⟨by omega,yo⟩)
 have more:∀{r:ARes} {J:AHeap},BPost H1 bid kl (t.add 3 [] x.text) r J→BPost H bid kl (t.add 3 [] x.text) r J:=fun {r J} h2=>by
  cases ho:t.add 3 [] x.text with
  | error e=>
   rw[ho]at h2
   obtain⟨h3,n2,f2⟩:=h2
   exact⟨h3,by omega,fun j j1 j2 j3=>by rw[f2 j (by omega) j2 j3];exact yo j j1⟩
  | ok t'=>
   rw[ho]at h2
   obtain⟨h3,kl',b2,k2⟩:=h2
   exact⟨h3,kl',b2,k1.trans k2⟩
 by_cases c3:t.last.kind=3
 case neg=>
  have b3:((t.last.kind:Int)==3)=false:=by simp;omega
  rw[if_neg (fun h=>c3 h.1)]
  refine drawW_fixed mixedOrders L45_6_eq P45_6_eq ?_
  simp (maxSteps:=400000) only[wF,storeA,reduceCtorEq,Nat.reduceAdd,Nat.reduceSub,Nat.reduceEqDiff,Nat.reduceLeDiff,Int.reduceToNat,Int.reduceLE,Int.reduceLT,Int.reduceAdd,Int.reduceNeg,Nat.reduceMul,L45_6,T45,y0,y1,y2,q0,q1,indexAddrA,g0,g3,b3]
  refine AInv.call B79 (t_add_ok G b1 (kind:=3) hlen hby (by omega)) fun r J2 h2=>?_
  replace h2:=more h2
  cases ho:t.add 3 [] x.text with
  | error e=>
   rw[ho]at h2
   obtain⟨rfl,h2⟩:=h2
   simp (maxSteps:=400000) only[wF,storeA,reduceCtorEq,Nat.reduceAdd,Nat.reduceSub,Nat.reduceEqDiff,Nat.reduceLeDiff,Int.reduceToNat,Int.reduceLE,Int.reduceLT,Int.reduceAdd,Int.reduceNeg,Nat.reduceMul,]
   exact⟨rfl,h2⟩
  | ok t'=>
   rw[ho]at h2
   obtain⟨rfl,h2⟩:=h2
   simp (maxSteps:=400000) only[wF,storeA,reduceCtorEq,Nat.reduceAdd,Nat.reduceSub,Nat.reduceEqDiff,Nat.reduceLeDiff,Int.reduceToNat,Int.reduceLE,Int.reduceLT,Int.reduceAdd,Int.reduceNeg,Nat.reduceMul,]
   exact⟨rfl,h2⟩
 have b3:((t.last.kind:Int)==3)=true:=by rw[c3];rfl
 by_cases c4:t.last.up=t.op
 case neg=>
  have b4:(t.last.up==(t.op:Int))=false:=by simp[c4]
  rw[if_neg (fun h=>c4 h.2)]
  refine drawW_fixed mixedOrders L45_6_eq P45_6_eq ?_
  simp (maxSteps:=400000) only[wF,storeA,reduceCtorEq,Nat.reduceAdd,Nat.reduceSub,Nat.reduceEqDiff,Nat.reduceLeDiff,Int.reduceToNat,Int.reduceLE,Int.reduceLT,Int.reduceAdd,Int.reduceNeg,Nat.reduceMul,L45_6,T45,y0,y1,y2,q0,q1,indexAddrA,g0,g3,b3,b4]
  refine AInv.call B79 (t_add_ok G b1 (kind:=3) hlen hby (by omega)) fun r J2 h2=>?_
  replace h2:=more h2
  cases ho:t.add 3 [] x.text with
  | error e=>
   rw[ho]at h2
   obtain⟨rfl,h2⟩:=h2
   simp (maxSteps:=400000) only[wF,storeA,reduceCtorEq,Nat.reduceAdd,Nat.reduceSub,Nat.reduceEqDiff,Nat.reduceLeDiff,Int.reduceToNat,Int.reduceLE,Int.reduceLT,Int.reduceAdd,Int.reduceNeg,Nat.reduceMul,]
   exact⟨rfl,h2⟩
  | ok t'=>
   rw[ho]at h2
   obtain⟨rfl,h2⟩:=h2
   simp (maxSteps:=400000) only[wF,storeA,reduceCtorEq,Nat.reduceAdd,Nat.reduceSub,Nat.reduceEqDiff,Nat.reduceLeDiff,Int.reduceToNat,Int.reduceLE,Int.reduceLT,Int.reduceAdd,Int.reduceNeg,Nat.reduceMul,]
   exact⟨rfl,h2⟩
 have b4:(t.last.up==(t.op:Int))=true:=by simp[c4]
 rw[if_pos ⟨c3,c4⟩]
 refine drawW_fixed mixedOrders L45_6_eq P45_6_eq ?_
 simp (maxSteps:=400000) only[wF,storeA,reduceCtorEq,Nat.reduceAdd,Nat.reduceSub,Nat.reduceEqDiff,Nat.reduceLeDiff,Int.reduceToNat,Int.reduceLE,Int.reduceLT,Int.reduceAdd,Int.reduceNeg,Nat.reduceMul,L45_6,T45,y0,y1,y2,q0,q1,indexAddrA,g0,g3,b3,b4]
 refine drawW_fixed mixedOrders L45_7_eq P45_7_eq ?_
 by_cases c5:1048576<t.bytes+x.text.length
 ·have d5:decide ((x.text.length:Int)>1048576-(t.bytes:Int))=true:=by simp;omega
  simp (maxSteps:=400000) only[wF,storeA,reduceCtorEq,Nat.reduceAdd,Nat.reduceSub,Nat.reduceEqDiff,Nat.reduceLeDiff,Int.reduceToNat,Int.reduceLE,Int.reduceLT,Int.reduceAdd,Int.reduceNeg,Nat.reduceMul,L45_7,T45,y0,y1,y2,e1,d5]
  rw[if_pos c5]
  exact⟨rfl,by omega,fun j j1 _ _=>yo j j1⟩
 have d5:decide ((x.text.length:Int)>1048576-(t.bytes:Int))=false:=by simp;omega
 rw[if_neg c5]
 simp (maxSteps:=400000) only[wF,storeA,reduceCtorEq,Nat.reduceAdd,Nat.reduceSub,Nat.reduceEqDiff,Nat.reduceLeDiff,Int.reduceToNat,Int.reduceLE,Int.reduceLT,Int.reduceAdd,Int.reduceNeg,Nat.reduceMul,L45_7,T45,y0,y1,y2,e1,d5]
 have v1:(bid=kl)=False:=by simp;omega
 have v2:(kl=bid)=False:=by simp;omega
 have v3:(H.next=bid)=False:=by simp;omega
 have v4:(H.next=kl)=False:=by simp;omega
 refine drawW_fixed mixedOrders L45_9_eq P45_9_eq ?_
 simp (maxSteps:=400000) only[wF,storeA,reduceCtorEq,Nat.reduceAdd,Nat.reduceSub,Nat.reduceEqDiff,Nat.reduceLeDiff,Int.reduceToNat,Int.reduceLE,Int.reduceLT,Int.reduceAdd,Int.reduceNeg,Nat.reduceMul,L45_9,T45,y0,y1,y2,e2,u1,u2,v1,v2,v3,v4]
 refine drawW_fixed mixedOrders L45_10_eq P45_10_eq ?_
 simp (maxSteps:=400000) only[wF,storeA,reduceCtorEq,Nat.reduceAdd,Nat.reduceSub,Nat.reduceEqDiff,Nat.reduceLeDiff,Int.reduceToNat,Int.reduceLE,Int.reduceLT,Int.reduceAdd,Int.reduceNeg,Nat.reduceMul,L45_10,T45,y0,y1,y2,u1,u2,v1,v2,v3,v4,q0,q1,indexAddrA,g2]
 have hll:=htx.last hok
 refine⟨by unfold maxStr;omega,by rw[ndsH_len];omega,rfl,kl,⟨?_,?_,a3,?_,?_⟩,?_,.inl rfl,fun j j1 j2 j3=>?_⟩
 ·rw[AHeap.get_set_ne _ _ (by omega),AHeap.get_set_same]
  simp;omega
 ·have hsp:t.l=t.l.dropLast++[t.last]:=by
   have h0:t.l≠[]:=by intro h;rw[h]at hi;simp at hi
   have h1:=List.dropLast_concat_getLast h0
   have h2:t.l.getLast h0=t.last:=by rw[List.getLast_eq_getElem];rw[←hla];congr 1;omega
   rw[h2]at h1
   exact h1.symm
  have hset:=ndsH_set t.l.dropLast t.last i (by rw[List.length_dropLast];omega) (t.last.text++x.text)
  rw[←hsp]at hset
  rw[AHeap.get_set_same,hset]
 ·simp only[AHeap.next_set];omega
 ·simp only[AHeap.next_set];omega
 ·simp only[AHeap.next_set];omega
 ·rw[AHeap.get_set_ne _ _ j3,AHeap.get_set_ne _ _ j2];exact yo j j1
end Go.Ab
namespace Go.Ab
open Go Go.Lib Go.Proofs
def evL (x:Ev):List AV:=[.int .i64 x.kind,.str x.name,.str x.text,.lst x.attrs.length (attrsH x.attrs),.int .i64 x.line,.int .i64 x.col]
theorem Weak.evL (G:Nat→Option (List AV)) (b:AV) (x:Ev) (H:AHeap):Weak G [b,.agg (evH x)] H [b,.agg (evL x)] H:=by
 unfold evH Go.Ab.evL atH
 by_cases h:x.attrs=[]
 ·rw[if_pos h,h]
  exact Weak.nilLst ⟨.same _,.agg' ⟨.same _,.same _,.same _,.nil _ rfl,.same _,.same _,trivial⟩,trivial⟩
 ·rw[if_neg h]
  exact h_weak_refl G _ H
theorem attrsH_at:∀(l:List (List UInt8 × List UInt8)) (i:Nat) (h:i<l.length),((attrsH l).drop (i*2)).take 2=[.str l[i].1,.str l[i].2]
 | [],i,h=>by simp at h
 | a::l,0,_=>rfl
 | a::l,i+1,h=>by
  have:=attrsH_at l i (by simpa using h)
  have e:(i+1)*2=i*2+1+1:=by omega
  simp only[attrsH,List.flatMap_cons,e,List.cons_append,List.nil_append,List.drop_succ_cons,List.getElem_cons_succ]at this ⊢
  exact this
theorem TSt.add_err {t:TSt} {kind:Nat} {name text:List UInt8} {e:Nat} (h:t.add kind name text = .error e):1≤e:=by
 unfold TSt.add at h
 split at h
 ·cases h;omega
 ·cases h
theorem attrsT_err:∀(l:List (List UInt8 × List UInt8)) {t:TSt} {e:Nat},attrsT l t = .error e→1≤e
 | [],_,_,h=>by cases h
 | a::l,t,e,h=>by
  simp only[attrsT]at h
  split at h
  ·rename_i e' h1
   cases h
   exact TSt.add_err h1
  ·exact attrsT_err l h
def TreAt (H:AHeap) (xid mid:Nat) (x:Ev) (y:Nat × Bool × List (List UInt8 × Nat) × AHeap):Prop:=
 y.1≤x.attrs.length∧((x.attrs.take y.1).all fun a=>allowedS 2 a.1 a.2)=true∧(y.2.1||dupT (x.attrs.take y.1) (x.attrs.drop y.1))=dupT [] x.attrs ∧
 y.2.2.2.get xid=some (.cells 88 [.int .i64 x.kind,.str x.name,.str x.text,.lst x.attrs.length (attrsH x.attrs),.int .i64 x.line,.int .i64 x.col]) ∧
 y.2.2.2.get mid=some (.map (cntE y.2.2.1))∧CntOk y.2.2.1 (x.attrs.take y.1)∧mid<y.2.2.2.next∧∀j,j<H.next→y.2.2.2.get j=H.get j
def Tre2At (H:AHeap) (bid kl:Nat) (l:List (List UInt8 × List UInt8)) (o:Except Nat TSt) (y:Nat × TSt × Nat × AHeap):Prop:=
 y.1≤l.length∧attrsT (l.drop y.1) y.2.1=o∧TOk y.2.1∧BAt y.2.2.2 bid y.2.2.1 y.2.1∧BKeep H bid kl y.2.2.2 y.2.2.1
set_option maxHeartbeats 8000000 in
set_option maxRecDepth 100000 in
theorem t_start_ok {G:Nat→Option (List AV)} (E:Env G) {H:AHeap} {bid kl:Nat} {t:TSt} (hb:BAt H bid kl t) (hok:TOk t) {x:Ev} (hx:EvB 10000000 x) (hd : -100000000≤t.deep∧t.deep≤100000000) :
  ACalls Tryz.prog G 43 [.ptr bid 0,.agg (evH x)] H (BPost H bid kl (startT t x)):=by
 refine ACalls.weak (Weak.evL G _ x H) ?_
 refine ACalls.of Tryz.func43 S43_eq R43 N43 rfl rfl ?_
 have hb0:=hb
 obtain⟨a1,a2,a3,a4,a5⟩:=hb
 have hne:=hok.op
 have hlen:=hok.len
 have hby:=hok.bytes
 have hn:=hx.1
 have hx2:=hx.2.2.1
 simp (maxSteps:=400000) only[wF,storeA,reduceCtorEq,Nat.reduceAdd,Nat.reduceSub,Nat.reduceEqDiff,Nat.reduceLeDiff,Int.reduceToNat,Int.reduceLE,Int.reduceLT,Int.reduceAdd,Int.reduceNeg,Nat.reduceMul,S43,N43,R43,T43,AV.boxable,evL]
 generalize hX0:AHeap.allocAt H H.next _=X
 have x0:X.get H.next=some (.cells 88 [.int .i64 x.kind,.str x.name,.str x.text,.lst x.attrs.length (attrsH x.attrs),.int .i64 x.line,.int .i64 x.col]):=by rw[←hX0,AHeap.get_allocAt_same]
 have xn:X.next=H.next+1:=by rw[←hX0];simp only[AHeap.next_allocAt];omega
 have xo:∀j,j<H.next→X.get j=H.get j:=fun j hj=>by rw[←hX0,AHeap.get_allocAt_ne _ _ (by omega)]
 clear hX0
 refine AInv.pureK B56 (t_allowed1_ok E (by omega) (by simp)) fun H1 h1=>?_
 have p1:=h1.1
 have y0:=(congrFun h1.2 _).trans x0
 have yo:∀j,j<H.next→H1.get j=H.get j:=fun j hj=>(congrFun h1.2 _).trans (xo j hj)
 unfold startT
 cases hA:allowedS 1 x.name []with
 | false=>
  simp (maxSteps:=400000) only[wF,storeA,reduceCtorEq,Nat.reduceAdd,Nat.reduceSub,Nat.reduceEqDiff,Nat.reduceLeDiff,Int.reduceToNat,Int.reduceLE,Int.reduceLT,Int.reduceAdd,Int.reduceNeg,Nat.reduceMul,Bool.not_false,T43]
  exact⟨rfl,by omega,fun j j1 _ _=>yo j j1⟩
 | true=>
 rw[if_neg (by simp)]
 have f0:(H.next=H1.next)=False:=by simp;omega
 simp (maxSteps:=400000) only[wF,storeA,reduceCtorEq,Nat.reduceAdd,Nat.reduceSub,Nat.reduceEqDiff,Nat.reduceLeDiff,Int.reduceToNat,Int.reduceLE,Int.reduceLT,Int.reduceAdd,Int.reduceNeg,Nat.reduceMul,Bool.not_true,T43,y0,f0]
 generalize hX1:AHeap.allocAt H1 H1.next _=X1
 have f1:H.next<H1.next:=by omega
 have z0:X1.get H.next=some (.cells 88 [.int .i64 x.kind,.str x.name,.str x.text,.lst x.attrs.length (attrsH x.attrs),.int .i64 x.line,.int .i64 x.col]):=by rw[←hX1,AHeap.get_allocAt_ne _ _ (by omega)];exact y0
 have z1:X1.get H1.next=some (.map []):=by rw[←hX1,AHeap.get_allocAt_same]
 have zn:X1.next=H1.next+1:=by rw[←hX1];simp only[AHeap.next_allocAt];omega
 have zo:∀j,j<H.next→X1.get j=H.get j:=fun j hj=>by rw[←hX1,AHeap.get_allocAt_ne _ _ (by omega)];exact yo j hj
 clear hX1
 refine ATrS.loopK (κ:=Nat × Bool × List (List UInt8 × Nat) × AHeap) (fun y=>[.ptr bid 0,.und,.und,.ptr H.next 0,.int .i64 0,.map H1.next,.bool y.2.1]++List.replicate 12 .und++[.lst x.attrs.length (attrsH x.attrs),.int .i64 x.attrs.length,.int .i64 y.1]++List.replicate 64 .und) (fun y=>y.2.2.2)
  (TreAt H H.next H1.next x) (fun y=>x.attrs.length-y.1) ⟨(0,false,[],X1),⟨Nat.zero_le _,rfl,rfl,z0,z1,⟨by simp,by simp⟩,by simp only;omega,zo⟩,by simp[Fg],HW.refl _⟩ ?_
 clear z0 z1 zo y0 yo x0 xo
 rintro⟨i,tw,es,J⟩ ⟨hi,hal,hdu,gx,gm,hc,gn,fJ⟩
 simp only at hi hal hdu gx gm hc gn fJ
 by_cases hlt:i<x.attrs.length
 ·have d0:decide ((i:Int)<(x.attrs.length:Int))=true:=by simp;omega
  have q0:((i:Int)<(x.attrs.length:Int))=True:=by simp;omega
  have hat:=attrsH_at x.attrs i hlt
  have hle:(i*2+2≤(attrsH x.attrs).length)=True:=by rw[attrsH_len];simp;omega
  have hab:=hx.2.2.2.1 _ (List.getElem_mem hlt)
  have htk:x.attrs.take (i+1)=x.attrs.take i++[x.attrs[i]]:=by rw[List.take_succ,List.getElem?_eq_getElem hlt];rfl
  have hdr:x.attrs.drop i=x.attrs[i]::x.attrs.drop (i+1):=List.drop_eq_getElem_cons hlt
  rw[hdr]at hdu
  have hallx:(x.attrs.all fun a=>allowedS 2 a.1 a.2)=true→allowedS 2 x.attrs[i].1 x.attrs[i].2=true:=fun h=>List.all_eq_true.1 h _ (List.getElem_mem hlt)
  generalize x.attrs[i]=a at hat hab htk hdr hdu hallx
  obtain⟨an,av⟩:=a
  simp only at hat hab hallx
  have ew:IntKind.i64.wrap ((i:Int)+1)=((i+1:Nat):Int):=by rw[wrap64]<;>omega
  simp (maxSteps:=400000) only[wF,storeA,reduceCtorEq,Nat.reduceAdd,Nat.reduceSub,Nat.reduceEqDiff,Nat.reduceLeDiff,Int.reduceToNat,Int.reduceLE,Int.reduceLT,Int.reduceAdd,Int.reduceNeg,Nat.reduceMul,T43,d0,q0,indexAddrA,hat,hle]
  generalize hJ1:AHeap.set (AHeap.allocAt J J.next _) J.next _=J1
  have j0:J1.get J.next=some (.cells 132 [.str an,.str av]):=by rw[←hJ1,AHeap.get_set_same]
  have jn:J1.next=J.next+1:=by rw[←hJ1];simp only[AHeap.next_set,AHeap.next_allocAt];omega
  have jo:∀j,j<J.next→J1.get j=J.get j:=fun j hj=>by rw[←hJ1,AHeap.get_set_ne _ _ (by omega),AHeap.get_allocAt_ne _ _ (by omega)]
  clear hJ1
  refine AInv.pureK B56 (t_allowed2_ok E (by omega) (by omega)) fun J2 h2=>?_
  have p2:=h2.1
  have k0:=(congrFun h2.2 _).trans j0
  have km:=(congrFun h2.2 _).trans ((jo _ gn).trans gm)
  have kx:=(congrFun h2.2 _).trans ((jo _ (by omega)).trans gx)
  have ko:∀j,j<H.next→J2.get j=H.get j:=fun j hj=>(congrFun h2.2 _).trans ((jo _ (by omega)).trans (fJ j hj))
  cases hA2:allowedS 2 an av with
  | false=>
   have hall:(x.attrs.all fun a=>allowedS 2 a.1 a.2)=false:=by
    rcases Bool.eq_false_or_eq_true (x.attrs.all fun a=>allowedS 2 a.1 a.2)with h | h
    ·rw[hallx h]at hA2;cases hA2
    ·exact h
   rw[if_pos hall]
   simp (maxSteps:=400000) only[wF,storeA,reduceCtorEq,Nat.reduceAdd,Nat.reduceSub,Nat.reduceEqDiff,Nat.reduceLeDiff,Int.reduceToNat,Int.reduceLE,Int.reduceLT,Int.reduceAdd,Int.reduceNeg,Nat.reduceMul,Bool.not_false,T43]
   exact⟨rfl,by omega,fun j j1 _ _=>ko j j1⟩
  | true=>
   obtain⟨s1,s2⟩:=cnt_step an av hc
   have dg0:decide ((0:Int)>0)=false:=by decide
   have e01:IntKind.i64.wrap 1=((1:Nat):Int):=by rw[wrap64]<;>omega
   have hal':((x.attrs.take (i+1)).all fun a=>allowedS 2 a.1 a.2)=true:=by rw[htk,List.all_append,hal];simp[hA2]
   have hdu':((tw||(x.attrs.take i).any fun b=>b.1==an)||dupT (x.attrs.take (i+1)) (x.attrs.drop (i+1)))=dupT [] x.attrs:=by
    rw[←hdu,htk,Bool.or_assoc]
    rfl
   rw[←htk]at s1 s2
   have htl:(x.attrs.take i).length=i:=by rw[List.length_take];omega
   rcases Bool.eq_false_or_eq_true ((x.attrs.take i).any fun b=>b.1==an)with hf | hf
   ·obtain⟨j,c,es',hfind,w2,w3,w4,w5⟩:=s1 hf
    have dgc:decide ((c:Int)>0)=true:=by simp;omega
    have ec:IntKind.i64.wrap ((c:Int)+1)=((c+1:Nat):Int):=by rw[wrap64]<;>omega
    rw[hf,Bool.or_true]at hdu'
    cases tw with
    | true=>
     simp (maxSteps:=400000) only[wF,storeA,reduceCtorEq,Nat.reduceAdd,Nat.reduceSub,Nat.reduceEqDiff,Nat.reduceLeDiff,Int.reduceToNat,Int.reduceLE,Int.reduceLT,Int.reduceAdd,Int.reduceNeg,Nat.reduceMul,T43,Bool.not_true,k0,km,lookupA,updateA,keyT,entriesA,hfind,dgc,ec,ew]
     refine⟨(i+1,true,es',_),⟨by simp only;omega,hal',hdu',?_,?_,w5,?_,fun j hj=>?_⟩,by simp only;omega,by simp[Fg],HW.refl _⟩
     ·show(AHeap.set _ _ _).get _=_
      rw[AHeap.get_set_ne _ _ (by omega)];exact kx
     ·show(AHeap.set _ _ _).get _=_
      rw[AHeap.get_set_same,w4]
     ·simp only[AHeap.next_set];omega
     ·show(AHeap.set _ _ _).get _=_
      rw[AHeap.get_set_ne _ _ (by omega)];exact ko j hj
    | false=>
     simp (maxSteps:=400000) only[wF,storeA,reduceCtorEq,Nat.reduceAdd,Nat.reduceSub,Nat.reduceEqDiff,Nat.reduceLeDiff,Int.reduceToNat,Int.reduceLE,Int.reduceLT,Int.reduceAdd,Int.reduceNeg,Nat.reduceMul,T43,Bool.not_true,k0,km,lookupA,updateA,keyT,entriesA,hfind,dgc,ec,ew]
     refine⟨(i+1,true,es',_),⟨by simp only;omega,hal',hdu',?_,?_,w5,?_,fun j hj=>?_⟩,by simp only;omega,by simp[Fg],HW.refl _⟩
     ·show(AHeap.set _ _ _).get _=_
      rw[AHeap.get_set_ne _ _ (by omega)];exact kx
     ·show(AHeap.set _ _ _).get _=_
      rw[AHeap.get_set_same,w4]
     ·simp only[AHeap.next_set];omega
     ·show(AHeap.set _ _ _).get _=_
      rw[AHeap.get_set_ne _ _ (by omega)];exact ko j hj
   ·obtain⟨hfind,es',w4,w5⟩:=s2 hf
    rw[hf,Bool.or_false]at hdu'
    cases tw with
    | true=>
     simp (maxSteps:=400000) only[wF,storeA,reduceCtorEq,Nat.reduceAdd,Nat.reduceSub,Nat.reduceEqDiff,Nat.reduceLeDiff,Int.reduceToNat,Int.reduceLE,Int.reduceLT,Int.reduceAdd,Int.reduceNeg,Nat.reduceMul,T43,Bool.not_true,k0,km,lookupA,updateA,keyT,entriesA,hfind,dg0,e01,ew]
     refine⟨(i+1,true,es',_),⟨by simp only;omega,hal',hdu',?_,?_,w5,?_,fun j hj=>?_⟩,by simp only;omega,by simp[Fg],HW.refl _⟩
     ·show(AHeap.set _ _ _).get _=_
      rw[AHeap.get_set_ne _ _ (by omega)];exact kx
     ·show(AHeap.set _ _ _).get _=_
      rw[AHeap.get_set_same,w4]
     ·simp only[AHeap.next_set];omega
     ·show(AHeap.set _ _ _).get _=_
      rw[AHeap.get_set_ne _ _ (by omega)];exact ko j hj
    | false=>
     simp (maxSteps:=400000) only[wF,storeA,reduceCtorEq,Nat.reduceAdd,Nat.reduceSub,Nat.reduceEqDiff,Nat.reduceLeDiff,Int.reduceToNat,Int.reduceLE,Int.reduceLT,Int.reduceAdd,Int.reduceNeg,Nat.reduceMul,T43,Bool.not_true,k0,km,lookupA,updateA,keyT,entriesA,hfind,dg0,e01,ew]
     refine⟨(i+1,false,es',_),⟨by simp only;omega,hal',hdu',?_,?_,w5,?_,fun j hj=>?_⟩,by simp only;omega,by simp[Fg],HW.refl _⟩
     ·show(AHeap.set _ _ _).get _=_
      rw[AHeap.get_set_ne _ _ (by omega)];exact kx
     ·show(AHeap.set _ _ _).get _=_
      rw[AHeap.get_set_same,w4]
     ·simp only[AHeap.next_set];omega
     ·show(AHeap.set _ _ _).get _=_
      rw[AHeap.get_set_ne _ _ (by omega)];exact ko j hj
 have hil:i=x.attrs.length:=by omega
 subst hil
 rw[List.take_length]at hal
 rw[List.take_length,List.drop_length,show dupT x.attrs []=false from rfl,Bool.or_false]at hdu
 rw[if_neg (by rw[hal];simp),←hdu]
 clear hdu hc hlt hi
 have d0:decide ((x.attrs.length:Int)<(x.attrs.length:Int))=false:=by simp
 cases tw with
 | true=>
  simp (maxSteps:=400000) only[wF,storeA,reduceCtorEq,Nat.reduceAdd,Nat.reduceSub,Nat.reduceEqDiff,Nat.reduceLeDiff,Int.reduceToNat,Int.reduceLE,Int.reduceLT,Int.reduceAdd,Int.reduceNeg,Nat.reduceMul,T43,d0]
  exact⟨rfl,by omega,fun j j1 _ _=>fJ j j1⟩
 | false=>
 rw[if_neg (by simp)]
 simp (maxSteps:=400000) only[wF,storeA,reduceCtorEq,Nat.reduceAdd,Nat.reduceSub,Nat.reduceEqDiff,Nat.reduceLeDiff,Int.reduceToNat,Int.reduceLE,Int.reduceLT,Int.reduceAdd,Int.reduceNeg,Nat.reduceMul,T43,d0,gx]
 obtain⟨b1,k1⟩:=hb0.keep (show Kept H J from ⟨by omega,fJ⟩)
 refine AInv.call B79 (t_add_ok G b1 (kind:=1) hlen hby (by simp)) fun r J1 h1=>?_
 cases ho:t.add 1 x.name []with
 | error e=>
  rw[ho]at h1
  obtain⟨rfl,n1,o1⟩:=h1
  have he:((e:Int) != 0)=true:=by have:=TSt.add_err ho;simp;omega
  simp (maxSteps:=400000) only[wF,storeA,reduceCtorEq,Nat.reduceAdd,Nat.reduceSub,Nat.reduceEqDiff,Nat.reduceLeDiff,Int.reduceToNat,Int.reduceLE,Int.reduceLT,Int.reduceAdd,Int.reduceNeg,Nat.reduceMul,T43,he]
  exact⟨rfl,by omega,fun j j1 j2 j3=>by rw[o1 j (by omega) j2 j3];exact fJ j j1⟩
 | ok t1=>
  rw[ho]at h1
  obtain⟨rfl,kl1,b2,k2⟩:=h1
  obtain⟨hok1,to1,td1,tl1⟩:=hok.add ho
  have hb2:=b2
  obtain⟨c1,c2,c3,c4,c5⟩:=b2
  have k12:=k1.trans k2
  obtain⟨n2,o2,f2⟩:=k2
  have gx1:=(f2 _ (by omega) (by omega) (by omega)).trans gx
  have he:(((0:Nat):Int) != 0)=false:=rfl
  have el:IntKind.i64.wrap ((t1.l.length:Int)-1)=(t.l.length:Int):=by rw[tl1,wrap64]<;>omega
  have ed:IntKind.i64.wrap (t1.deep+1)=t.deep+1:=by rw[td1,wrap64]<;>omega
  have v1:(H.next=bid)=False:=by simp;omega
  have v2:(bid=H.next)=False:=by simp;omega
  simp (maxSteps:=400000) only[wF,storeA,reduceCtorEq,Nat.reduceAdd,Nat.reduceSub,Nat.reduceEqDiff,Nat.reduceLeDiff,Int.reduceToNat,Int.reduceLE,Int.reduceLT,Int.reduceAdd,Int.reduceNeg,Nat.reduceMul,T43,he,c1,el,ed,gx1,v1,v2,h_set_set]
  generalize hX2:AHeap.set J1 bid _=X2
  have hb3:BAt X2 bid kl1 { t1 with op:=t.l.length,deep:=t.deep+1 }:=by
   rw[←hX2]
   exact⟨by rw[AHeap.get_set_same],by rw[AHeap.get_set_ne _ _ (by omega)];exact c2,c3,by simp only[AHeap.next_set];omega,by simp only[AHeap.next_set];omega⟩
  have k3:BKeep H bid kl X2 kl1:=by
   obtain⟨m1,m2,m3⟩:=k12
   rw[←hX2]
   exact⟨by simp only[AHeap.next_set];omega,m2,fun j j1 j2 j3=>by rw[AHeap.get_set_ne _ _ j2];exact m3 j j1 j2 j3⟩
  have hok3:TOk { t1 with op:=t.l.length,deep:=t.deep+1 }:=⟨by simp only;omega,hok1.up,hok1.len,hok1.bytes⟩
  clear hX2
  generalize ({ t1 with op:=t.l.length,deep:=t.deep+1 }:TSt)=t2 at hb3 hok3 ⊢
  refine ATrS.loopK (κ:=Nat × TSt × Nat × AHeap) (fun y=>[.ptr bid 0]++List.replicate 69 .und++[.lst x.attrs.length (attrsH x.attrs),.int .i64 x.attrs.length,.int .i64 y.1]++List.replicate 13 .und) (fun y=>y.2.2.2)
   (Tre2At H bid kl x.attrs (attrsT x.attrs t2)) (fun y=>x.attrs.length-y.1) ⟨(0,t2,kl1,X2),⟨Nat.zero_le _,rfl,hok3,hb3,k3⟩,by simp[Fg],HW.refl _⟩ ?_
  rintro⟨i,u,kl3,Y⟩ ⟨hi,hfo,hoku,hbu,hku⟩
  simp only at hi hfo hoku hbu hku
  by_cases hlt:i<x.attrs.length
  ·have d0:decide ((i:Int)<(x.attrs.length:Int))=true:=by simp;omega
   have q0:((i:Int)<(x.attrs.length:Int))=True:=by simp;omega
   have hat:=attrsH_at x.attrs i hlt
   have hle:(i*2+2≤(attrsH x.attrs).length)=True:=by rw[attrsH_len];simp;omega
   have hab:=hx.2.2.2.1 _ (List.getElem_mem hlt)
   have hdr:x.attrs.drop i=x.attrs[i]::x.attrs.drop (i+1):=List.drop_eq_getElem_cons hlt
   rw[hdr]at hfo
   generalize x.attrs[i]=a at hat hab hfo
   obtain⟨an,av⟩:=a
   simp only[attrsT]at hfo
   simp only at hat hab
   have ew:IntKind.i64.wrap ((i:Int)+1)=((i+1:Nat):Int):=by rw[wrap64]<;>omega
   simp (maxSteps:=400000) only[wF,storeA,reduceCtorEq,Nat.reduceAdd,Nat.reduceSub,Nat.reduceEqDiff,Nat.reduceLeDiff,Int.reduceToNat,Int.reduceLE,Int.reduceLT,Int.reduceAdd,Int.reduceNeg,Nat.reduceMul,T43,d0,q0,indexAddrA,hat,hle]
   generalize hY1:AHeap.set (AHeap.allocAt Y Y.next _) Y.next _=Y1
   have yn:Y1.next=Y.next+1:=by rw[←hY1];simp only[AHeap.next_set,AHeap.next_allocAt];omega
   have yo:∀j,j<Y.next→Y1.get j=Y.get j:=fun j hj=>by rw[←hY1,AHeap.get_set_ne _ _ (by omega),AHeap.get_allocAt_ne _ _ (by omega)]
   clear hY1
   obtain⟨b5,k5⟩:=hbu.keep (show Kept Y Y1 from ⟨by omega,yo⟩)
   refine AInv.call B79 (t_add_ok G b5 (kind:=2) hoku.len hoku.bytes (by omega)) fun r Y2 h2=>?_
   have k7:=hku.trans k5
   cases hoa:u.add 2 an av with
   | error e=>
    rw[hoa]at h2 hfo
    obtain⟨rfl,n3,f3⟩:=h2
    have he:((e:Int) != 0)=true:=by have:=TSt.add_err hoa;simp;omega
    simp (maxSteps:=400000) only[wF,storeA,reduceCtorEq,Nat.reduceAdd,Nat.reduceSub,Nat.reduceEqDiff,Nat.reduceLeDiff,Int.reduceToNat,Int.reduceLE,Int.reduceLT,Int.reduceAdd,Int.reduceNeg,Nat.reduceMul,T43,he]
    rw[←hfo]
    obtain⟨m1,m2,m3⟩:=k7
    exact⟨rfl,by omega,fun j j1 j2 j3=>by rw[f3 j (by omega) j2 (by rcases m2 with h | h<;>omega)];exact m3 j j1 j2 j3⟩
   | ok u'=>
    rw[hoa]at h2 hfo
    obtain⟨rfl,kl4,b6,k6⟩:=h2
    simp (maxSteps:=400000) only[wF,storeA,reduceCtorEq,Nat.reduceAdd,Nat.reduceSub,Nat.reduceEqDiff,Nat.reduceLeDiff,Int.reduceToNat,Int.reduceLE,Int.reduceLT,Int.reduceAdd,Int.reduceNeg,Nat.reduceMul,T43,he,ew]
    exact⟨(i+1,u',kl4,Y2),⟨hlt,hfo,(hoku.add hoa).1,b6,k7.trans k6⟩,by simp only;omega,by simp[Fg],HW.refl _⟩
  ·have d0:decide ((i:Int)<(x.attrs.length:Int))=false:=by simp;omega
   rw[List.drop_eq_nil_of_le (by omega)]at hfo
   simp only[attrsT]at hfo
   simp (maxSteps:=400000) only[wF,storeA,reduceCtorEq,Nat.reduceAdd,Nat.reduceSub,Nat.reduceEqDiff,Nat.reduceLeDiff,Int.reduceToNat,Int.reduceLE,Int.reduceLT,Int.reduceAdd,Int.reduceNeg,Nat.reduceMul,T43,d0]
   rw[←hfo]
   exact⟨rfl,kl3,hbu,hku⟩
end Go.Ab
