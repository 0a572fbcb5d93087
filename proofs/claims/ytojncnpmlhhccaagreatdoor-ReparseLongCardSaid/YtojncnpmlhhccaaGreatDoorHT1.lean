/- tree's allowed and the builder's add, walked. -/
import Derived.Test.YtojncnpmlhhccaaGreatDoorHW8
set_option linter.all false
namespace Go.Ab
open Go Go.Lib Go.Proofs
structure EnvT (G:Nat→Option (List AV)):Prop where
 suf:∀s p,s.length≤1000000000→PureCall Tryz.prog G 88 [.str s,.str p] (.bool (Lib.hasSuffix s p))
 sufB:bodyT Tryz.prog 88=true
 low:∀s,s.length≤1000000000→PureCall Tryz.prog G 89 [.str s] (.str (Lib.toLowerD s))
 lowB:bodyT Tryz.prog 89=true
 any:∀s,s.length≤1→PureCall Tryz.prog G 85 [.str s,.str [32,9,13,10]] (.bool (Lib.containsAny s [32,9,13,10]))
 anyB:bodyT Tryz.prog 85=true
theorem t_allowed1_ok {G:Nat→Option (List AV)} (E:Env G) {name text:List UInt8} (hn:name.length≤1000000000) (ht:text.length≤1000000000):PureCall Tryz.prog G 56 [.int .i64 1,.str name,.str text] (.bool (allowedS 1 name text)):=by
 intro H
 refine ACalls.keep (ACalls.of Tryz.func56 S56_eq R56 N56 rfl rfl ?_)
 have z0:((1:Int)==0)=false:=rfl
 have z1:((1:Int)==1)=true:=rfl
 simp (maxSteps:=400000) only[wF,storeA,reduceCtorEq,Nat.reduceAdd,Nat.reduceSub,Nat.reduceEqDiff,Nat.reduceLeDiff,Int.reduceToNat,Int.reduceLE,Int.reduceLT,Int.reduceAdd,Int.reduceNeg,Nat.reduceMul,S56,N56,R56]
 refine AInv.pureK B23 (isText_ok E ht) fun H1 h1=>?_
 unfold allowedS
 cases hT:isTextS text with
 | false=>
  simp (maxSteps:=400000) only[wF,storeA,reduceCtorEq,Nat.reduceAdd,Nat.reduceSub,Nat.reduceEqDiff,Nat.reduceLeDiff,Int.reduceToNat,Int.reduceLE,Int.reduceLT,Int.reduceAdd,Int.reduceNeg,Nat.reduceMul,Bool.not_false]
  exact⟨by simp,h1.post⟩
 | true=>
  simp (maxSteps:=400000) only[wF,storeA,reduceCtorEq,Nat.reduceAdd,Nat.reduceSub,Nat.reduceEqDiff,Nat.reduceLeDiff,Int.reduceToNat,Int.reduceLE,Int.reduceLT,Int.reduceAdd,Int.reduceNeg,Nat.reduceMul,Bool.not_true,z0,z1]
  refine AInv.pureK B80 (isName_ok E hn) fun H2 h2=>?_
  cases hN:isNameS name with
  | false=>
   simp (maxSteps:=400000) only[wF,storeA,reduceCtorEq,Nat.reduceAdd,Nat.reduceSub,Nat.reduceEqDiff,Nat.reduceLeDiff,Int.reduceToNat,Int.reduceLE,Int.reduceLT,Int.reduceAdd,Int.reduceNeg,Nat.reduceMul,]
   first | exact⟨by simp,(h1.trans h2).post⟩ | exact(h1.trans h2).post
  | true=>
   simp (maxSteps:=400000) only[wF,storeA,reduceCtorEq,Nat.reduceAdd,Nat.reduceSub,Nat.reduceEqDiff,Nat.reduceLeDiff,Int.reduceToNat,Int.reduceLE,Int.reduceLT,Int.reduceAdd,Int.reduceNeg,Nat.reduceMul,]
   first | exact⟨by simp,(h1.trans h2).post⟩ | exact(h1.trans h2).post
theorem t_allowed2_ok {G:Nat→Option (List AV)} (E:Env G) {name text:List UInt8} (hn:name.length≤1000000000) (ht:text.length≤1000000000):PureCall Tryz.prog G 56 [.int .i64 2,.str name,.str text] (.bool (allowedS 2 name text)):=by
 intro H
 refine ACalls.keep (ACalls.of Tryz.func56 S56_eq R56 N56 rfl rfl ?_)
 have z0:((2:Int)==0)=false:=rfl
 have z1:((2:Int)==1)=false:=rfl
 have z2:((2:Int)==2)=true:=rfl
 simp (maxSteps:=400000) only[wF,storeA,reduceCtorEq,Nat.reduceAdd,Nat.reduceSub,Nat.reduceEqDiff,Nat.reduceLeDiff,Int.reduceToNat,Int.reduceLE,Int.reduceLT,Int.reduceAdd,Int.reduceNeg,Nat.reduceMul,S56,N56,R56]
 refine AInv.pureK B23 (isText_ok E ht) fun H1 h1=>?_
 unfold allowedS
 cases hT:isTextS text with
 | false=>
  simp (maxSteps:=400000) only[wF,storeA,reduceCtorEq,Nat.reduceAdd,Nat.reduceSub,Nat.reduceEqDiff,Nat.reduceLeDiff,Int.reduceToNat,Int.reduceLE,Int.reduceLT,Int.reduceAdd,Int.reduceNeg,Nat.reduceMul,Bool.not_false]
  exact⟨by simp,h1.post⟩
 | true=>
  simp (maxSteps:=400000) only[wF,storeA,reduceCtorEq,Nat.reduceAdd,Nat.reduceSub,Nat.reduceEqDiff,Nat.reduceLeDiff,Int.reduceToNat,Int.reduceLE,Int.reduceLT,Int.reduceAdd,Int.reduceNeg,Nat.reduceMul,Bool.not_true,z0,z1,z2]
  refine AInv.pureK B80 (isName_ok E hn) fun H2 h2=>?_
  simp (maxSteps:=400000) only[wF,storeA,reduceCtorEq,Nat.reduceAdd,Nat.reduceSub,Nat.reduceEqDiff,Nat.reduceLeDiff,Int.reduceToNat,Int.reduceLE,Int.reduceLT,Int.reduceAdd,Int.reduceNeg,Nat.reduceMul,]
  first | exact⟨by simp,(h1.trans h2).post⟩ | exact(h1.trans h2).post
theorem t_allowed4_ok {G:Nat→Option (List AV)} (E:Env G) (X:EnvH G) (T:EnvT G) {text:List UInt8} (ht:text.length≤1000000000):PureCall Tryz.prog G 56 [.int .i64 4,.str [],.str text] (.bool (allowedS 4 [] text)):=by
 intro H
 refine ACalls.keep (ACalls.of Tryz.func56 S56_eq R56 N56 rfl rfl ?_)
 have z0:((4:Int)==0)=false:=rfl
 have z1:((4:Int)==1)=false:=rfl
 have z2:((4:Int)==2)=false:=rfl
 have z3:((4:Int)==3)=false:=rfl
 have z4:((4:Int)==4)=true:=rfl
 have ze:(([]:List UInt8)==[])=true:=rfl
 simp (maxSteps:=400000) only[wF,storeA,reduceCtorEq,Nat.reduceAdd,Nat.reduceSub,Nat.reduceEqDiff,Nat.reduceLeDiff,Int.reduceToNat,Int.reduceLE,Int.reduceLT,Int.reduceAdd,Int.reduceNeg,Nat.reduceMul,S56,N56,R56]
 refine AInv.pureK B23 (isText_ok E ht) fun H1 h1=>?_
 unfold allowedS
 cases hT:isTextS text with
 | false=>
  simp (maxSteps:=400000) only[wF,storeA,reduceCtorEq,Nat.reduceAdd,Nat.reduceSub,Nat.reduceEqDiff,Nat.reduceLeDiff,Int.reduceToNat,Int.reduceLE,Int.reduceLT,Int.reduceAdd,Int.reduceNeg,Nat.reduceMul,Bool.not_false]
  exact⟨by simp,h1.post⟩
 | true=>
  simp (maxSteps:=400000) only[wF,storeA,reduceCtorEq,Nat.reduceAdd,Nat.reduceSub,Nat.reduceEqDiff,Nat.reduceLeDiff,Int.reduceToNat,Int.reduceLE,Int.reduceLT,Int.reduceAdd,Int.reduceNeg,Nat.reduceMul,Bool.not_true,z0,z1,z2,z3,z4,ze]
  refine AInv.pureK X.hasB (X.has _ _ ht) fun H2 h2=>?_
  cases hC:Lib.contains text [45,45]with
  | true=>
   simp (maxSteps:=400000) only[wF,storeA,reduceCtorEq,Nat.reduceAdd,Nat.reduceSub,Nat.reduceEqDiff,Nat.reduceLeDiff,Int.reduceToNat,Int.reduceLE,Int.reduceLT,Int.reduceAdd,Int.reduceNeg,Nat.reduceMul,Bool.not_true]
   exact⟨by simp[sDash,hC],(h1.trans h2).post⟩
  | false=>
   simp (maxSteps:=400000) only[wF,storeA,reduceCtorEq,Nat.reduceAdd,Nat.reduceSub,Nat.reduceEqDiff,Nat.reduceLeDiff,Int.reduceToNat,Int.reduceLE,Int.reduceLT,Int.reduceAdd,Int.reduceNeg,Nat.reduceMul,Bool.not_false]
   refine AInv.pureK T.sufB (T.suf _ _ ht) fun H3 h3=>?_
   simp (maxSteps:=400000) only[wF,storeA,reduceCtorEq,Nat.reduceAdd,Nat.reduceSub,Nat.reduceEqDiff,Nat.reduceLeDiff,Int.reduceToNat,Int.reduceLE,Int.reduceLT,Int.reduceAdd,Int.reduceNeg,Nat.reduceMul,]
   exact⟨by simp[sDash,hC],((h1.trans h2).trans h3).post⟩
theorem t_allowed5_ok {G:Nat→Option (List AV)} (E:Env G) (X:EnvH G) (T:EnvT G) {name text:List UInt8} (hn:name.length≤1000000000) (ht:text.length≤1000000000):PureCall Tryz.prog G 56 [.int .i64 5,.str name,.str text] (.bool (allowedS 5 name text)):=by
 intro H
 refine ACalls.keep (ACalls.of Tryz.func56 S56_eq R56 N56 rfl rfl ?_)
 have z0:((5:Int)==0)=false:=rfl
 have z1:((5:Int)==1)=false:=rfl
 have z2:((5:Int)==2)=false:=rfl
 have z3:((5:Int)==3)=false:=rfl
 have z4:((5:Int)==4)=false:=rfl
 have z5:((5:Int)==5)=true:=rfl
 simp (maxSteps:=400000) only[wF,storeA,reduceCtorEq,Nat.reduceAdd,Nat.reduceSub,Nat.reduceEqDiff,Nat.reduceLeDiff,Int.reduceToNat,Int.reduceLE,Int.reduceLT,Int.reduceAdd,Int.reduceNeg,Nat.reduceMul,S56,N56,R56]
 refine AInv.pureK B23 (isText_ok E ht) fun H1 h1=>?_
 unfold allowedS
 cases hT:isTextS text with
 | false=>
  simp (maxSteps:=400000) only[wF,storeA,reduceCtorEq,Nat.reduceAdd,Nat.reduceSub,Nat.reduceEqDiff,Nat.reduceLeDiff,Int.reduceToNat,Int.reduceLE,Int.reduceLT,Int.reduceAdd,Int.reduceNeg,Nat.reduceMul,Bool.not_false]
  exact⟨by simp,h1.post⟩
 | true=>
  simp (maxSteps:=400000) only[wF,storeA,reduceCtorEq,Nat.reduceAdd,Nat.reduceSub,Nat.reduceEqDiff,Nat.reduceLeDiff,Int.reduceToNat,Int.reduceLE,Int.reduceLT,Int.reduceAdd,Int.reduceNeg,Nat.reduceMul,Bool.not_true,z0,z1,z2,z3,z4,z5]
  refine AInv.pureK B80 (isName_ok E hn) fun H2 h2=>?_
  cases hN:isNameS name with
  | false=>
   simp (maxSteps:=400000) only[wF,storeA,reduceCtorEq,Nat.reduceAdd,Nat.reduceSub,Nat.reduceEqDiff,Nat.reduceLeDiff,Int.reduceToNat,Int.reduceLE,Int.reduceLT,Int.reduceAdd,Int.reduceNeg,Nat.reduceMul,]
   first | exact⟨by simp,(h1.trans h2).post⟩ | exact(h1.trans h2).post
  | true=>
   simp (maxSteps:=400000) only[wF,storeA,reduceCtorEq,Nat.reduceAdd,Nat.reduceSub,Nat.reduceEqDiff,Nat.reduceLeDiff,Int.reduceToNat,Int.reduceLE,Int.reduceLT,Int.reduceAdd,Int.reduceNeg,Nat.reduceMul,]
   refine AInv.pureK T.lowB (T.low _ hn) fun H3 h3=>?_
   cases hL:(Lib.toLowerD name==[120,109,108])with
   | true=>
    simp (maxSteps:=400000) only[wF,storeA,reduceCtorEq,Nat.reduceAdd,Nat.reduceSub,Nat.reduceEqDiff,Nat.reduceLeDiff,Int.reduceToNat,Int.reduceLE,Int.reduceLT,Int.reduceAdd,Int.reduceNeg,Nat.reduceMul,hL,Bool.not_true]
    exact⟨by simp only[bne,hL];simp,((h1.trans h2).trans h3).post⟩
   | false=>
    simp (maxSteps:=400000) only[wF,storeA,reduceCtorEq,Nat.reduceAdd,Nat.reduceSub,Nat.reduceEqDiff,Nat.reduceLeDiff,Int.reduceToNat,Int.reduceLE,Int.reduceLT,Int.reduceAdd,Int.reduceNeg,Nat.reduceMul,hL,Bool.not_false]
    refine AInv.pureK X.hasB (X.has _ _ ht) fun H4 h4=>?_
    cases hC:Lib.contains text [63,62]with
    | true=>
     simp (maxSteps:=400000) only[wF,storeA,reduceCtorEq,Nat.reduceAdd,Nat.reduceSub,Nat.reduceEqDiff,Nat.reduceLeDiff,Int.reduceToNat,Int.reduceLE,Int.reduceLT,Int.reduceAdd,Int.reduceNeg,Nat.reduceMul,Bool.not_true]
     exact⟨by simp[hC],(((h1.trans h2).trans h3).trans h4).post⟩
    | false=>
     have hm:(if(text.length:Int)<1 then(text.length:Int)else 1)=((min 1 text.length:Nat):Int):=by split<;>omega
     have v0:((0:Int)≤((min 1 text.length:Nat):Int))=True:=by simp
     have v1:(((min 1 text.length:Nat):Int)≤(text.length:Int))=True:=by simp;omega
     simp (maxSteps:=400000) only[wF,storeA,reduceCtorEq,Nat.reduceAdd,Nat.reduceSub,Nat.reduceEqDiff,Nat.reduceLeDiff,Int.reduceToNat,Int.reduceLE,Int.reduceLT,Int.reduceAdd,Int.reduceNeg,Nat.reduceMul,Bool.not_false,T56,minA,hm,v0,v1]
     refine AInv.pureK T.anyB (T.any _ (by simp only[List.length_take];omega)) fun H5 h5=>?_
     simp (maxSteps:=400000) only[wF,storeA,reduceCtorEq,Nat.reduceAdd,Nat.reduceSub,Nat.reduceEqDiff,Nat.reduceLeDiff,Int.reduceToNat,Int.reduceLE,Int.reduceLT,Int.reduceAdd,Int.reduceNeg,Nat.reduceMul,]
     exact⟨by simp[hC,hL,bne],((((h1.trans h2).trans h3).trans h4).trans h5).post⟩
def BAt (J:AHeap) (bid kl:Nat) (t:TSt):Prop:=
 J.get bid=some (.cells 85 [.slc kl t.l.length,.int .i64 t.op,.int .i64 t.deep,.int .i64 t.bytes])∧J.get kl=some (.row 36 4 (ndsH t.l))∧bid≠kl∧bid<J.next∧kl<J.next
def BKeep (J:AHeap) (bid kl:Nat) (J':AHeap) (kl':Nat):Prop:=J.next≤J'.next∧(kl'=kl∨J.next≤kl')∧∀j,j<J.next→j≠bid→j≠kl→J'.get j=J.get j
def BPost (J:AHeap) (bid kl:Nat) (o:Except Nat TSt) (r:ARes) (J':AHeap):Prop:=
 match o with
 | .error e=>r = .ret (.int .i64 e)∧J.next≤J'.next∧∀j,j<J.next→j≠bid→j≠kl→J'.get j=J.get j
 | .ok t'=>r = .ret (.int .i64 (0:Nat))∧∃kl',BAt J' bid kl' t'∧BKeep J bid kl J' kl'
theorem ndsH_len (l:List Nd):(ndsH l).length=l.length*4:=by
 induction l with
 | nil=>rfl
 | cons a l ih=>simp only[ndsH,List.flatMap_cons,List.length_append,ndH,List.length_cons,List.length_nil]at ih ⊢;rw[ih];omega
theorem ndsH_app (l m:List Nd):ndsH (l++m)=ndsH l++ndsH m:=by simp[ndsH]
theorem BAt.keep {J J':AHeap} {bid kl:Nat} {t:TSt} (h:BAt J bid kl t) (hk:Kept J J'):BAt J' bid kl t∧BKeep J bid kl J' kl:=by
 obtain⟨a1,a2,a3,a4,a5⟩:=h
 have:=hk.1
 exact⟨⟨(hk.2 _ a4).trans a1,(hk.2 _ a5).trans a2,a3,by omega,by omega⟩,this,.inl rfl,fun j hj _ _=>hk.2 j hj⟩
theorem BKeep.trans {A B C:AHeap} {bid kl kl1 kl2:Nat} (h:BKeep A bid kl B kl1) (h':BKeep B bid kl1 C kl2):BKeep A bid kl C kl2:=by
 obtain⟨a1,a2,a4⟩:=h
 obtain⟨b1,b2,b4⟩:=h'
 refine⟨by omega,?_,fun j j1 j2 j3=>?_⟩
 ·rcases b2 with h | h
  ·rw[h];exact a2
  ·exact .inr (by omega)
 ·rw[b4 j (by omega) j2 (by rcases a2 with h | h<;>omega)]
  exact a4 j j1 j2 j3
set_option maxHeartbeats 4000000 in
set_option maxRecDepth 100000 in
theorem t_add_ok (G:Nat→Option (List AV)) {H:AHeap} {bid kl:Nat} {t:TSt} (hb:BAt H bid kl t) {kind:Nat} {name text:List UInt8} (hl:t.l.length≤65536) (hby:t.bytes≤1048576) (ht:text.length≤1000000000) :
  ACalls Tryz.prog G 79 [.ptr bid 0,.int .i64 kind,.str name,.str text] H (BPost H bid kl (t.add kind name text)):=by
 refine ACalls.of Tryz.func79 S79_eq R79 N79 rfl rfl ?_
 have hb0:=hb
 obtain⟨a1,a2,a3,a4,a5⟩:=hb
 have err:t.add kind name text = .error 2→BPost H bid kl (t.add kind name text) (.ret (.int .i64 2)) H:=fun h=>by
  rw[h]
  exact⟨rfl,Nat.le_refl _,fun _ _ _ _=>rfl⟩
 by_cases c1:65536≤t.l.length
 ·have d1:decide ((t.l.length:Int)≥65536)=true:=by simp;omega
  simp (maxSteps:=400000) only[wF,storeA,reduceCtorEq,Nat.reduceAdd,Nat.reduceSub,Nat.reduceEqDiff,Nat.reduceLeDiff,Int.reduceToNat,Int.reduceLE,Int.reduceLT,Int.reduceAdd,Int.reduceNeg,Nat.reduceMul,S79,N79,R79,T79,a1,a2,d1]
  exact err (by unfold TSt.add;rw[if_pos (.inl c1)])
 have d1:decide ((t.l.length:Int)≥65536)=false:=by simp;omega
 have e1:IntKind.i64.wrap (1048576-(t.bytes:Int))=1048576-(t.bytes:Int):=by rw[wrap64]<;>omega
 have e2:IntKind.i64.wrap ((t.bytes:Int)+(text.length:Int))=((t.bytes+text.length:Nat):Int):=by rw[wrap64]<;>omega
 have u1:(H.next==kl)=false:=by simp;omega
 have u2:(t.l.length+1≤maxApp)=True:=by simp[maxApp];omega
 have u3:(kl=H.next)=False:=by simp;omega
 have u5:(bid=H.next)=False:=by simp;omega
 have u6:(bid=H.next+1)=False:=by simp;omega
 have u7:(bid=kl)=False:=by simp;omega
 have u8:(kl=bid)=False:=by simp;omega
 by_cases c2:kind≠2∧200≤t.deep
 ·have d2:((kind:Int) != 2)=true:=by simp;omega
  have d3:decide (t.deep≥200)=true:=by simp;omega
  simp (maxSteps:=400000) only[wF,storeA,reduceCtorEq,Nat.reduceAdd,Nat.reduceSub,Nat.reduceEqDiff,Nat.reduceLeDiff,Int.reduceToNat,Int.reduceLE,Int.reduceLT,Int.reduceAdd,Int.reduceNeg,Nat.reduceMul,S79,N79,R79,T79,a1,a2,d1,d2,d3]
  exact err (by unfold TSt.add;rw[if_pos (.inr (.inl c2))])
 have hd:((kind:Int) != 2)=false∨((kind:Int) != 2)=true∧decide (t.deep≥200)=false:=by
  by_cases hk:kind=2
  ·exact .inl (by simp;omega)
  ·exact .inr ⟨by simp;omega,by simp;omega⟩
 by_cases c3:1048576<t.bytes+text.length
 ·have d4:decide ((text.length:Int)>1048576-(t.bytes:Int))=true:=by simp;omega
  have he:=err (by unfold TSt.add;rw[if_pos (.inr (.inr c3))])
  rcases hd with d2 | ⟨d2,d3⟩
  ·simp (maxSteps:=400000) only[wF,storeA,reduceCtorEq,Nat.reduceAdd,Nat.reduceSub,Nat.reduceEqDiff,Nat.reduceLeDiff,Int.reduceToNat,Int.reduceLE,Int.reduceLT,Int.reduceAdd,Int.reduceNeg,Nat.reduceMul,S79,N79,R79,T79,a1,a2,d1,d2,e1,d4]
   exact he
  ·simp (maxSteps:=400000) only[wF,storeA,reduceCtorEq,Nat.reduceAdd,Nat.reduceSub,Nat.reduceEqDiff,Nat.reduceLeDiff,Int.reduceToNat,Int.reduceLE,Int.reduceLT,Int.reduceAdd,Int.reduceNeg,Nat.reduceMul,S79,N79,R79,T79,a1,a2,d1,d2,d3,e1,d4]
   exact he
 have d4:decide ((text.length:Int)>1048576-(t.bytes:Int))=false:=by simp;omega
 have hR:t.add kind name text = .ok { t with l:=t.l++[⟨kind,name,text,t.op⟩],bytes:=t.bytes+text.length }:=by
  unfold TSt.add
  rw[if_neg]
  rintro(h | h | h)
  ·exact c1 h
  ·exact c2 h
  ·exact c3 h
 rw[hR]
 rcases hd with d2 | ⟨d2,d3⟩
 case' inl=>simp (maxSteps:=400000) only[wF,storeA,reduceCtorEq,Nat.reduceAdd,Nat.reduceSub,Nat.reduceEqDiff,Nat.reduceLeDiff,Int.reduceToNat,Int.reduceLE,Int.reduceLT,Int.reduceAdd,Int.reduceNeg,Nat.reduceMul,S79,N79,R79,T79,a1,a2,d1,d2,e1,e2,d4]
 case' inr=>simp (maxSteps:=400000) only[wF,storeA,reduceCtorEq,Nat.reduceAdd,Nat.reduceSub,Nat.reduceEqDiff,Nat.reduceLeDiff,Int.reduceToNat,Int.reduceLE,Int.reduceLT,Int.reduceAdd,Int.reduceNeg,Nat.reduceMul,S79,N79,R79,T79,a1,a2,d1,d2,d3,e1,e2,d4]
 all_goals
  refine drawW_fixed mixedOrders L79_4_eq P79_4_eq ?_
  simp (maxSteps:=400000) only[wF,storeA,reduceCtorEq,Nat.reduceAdd,Nat.reduceSub,Nat.reduceEqDiff,Nat.reduceLeDiff,Int.reduceToNat,Int.reduceLE,Int.reduceLT,Int.reduceAdd,Int.reduceNeg,Nat.reduceMul,L79_4,T79,a2,u1,u2,u3,u5,u6,u7,u8,buildA,appendA,appSrc,AV.isSlc,sliceLit,fillA,zerosA,srcCells,AV.boxable,Nat.le_refl,Nat.reduceLT,ndsH_len,h_set_set]
  refine⟨by simp;omega,rfl,H.next+1,⟨?_,?_,by omega,?_,?_⟩,?_,.inr (by omega),fun j j1 j2 j3=>?_⟩
  ·rw[AHeap.get_set_same];simp
  ·rw[AHeap.get_set_ne _ _ (by omega),AHeap.get_allocAt_same,ndsH_app];rfl
  ·simp only[AHeap.next_set,AHeap.next_allocAt,AHeap.next_del];omega
  ·simp only[AHeap.next_set,AHeap.next_allocAt,AHeap.next_del];omega
  ·simp only[AHeap.next_set,AHeap.next_allocAt,AHeap.next_del];omega
  ·rw[AHeap.get_set_ne _ _ j2,AHeap.get_allocAt_ne _ _ (by omega),AHeap.get_del_ne _ j3,AHeap.get_allocAt_ne _ _ (by omega),AHeap.get_set_ne _ _ j2]
end Go.Ab
