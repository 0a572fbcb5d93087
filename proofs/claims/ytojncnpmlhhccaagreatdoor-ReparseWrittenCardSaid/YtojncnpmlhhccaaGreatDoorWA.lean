/- The parser's small functions, walked. The tests of characters, walked. Texts and names, walked. Parts of names, walked. Names, walked. End tags and instructions, walked. -/
import Derived.Test.YtojncnpmlhhccaaGreatDoorCodes2
import Derived.Test.YtojncnpmlhhccaaGreatDoorCodes3
import Derived.Test.YtojncnpmlhhccaaGreatDoorSpec
set_option linter.all false
namespace Go.Ab
open Go Go.Lib Go.Proofs
structure Env (G:Nat→Option (List AV)):Prop where
 cutPre:∀s p,PureCall Tryz.prog G 97 [.str s,.str p] (.tup [.str (Lib.trimPrefix s p),.bool (Lib.hasPrefix s p)])
 cutPreB:bodyT Tryz.prog 97=true
 cut:∀s p,s.length≤1000000000→PureCall Tryz.prog G 95 [.str s,.str p] (.tup [.str (Lib.cut s p).1,.str (Lib.cut s p).2.1,.bool (Lib.cut s p).2.2])
 cutB:bodyT Tryz.prog 95=true
 hasPre:∀s p,PureCall Tryz.prog G 13 [.str s,.str p] (.bool (Lib.hasPrefix s p))
 hasPreB:bodyT Tryz.prog 13=true
 index:∀s p,s.length≤1000000000→PureCall Tryz.prog G 93 [.str s,.str p] (.int .i64 (Lib.index s p))
 indexB:bodyT Tryz.prog 93=true
 indexByte:∀(s:List UInt8) (c:UInt8),PureCall Tryz.prog G 99 [.str s,.int .u8 c.toNat] (.int .i64 (Lib.indexByte s c))
 indexByteB:bodyT Tryz.prog 99=true
 dec:∀l,l≠[]→PureCall Tryz.prog G 146 [.str l] (.tup [.int .i32 ((dec l).1:Nat),.int .i64 ((dec l).2:Nat)])
 decB:bodyT Tryz.prog 146=true
end Go.Ab
namespace Go.Ab
open Go Go.Lib Go.Proofs
theorem dT {p:Prop} [Decidable p] (h:p):decide p=true:=decide_eq_true h
theorem dF {p:Prop} [Decidable p] (h:¬p):decide p=false:=decide_eq_false h
theorem eT {a b:Int} (h:a=b):(a==b)=true:=by simp[h]
theorem eF {a b:Int} (h:¬a=b):(a==b)=false:=by simp[h]
theorem nT {a b:Int} (h:¬a=b):(a != b)=true:=by simp[h]
theorem nF {a b:Int} (h:a=b):(a != b)=false:=by simp[h]
theorem isChar_ok (G:Nat→Option (List AV)) (c:Int):PureCall Tryz.prog G 58 [.int .i32 c] (.bool (isCharS c)):=by
 intro H
 refine ACalls.keep (ACalls.of Tryz.func58 S58_eq R58 N58 rfl rfl ?_)
 have h:c<9∨c=9∨c=10∨c=13∨(c=11∨c=12∨(13<c∧c<32))∨(32≤c∧c≤55295)∨(55295<c∧c<57344)∨(57344≤c∧c≤65533)∨(65533<c∧c<65536)∨(65536≤c∧c≤1114111)∨1114111<c:=by omega
 rcases h with h | h | h | h | h | h | h | h | h | h | h<;>
  simp (maxSteps:=400000) (disch:=omega) only[dT,dF,eT,eF,nT,nF,wE,stepW,footA,makesA,ptrId,pairsOk,footApart,opS,opA,ev,putA,setC,ofConst,ofFlat,List.replicate,List.set,binA,intA,strA,unA,extractA,nilCheckA,bodyA,resultsA,oneOrTup,builtinA,lenA,indexA,minA,loadA,partA,storeA,setCells,fieldA,ptrAdd,AV.cellsOf,AV.one,reduceCtorEq,Nat.reduceAdd,Nat.reduceSub,Nat.reduceEqDiff,Nat.reduceLeDiff,Array.toList,Int.reduceToNat,Int.reduceLE,Int.reduceLT,Int.reduceAdd,Int.reduceNeg,Nat.reduceMul,S58,N58,R58,T58,isCharS,Bool.or_true,Bool.or_false,Bool.true_or,Bool.false_or,Bool.and_false,Bool.false_and]<;>
  simp
theorem isLetter_ok (G:Nat→Option (List AV)) (c:Int):PureCall Tryz.prog G 143 [.int .i32 c] (.bool (isLetterS c)):=by
 intro H
 refine ACalls.keep (ACalls.of Tryz.func143 S143_eq R143 N143 rfl rfl ?_)
 have h:c<65∨(65≤c∧c≤90)∨(90<c∧c<95)∨c=95∨c=96∨(97≤c∧c≤122)∨(122<c∧c<192)∨c=215∨c=247∨(192≤c∧¬c=215∧¬c=247):=by omega
 rcases h with h | h | h | h | h | h | h | h | h | h<;>
  simp (maxSteps:=400000) (disch:=omega) only[dT,dF,eT,eF,nT,nF,wE,stepW,footA,makesA,ptrId,pairsOk,footApart,opS,opA,ev,putA,setC,ofConst,ofFlat,List.replicate,List.set,binA,intA,strA,unA,extractA,nilCheckA,bodyA,resultsA,oneOrTup,builtinA,lenA,indexA,minA,loadA,partA,storeA,setCells,fieldA,ptrAdd,AV.cellsOf,AV.one,reduceCtorEq,Nat.reduceAdd,Nat.reduceSub,Nat.reduceEqDiff,Nat.reduceLeDiff,Array.toList,Int.reduceToNat,Int.reduceLE,Int.reduceLT,Int.reduceAdd,Int.reduceNeg,Nat.reduceMul,S143,N143,R143,T143,isLetterS,Bool.or_true,Bool.or_false,Bool.true_or,Bool.false_or,Bool.and_false,Bool.false_and]<;>
  simp
end Go.Ab
namespace Go.Ab
open Go Go.Lib Go.Proofs
theorem hasPrefix_bool (l p:List UInt8):Lib.hasPrefix l p=true∨Lib.hasPrefix l p=false:=by cases Lib.hasPrefix l p<;>simp
theorem drop_drop_add (s:List UInt8) (i k:Nat):(s.drop i).drop k=s.drop (i+k):=by rw[List.drop_drop]
theorem isText_ok {G:Nat→Option (List AV)} (E:Env G) {s:List UInt8} (hs:s.length≤1000000000):PureCall Tryz.prog G 23 [.str s] (.bool (isTextS s)):=by
 intro H
 refine ACalls.keep (ACalls.of Tryz.func23 S23_eq R23 N23 rfl rfl ?_)
 simp (maxSteps:=400000) only[wF,storeA,reduceCtorEq,Nat.reduceAdd,Nat.reduceSub,Nat.reduceEqDiff,Nat.reduceLeDiff,Int.reduceToNat,Int.reduceLE,Int.reduceLT,Int.reduceAdd,Int.reduceNeg,Nat.reduceMul,S23,N23,R23,T23]
 refine ATrS.loopK (κ:=Nat × AHeap) (fun x=>[.str s,.und,.und,.und,.und,.str s,.ptr H.next 0]++List.replicate 18 .und) (fun x=>x.2)
  (fun x=>x.1≤s.length∧isTextS (s.drop x.1)=isTextS s∧x.2.get H.next=some (.iter s x.1)∧H.next<x.2.next∧∀j,j<H.next→x.2.get j=H.get j) (fun x=>s.length-x.1)
  ⟨(0,_),⟨Nat.zero_le _,rfl,by simp[AHeap.get_allocAt],by simp[AHeap.next_allocAt],fun j hj=>by simp[AHeap.get_allocAt];omega⟩,by simp[Fg],HW.refl _⟩ ?_
 rintro⟨k,J⟩ ⟨hk,ht,hi,hn,hj⟩
 simp only at hk ht hi hn hj
 by_cases hlt:k<s.length
 ·have hd:=dec_drop hlt
  have hst:=isTextS_step (drop_ne hlt)
  rw[drop_drop_add]at hst
  have hks:((k:Int)≤s.length)=True:=by simp;omega
  simp (maxSteps:=400000) only[wF,storeA,reduceCtorEq,Nat.reduceAdd,Nat.reduceSub,Nat.reduceEqDiff,Nat.reduceLeDiff,Int.reduceToNat,Int.reduceLE,Int.reduceLT,Int.reduceAdd,Int.reduceNeg,Nat.reduceMul,T23,nextA,hi,hlt,dec_at]
  refine AInv.pureK B58 (isChar_ok G _) fun J1 h1=>?_
  have g1:∀j,j<H.next→J1.get j=H.get j:=fun j hj'=>by rw[h1.2,AHeap.get_set_ne _ _ (by omega)];exact hj j hj'
  have n1:H.next<J1.next:=by have:=h1.1;simp only[AHeap.next_set]at this;omega
  have i1:J1.get H.next=some (.iter s (k+(dec (s.drop k)).2)):=by rw[h1.2];simp
  cases hc:isCharS ((dec (s.drop k)).1:Nat)with
  | false=>
   simp (maxSteps:=400000) only[wF,storeA,reduceCtorEq,Nat.reduceAdd,Nat.reduceSub,Nat.reduceEqDiff,Nat.reduceLeDiff,Int.reduceToNat,Int.reduceLE,Int.reduceLT,Int.reduceAdd,Int.reduceNeg,Nat.reduceMul,T23,hc]
   refine⟨?_,by omega,g1⟩
   rw[←ht,hst]
   simp[headTextS,hc]
  | true=>
   cases h3:(((dec (s.drop k)).1:Nat):Int)==65533 with
   | false=>
    simp (maxSteps:=400000) only[wF,storeA,reduceCtorEq,Nat.reduceAdd,Nat.reduceSub,Nat.reduceEqDiff,Nat.reduceLeDiff,Int.reduceToNat,Int.reduceLE,Int.reduceLT,Int.reduceAdd,Int.reduceNeg,Nat.reduceMul,T23,hc,h3]
    refine⟨(k+(dec (s.drop k)).2,_),⟨hd.2,?_,i1,n1,g1⟩,by simp only;omega,by simp[Fg],HW.refl _⟩
    rw[←ht,hst]
    have h3':((dec (s.drop k)).1==65533)=false:=by
     simp at h3 ⊢
     omega
    simp[headTextS,hc,h3']
   | true=>
    simp (maxSteps:=400000) only[wF,storeA,reduceCtorEq,Nat.reduceAdd,Nat.reduceSub,Nat.reduceEqDiff,Nat.reduceLeDiff,Int.reduceToNat,Int.reduceLE,Int.reduceLT,Int.reduceAdd,Int.reduceNeg,Nat.reduceMul,T23,hc,h3,hks]
    refine AInv.pureK E.hasPreB (E.hasPre _ _) fun J2 h2=>?_
    have g2:∀j,j<H.next→J2.get j=H.get j:=fun j hj'=>by rw[h2.2];exact g1 j hj'
    have n2:H.next<J2.next:=Nat.lt_of_lt_of_le n1 h2.1
    have i2:J2.get H.next=some (.iter s (k+(dec (s.drop k)).2)):=by rw[h2.2];exact i1
    have h3':((dec (s.drop k)).1==65533)=true:=by
     simp at h3 ⊢
     omega
    rcases hasPrefix_bool (s.drop k) [239,191,189]with hp | hp
    ·simp (maxSteps:=400000) only[wF,storeA,reduceCtorEq,Nat.reduceAdd,Nat.reduceSub,Nat.reduceEqDiff,Nat.reduceLeDiff,Int.reduceToNat,Int.reduceLE,Int.reduceLT,Int.reduceAdd,Int.reduceNeg,Nat.reduceMul,T23,hp]
     refine⟨(k+(dec (s.drop k)).2,_),⟨hd.2,?_,i2,n2,g2⟩,by simp only;omega,by simp[Fg],HW.refl _⟩
     rw[←ht,hst]
     simp[headTextS,hc,h3',hp]
    ·simp (maxSteps:=400000) only[wF,storeA,reduceCtorEq,Nat.reduceAdd,Nat.reduceSub,Nat.reduceEqDiff,Nat.reduceLeDiff,Int.reduceToNat,Int.reduceLE,Int.reduceLT,Int.reduceAdd,Int.reduceNeg,Nat.reduceMul,T23,hp]
     refine⟨?_,by omega,g2⟩
     rw[←ht,hst]
     simp[headTextS,hc,h3',hp]
 ·simp (maxSteps:=400000) only[wF,storeA,reduceCtorEq,Nat.reduceAdd,Nat.reduceSub,Nat.reduceEqDiff,Nat.reduceLeDiff,Int.reduceToNat,Int.reduceLE,Int.reduceLT,Int.reduceAdd,Int.reduceNeg,Nat.reduceMul,T23,nextA,hi,hlt]
  refine⟨?_,by omega,hj⟩
  rw[←ht,List.drop_eq_nil_of_le (by omega)]
  simp[isTextS_nil]
theorem count_ok (G:Nat→Option (List AV)) {s:List UInt8} (hs:s.length≤1000000000):PureCall Tryz.prog G 118 [.str s] (.int .i64 (countS s:Nat)):=by
 intro H
 refine ACalls.keep (ACalls.of Tryz.func118 S118_eq R118 N118 rfl rfl ?_)
 simp (maxSteps:=400000) only[wF,storeA,reduceCtorEq,Nat.reduceAdd,Nat.reduceSub,Nat.reduceEqDiff,Nat.reduceLeDiff,Int.reduceToNat,Int.reduceLE,Int.reduceLT,Int.reduceAdd,Int.reduceNeg,Nat.reduceMul,S118,N118,R118,T118]
 refine ATrS.loopK (κ:=Nat × Nat × AHeap) (fun x=>[.str s,.und,.int .i64 x.2.1,.str s,.ptr H.next 0]++List.replicate 5 .und) (fun x=>x.2.2)
  (fun x=>x.1≤s.length∧x.2.1≤x.1∧x.2.1+countS (s.drop x.1)=countS s∧x.2.2.get H.next=some (.iter s x.1)∧H.next<x.2.2.next∧∀j,j<H.next→x.2.2.get j=H.get j) (fun x=>s.length-x.1)
  ⟨(0,0,_),⟨Nat.zero_le _,Nat.zero_le _,by simp,by simp[AHeap.get_allocAt],by simp[AHeap.next_allocAt],fun j hj=>by simp[AHeap.get_allocAt];omega⟩,by simp[Fg],HW.refl _⟩ ?_
 rintro⟨k,n,J⟩ ⟨hk,hnk,ht,hi,hn,hj⟩
 simp only at hk hnk ht hi hn hj
 by_cases hlt:k<s.length
 ·have hd:=dec_drop hlt
  have hst:=countS_step (drop_ne hlt)
  rw[drop_drop_add]at hst
  simp (maxSteps:=400000) only[wF,storeA,reduceCtorEq,Nat.reduceAdd,Nat.reduceSub,Nat.reduceEqDiff,Nat.reduceLeDiff,Int.reduceToNat,Int.reduceLE,Int.reduceLT,Int.reduceAdd,Int.reduceNeg,Nat.reduceMul,T118,nextA,hi,hlt,dec_at]
  have e:IntKind.i64.wrap ((n:Int)+1)=((n+1:Nat):Int):=by rw[wrap64]<;>omega
  simp only[e]
  refine⟨(k+(dec (s.drop k)).2,n+1,_),⟨hd.2,by simp only;omega,by simp only;omega,by simp,by simp only[AHeap.next_set];omega,fun j hj'=>by simp only[show j≠H.next by omega,if_false];exact hj j hj'⟩,by simp only;omega,by simp[Fg],HW.refl _⟩
 ·simp (maxSteps:=400000) only[wF,storeA,reduceCtorEq,Nat.reduceAdd,Nat.reduceSub,Nat.reduceEqDiff,Nat.reduceLeDiff,Int.reduceToNat,Int.reduceLE,Int.reduceLT,Int.reduceAdd,Int.reduceNeg,Nat.reduceMul,T118,nextA,hi,hlt]
  refine⟨?_,by omega,hj⟩
  rw[List.drop_eq_nil_of_le (by omega),countS_nil]at ht
  rw[←ht]
  simp
end Go.Ab
namespace Go.Ab
open Go Go.Lib Go.Proofs
def partAt (s:List UInt8) (k:Nat):Prop:=partL (decide (k=0)) (s.drop k)=partL true s
theorem isPart_ok (G:Nat→Option (List AV)) {s:List UInt8} (hs:s.length≤1000000000):PureCall Tryz.prog G 119 [.str s] (.bool (isPartS s)):=by
 intro H
 refine ACalls.keep (ACalls.of Tryz.func119 S119_eq R119 N119 rfl rfl ?_)
 simp (maxSteps:=400000) only[wF,storeA,reduceCtorEq,Nat.reduceAdd,Nat.reduceSub,Nat.reduceEqDiff,Nat.reduceLeDiff,Int.reduceToNat,Int.reduceLE,Int.reduceLT,Int.reduceAdd,Int.reduceNeg,Nat.reduceMul,S119,N119,R119,T119]
 refine ATrS.loopK (κ:=Nat × AHeap) (fun x=>[.str s,.und,.und,.und,.und,.str s,.ptr H.next 0]++List.replicate 33 .und) (fun x=>x.2)
  (fun x=>x.1≤s.length∧partAt s x.1∧x.2.get H.next=some (.iter s x.1)∧H.next<x.2.next∧∀j,j<H.next→x.2.get j=H.get j) (fun x=>s.length-x.1)
  ⟨(0,_),⟨Nat.zero_le _,rfl,by simp[AHeap.get_allocAt],by simp[AHeap.next_allocAt],fun j hj=>by simp[AHeap.get_allocAt];omega⟩,by simp[Fg],HW.refl _⟩ ?_
 rintro⟨k,J⟩ ⟨hk,ht,hi,hn,hj⟩
 simp only at hk ht hi hn hj
 by_cases hlt:k<s.length
 ·have hd:=dec_drop hlt
  have ht:partL (decide (k=0)) (s.drop k)=partL true s:=ht
  have hst:=partL_step (decide (k=0)) (drop_ne hlt)
  rw[drop_drop_add]at hst
  have hz:decide (k+(dec (s.drop k)).2=0)=false:=decide_eq_false (by omega)
  have hp:partL false (s.drop (k+(dec (s.drop k)).2))=partL true s→partAt s (k+(dec (s.drop k)).2):=fun h=>by unfold partAt;rw[hz];exact h
  simp (maxSteps:=400000) only[wF,storeA,reduceCtorEq,Nat.reduceAdd,Nat.reduceSub,Nat.reduceEqDiff,Nat.reduceLeDiff,Int.reduceToNat,Int.reduceLE,Int.reduceLT,Int.reduceAdd,Int.reduceNeg,Nat.reduceMul,T119,nextA,hi,hlt,dec_at]
  refine AInv.pureK B143 (isLetter_ok G _) fun J1 h1=>?_
  have g1:∀j,j<H.next→J1.get j=H.get j:=fun j hj'=>by rw[h1.2,AHeap.get_set_ne _ _ (by omega)];exact hj j hj'
  have n1:H.next<J1.next:=by have:=h1.1;simp only[AHeap.next_set]at this;omega
  have i1:J1.get H.next=some (.iter s (k+(dec (s.drop k)).2)):=by rw[h1.2];simp
  generalize hc:(dec (s.drop k)).1=c at hst ⊢
  cases hl:isLetterS (c:Nat)with
  | true=>
   simp (maxSteps:=400000) only[wF,storeA,reduceCtorEq,Nat.reduceAdd,Nat.reduceSub,Nat.reduceEqDiff,Nat.reduceLeDiff,Int.reduceToNat,Int.reduceLE,Int.reduceLT,Int.reduceAdd,Int.reduceNeg,Nat.reduceMul,T119,hl]
   refine⟨(k+(dec (s.drop k)).2,_),⟨hd.2,hp ?_,i1,n1,g1⟩,by simp only;omega,by simp[Fg],HW.refl _⟩
   rw[←ht,hst]
   simp[partChar,hl]
  | false=>
   by_cases h0:k=0
   ·have h00:((k:Int)==0)=true:=by simp;omega
    simp (maxSteps:=400000) only[wF,storeA,reduceCtorEq,Nat.reduceAdd,Nat.reduceSub,Nat.reduceEqDiff,Nat.reduceLeDiff,Int.reduceToNat,Int.reduceLE,Int.reduceLT,Int.reduceAdd,Int.reduceNeg,Nat.reduceMul,T119,hl,h00]
    refine⟨?_,by omega,g1⟩
    have:partL true s=false:=by
     rw[←ht,hst]
     simp[partChar,hl,h0]
    unfold partL at this
    simp[isPartS,this]
   ·have h0':decide (k=0)=false:=by simp[h0]
    have h00:((k:Int)==0)=false:=by simp;omega
    cases b1:((c:Int) != 45)with
    | false=>
     simp (maxSteps:=400000) only[wF,storeA,reduceCtorEq,Nat.reduceAdd,Nat.reduceSub,Nat.reduceEqDiff,Nat.reduceLeDiff,Int.reduceToNat,Int.reduceLE,Int.reduceLT,Int.reduceAdd,Int.reduceNeg,Nat.reduceMul,T119,hl,h00,b1]
     refine⟨(k+(dec (s.drop k)).2,_),⟨hd.2,hp ?_,i1,n1,g1⟩,by simp only;omega,by simp[Fg],HW.refl _⟩
     rw[←ht,hst,h0']
     simp at b1
     simp[partChar]
     omega
    | true=>
     cases b2:((c:Int) != 46)with
     | false=>
      simp (maxSteps:=400000) only[wF,storeA,reduceCtorEq,Nat.reduceAdd,Nat.reduceSub,Nat.reduceEqDiff,Nat.reduceLeDiff,Int.reduceToNat,Int.reduceLE,Int.reduceLT,Int.reduceAdd,Int.reduceNeg,Nat.reduceMul,T119,hl,h00,b1,b2]
      refine⟨(k+(dec (s.drop k)).2,_),⟨hd.2,hp ?_,i1,n1,g1⟩,by simp only;omega,by simp[Fg],HW.refl _⟩
      rw[←ht,hst,h0']
      simp at b1 b2
      simp[partChar]
      omega
     | true=>
      cases b3:((c:Int) != 183)with
      | false=>
       simp (maxSteps:=400000) only[wF,storeA,reduceCtorEq,Nat.reduceAdd,Nat.reduceSub,Nat.reduceEqDiff,Nat.reduceLeDiff,Int.reduceToNat,Int.reduceLE,Int.reduceLT,Int.reduceAdd,Int.reduceNeg,Nat.reduceMul,T119,hl,h00,b1,b2,b3]
       refine⟨(k+(dec (s.drop k)).2,_),⟨hd.2,hp ?_,i1,n1,g1⟩,by simp only;omega,by simp[Fg],HW.refl _⟩
       rw[←ht,hst,h0']
       simp at b1 b2 b3
       simp[partChar]
       omega
      | true=>
       cases b4:decide ((c:Int)<48)with
       | true=>
        simp (maxSteps:=400000) only[wF,storeA,reduceCtorEq,Nat.reduceAdd,Nat.reduceSub,Nat.reduceEqDiff,Nat.reduceLeDiff,Int.reduceToNat,Int.reduceLE,Int.reduceLT,Int.reduceAdd,Int.reduceNeg,Nat.reduceMul,T119,hl,h00,b1,b2,b3,b4]
        refine⟨?_,by omega,g1⟩
        have:partL true s=false:=by
         rw[←ht,hst,h0']
         simp at b1 b2 b3 b4
         simp[partChar,hl]
         omega
        unfold partL at this
        simp[isPartS,this]
       | false=>
        cases b5:decide ((c:Int)>57)with
        | true=>
         simp (maxSteps:=400000) only[wF,storeA,reduceCtorEq,Nat.reduceAdd,Nat.reduceSub,Nat.reduceEqDiff,Nat.reduceLeDiff,Int.reduceToNat,Int.reduceLE,Int.reduceLT,Int.reduceAdd,Int.reduceNeg,Nat.reduceMul,T119,hl,h00,b1,b2,b3,b4,b5]
         refine⟨?_,by omega,g1⟩
         have:partL true s=false:=by
          rw[←ht,hst,h0']
          simp at b1 b2 b3 b4 b5
          simp[partChar,hl]
          omega
         unfold partL at this
         simp[isPartS,this]
        | false=>
         simp (maxSteps:=400000) only[wF,storeA,reduceCtorEq,Nat.reduceAdd,Nat.reduceSub,Nat.reduceEqDiff,Nat.reduceLeDiff,Int.reduceToNat,Int.reduceLE,Int.reduceLT,Int.reduceAdd,Int.reduceNeg,Nat.reduceMul,T119,hl,h00,b1,b2,b3,b4,b5]
         refine⟨(k+(dec (s.drop k)).2,_),⟨hd.2,hp ?_,i1,n1,g1⟩,by simp only;omega,by simp[Fg],HW.refl _⟩
         rw[←ht,hst,h0']
         simp at b1 b2 b3 b4 b5
         simp[partChar]
         omega
 ·simp (maxSteps:=400000) only[wF,storeA,reduceCtorEq,Nat.reduceAdd,Nat.reduceSub,Nat.reduceEqDiff,Nat.reduceLeDiff,Int.reduceToNat,Int.reduceLE,Int.reduceLT,Int.reduceAdd,Int.reduceNeg,Nat.reduceMul,T119,nextA,hi,hlt]
  refine⟨?_,by omega,hj⟩
  have ht:partL (decide (k=0)) (s.drop k)=partL true s:=ht
  rw[List.drop_eq_nil_of_le (by omega),partL_nil]at ht
  unfold partL at ht
  simp[isPartS,←ht]
  cases s<;>rfl
end Go.Ab
namespace Go.Ab
open Go Go.Lib Go.Proofs
theorem cut_snd_le (s p:List UInt8):(Lib.cut s p).2.1.length≤s.length:=by
 unfold Lib.cut
 split
 ·simp
 ·simp
theorem isName_ok {G:Nat→Option (List AV)} (E:Env G) {s:List UInt8} (hs:s.length≤1000000000):PureCall Tryz.prog G 80 [.str s] (.bool (isNameS s)):=by
 intro H
 refine ACalls.keep (ACalls.of Tryz.func80 S80_eq R80 N80 rfl rfl ?_)
 simp (maxSteps:=400000) only[wF,storeA,reduceCtorEq,Nat.reduceAdd,Nat.reduceSub,Nat.reduceEqDiff,Nat.reduceLeDiff,Int.reduceToNat,Int.reduceLE,Int.reduceLT,Int.reduceAdd,Int.reduceNeg,Nat.reduceMul,S80,N80,R80,T80]
 refine AInv.pureK B23 (isText_ok E hs) fun H1 h1=>?_
 cases ht:isTextS s with
 | false=>
  simp (maxSteps:=400000) only[wF,storeA,reduceCtorEq,Nat.reduceAdd,Nat.reduceSub,Nat.reduceEqDiff,Nat.reduceLeDiff,Int.reduceToNat,Int.reduceLE,Int.reduceLT,Int.reduceAdd,Int.reduceNeg,Nat.reduceMul,T80]
  exact⟨by simp[isNameS,ht],h1.post⟩
 | true=>
  simp (maxSteps:=400000) only[wF,storeA,reduceCtorEq,Nat.reduceAdd,Nat.reduceSub,Nat.reduceEqDiff,Nat.reduceLeDiff,Int.reduceToNat,Int.reduceLE,Int.reduceLT,Int.reduceAdd,Int.reduceNeg,Nat.reduceMul,T80]
  refine AInv.pureK B118 (count_ok G hs) fun H2 h2=>?_
  simp (maxSteps:=400000) only[wF,storeA,reduceCtorEq,Nat.reduceAdd,Nat.reduceSub,Nat.reduceEqDiff,Nat.reduceLeDiff,Int.reduceToNat,Int.reduceLE,Int.reduceLT,Int.reduceAdd,Int.reduceNeg,Nat.reduceMul,T80]
  refine condS.split (fun h=>?_) (fun h=>?_)
  ·have h:¬countS s≤100:=by simp at h;omega
   simp (maxSteps:=400000) only[wF,storeA,reduceCtorEq,Nat.reduceAdd,Nat.reduceSub,Nat.reduceEqDiff,Nat.reduceLeDiff,Int.reduceToNat,Int.reduceLE,Int.reduceLT,Int.reduceAdd,Int.reduceNeg,Nat.reduceMul,T80]
   exact⟨by simp[isNameS,h],(h1.trans h2).post⟩
  ·have h:countS s≤100:=by simp at h;omega
   have hc1:=cut_le s [58]
   have hc2:=cut_snd_le s [58]
   simp (maxSteps:=400000) only[wF,storeA,reduceCtorEq,Nat.reduceAdd,Nat.reduceSub,Nat.reduceEqDiff,Nat.reduceLeDiff,Int.reduceToNat,Int.reduceLE,Int.reduceLT,Int.reduceAdd,Int.reduceNeg,Nat.reduceMul,T80]
   refine AInv.pureK E.cutB (E.cut _ _ hs) fun H3 h3=>?_
   simp (maxSteps:=400000) only[wF,storeA,reduceCtorEq,Nat.reduceAdd,Nat.reduceSub,Nat.reduceEqDiff,Nat.reduceLeDiff,Int.reduceToNat,Int.reduceLE,Int.reduceLT,Int.reduceAdd,Int.reduceNeg,Nat.reduceMul,T80]
   refine AInv.pureK B119 (isPart_ok G (by omega)) fun H4 h4=>?_
   have h14:=((h1.trans h2).trans h3).trans h4
   cases hp:isPartS (Lib.cut s [58]).1 with
   | false=>
    simp (maxSteps:=400000) only[wF,storeA,reduceCtorEq,Nat.reduceAdd,Nat.reduceSub,Nat.reduceEqDiff,Nat.reduceLeDiff,Int.reduceToNat,Int.reduceLE,Int.reduceLT,Int.reduceAdd,Int.reduceNeg,Nat.reduceMul,T80]
    exact⟨by simp[isNameS,hp],h14.post⟩
   | true=>
    cases htwo:(Lib.cut s [58]).2.2 with
    | false=>
     simp (maxSteps:=400000) only[wF,storeA,reduceCtorEq,Nat.reduceAdd,Nat.reduceSub,Nat.reduceEqDiff,Nat.reduceLeDiff,Int.reduceToNat,Int.reduceLE,Int.reduceLT,Int.reduceAdd,Int.reduceNeg,Nat.reduceMul,T80,htwo]
     exact⟨by simp[isNameS,hp,htwo,ht,h],h14.post⟩
    | true=>
     simp (maxSteps:=400000) only[wF,storeA,reduceCtorEq,Nat.reduceAdd,Nat.reduceSub,Nat.reduceEqDiff,Nat.reduceLeDiff,Int.reduceToNat,Int.reduceLE,Int.reduceLT,Int.reduceAdd,Int.reduceNeg,Nat.reduceMul,T80,htwo]
     refine AInv.pureK B119 (isPart_ok G (by omega)) fun H5 h5=>?_
     simp (maxSteps:=400000) only[wF,storeA,reduceCtorEq,Nat.reduceAdd,Nat.reduceSub,Nat.reduceEqDiff,Nat.reduceLeDiff,Int.reduceToNat,Int.reduceLE,Int.reduceLT,Int.reduceAdd,Int.reduceNeg,Nat.reduceMul,T80]
     exact⟨by simp[isNameS,hp,htwo,ht,h],(h14.trans h5).post⟩
end Go.Ab
namespace Go.Ab
open Go Go.Lib Go.Proofs
end Go.Ab
