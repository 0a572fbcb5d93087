/- The parser's small functions, walked. The tests of characters, walked. Texts and names, walked. Parts of names, walked. Names, walked. End tags and instructions, walked. -/
import Derived.Test.YtebgjmoihhbjjaaGreatDoorCodes2
import Derived.Test.YtebgjmoihhbjjaaGreatDoorCodes3
import Derived.Test.YtebgjmoihhbjjaaGreatDoorSpec
set_option linter.all false
namespace Go.Ab
open Go Go.Lib Go.Proofs
structure Env (G:Nat→Option (List AV)):Prop where
 cutPre:∀s p,PureCall Tryz.prog G 110 [.str s,.str p] (.tup [.str (Lib.trimPrefix s p),.bool (Lib.hasPrefix s p)])
 cutPreB:bodyT Tryz.prog 110=true
 cut:∀s p,s.length≤1000000000→PureCall Tryz.prog G 72 [.str s,.str p] (.tup [.str (Lib.cut s p).1,.str (Lib.cut s p).2.1,.bool (Lib.cut s p).2.2])
 cutB:bodyT Tryz.prog 72=true
 hasPre:∀s p,PureCall Tryz.prog G 38 [.str s,.str p] (.bool (Lib.hasPrefix s p))
 hasPreB:bodyT Tryz.prog 38=true
 index:∀s p,s.length≤1000000000→PureCall Tryz.prog G 65 [.str s,.str p] (.int .i64 (Lib.index s p))
 indexB:bodyT Tryz.prog 65=true
 indexByte:∀(s:List UInt8) (c:UInt8),PureCall Tryz.prog G 86 [.str s,.int .u8 c.toNat] (.int .i64 (Lib.indexByte s c))
 indexByteB:bodyT Tryz.prog 86=true
 dec:∀l,l≠[]→PureCall Tryz.prog G 60 [.str l] (.tup [.int .i32 ((dec l).1:Nat),.int .i64 ((dec l).2:Nat)])
 decB:bodyT Tryz.prog 60=true
 fold:∀l,l.length≤1000000000→PureCall Tryz.prog G 46 [.str l,.str [120,109,108]] (.bool (isXmlS l))
 foldB:bodyT Tryz.prog 46=true
theorem cdata_ok {G:Nat→Option (List AV)} (E:Env G) {s:List UInt8} {i:Nat} (hi:i≤s.length) (hs:s.length≤1000000000) :
  PureCall Tryz.prog G 85 [.str s,.int .i64 i] (.tup [.str (cdataS s i).1,.int .i64 (cdataS s i).2.1,.bool (cdataS s i).2.2]):=by
 intro H
 refine ACalls.keep (ACalls.of Tryz.func85 S85_eq R85 N85 rfl rfl ?_)
 have hxs:((i:Int)≤s.length)=True:=by simp;omega
 simp (maxSteps:=400000) only[wF,storeA,reduceCtorEq,Nat.reduceAdd,Nat.reduceSub,Nat.reduceEqDiff,Nat.reduceLeDiff,Int.reduceToNat,Int.reduceLE,Int.reduceLT,Int.reduceAdd,Int.reduceNeg,Nat.reduceMul,S85,N85,R85,T85,hxs]
 refine AInv.pureK E.cutPreB (E.cutPre _ _) fun H1 h1=>?_
 simp (maxSteps:=400000) only[wF,storeA,reduceCtorEq,Nat.reduceAdd,Nat.reduceSub,Nat.reduceEqDiff,Nat.reduceLeDiff,Int.reduceToNat,Int.reduceLE,Int.reduceLT,Int.reduceAdd,Int.reduceNeg,Nat.reduceMul,T85]
 refine condS.split (fun h=>?_) (fun h=>?_)
 ·have h:Lib.hasPrefix (s.drop i) sCdata=false:=by simpa[sCdata]using h
  simp (maxSteps:=400000) only[wF,storeA,reduceCtorEq,Nat.reduceAdd,Nat.reduceSub,Nat.reduceEqDiff,Nat.reduceLeDiff,Int.reduceToNat,Int.reduceLE,Int.reduceLT,Int.reduceAdd,Int.reduceNeg,Nat.reduceMul,T85]
  simp[cdataS,h]
  exact h1.post
 ·have h':Lib.hasPrefix (s.drop i) sCdata=true:=by simpa[sCdata]using h
  have ht:Lib.trimPrefix (s.drop i) [60,33,91,67,68,65,84,65,91]=(s.drop i).drop 9:=by
   unfold Lib.trimPrefix
   rw[if_pos (by simpa[sCdata]using h')]
   rfl
  rw[ht]
  have hc:=cut_le ((s.drop i).drop 9) [93,93,62]
  simp only[List.length_drop]at hc
  simp (maxSteps:=400000) only[wF,storeA,reduceCtorEq,Nat.reduceAdd,Nat.reduceSub,Nat.reduceEqDiff,Nat.reduceLeDiff,Int.reduceToNat,Int.reduceLE,Int.reduceLT,Int.reduceAdd,Int.reduceNeg,Nat.reduceMul,T85]
  refine AInv.pureK E.cutB (E.cut _ _ (by simp only[List.length_drop];omega)) fun H2 h2=>?_
  simp (maxSteps:=400000) only[wF,storeA,reduceCtorEq,Nat.reduceAdd,Nat.reduceSub,Nat.reduceEqDiff,Nat.reduceLeDiff,Int.reduceToNat,Int.reduceLE,Int.reduceLT,Int.reduceAdd,Int.reduceNeg,Nat.reduceMul,T85]
  simp (disch:=omega) only[wrap64]
  refine⟨?_,(h1.trans h2).post⟩
  simp only[cdataS,if_pos h',sCend]
  push_cast
  rfl
theorem white_ok (G:Nat→Option (List AV)) (c:UInt8):PureCall Tryz.prog G 84 [.int .u8 c.toNat] (.bool (isW c)):=by
 intro H
 refine ACalls.keep (ACalls.of Tryz.func84 S84_eq R84 N84 rfl rfl ?_)
 have e32:((c.toNat:Int)==32)=(c==32):=byte_eq c 32 (by omega)
 have e9:((c.toNat:Int)==9)=(c==9):=byte_eq c 9 (by omega)
 have e10:((c.toNat:Int)==10)=(c==10):=byte_eq c 10 (by omega)
 cases h1:(c==32)<;>cases h2:(c==9)<;>simp (maxSteps:=400000) only[wF,storeA,reduceCtorEq,Nat.reduceAdd,Nat.reduceSub,Nat.reduceEqDiff,Nat.reduceLeDiff,Int.reduceToNat,Int.reduceLE,Int.reduceLT,Int.reduceAdd,Int.reduceNeg,Nat.reduceMul,S84,N84,R84,T84,e32,e9,e10,h1,h2,isW,Bool.true_or,Bool.or_true,Bool.false_or,Bool.or_false]<;>simp
theorem skip_ok (G:Nat→Option (List AV)) {s:List UInt8} {i:Nat} (hi:i≤s.length) (hs:s.length≤1000000000):PureCall Tryz.prog G 114 [.str s,.int .i64 i] (.int .i64 (skipN s i)):=by
 intro H
 refine ACalls.keep (ACalls.of Tryz.func114 S114_eq R114 N114 rfl rfl ?_)
 simp (maxSteps:=400000) only[wF,storeA,reduceCtorEq,Nat.reduceAdd,Nat.reduceSub,Nat.reduceEqDiff,Nat.reduceLeDiff,Int.reduceToNat,Int.reduceLE,Int.reduceLT,Int.reduceAdd,Int.reduceNeg,Nat.reduceMul,S114,N114,R114,T114]
 refine ATrS.loopK (κ:=Nat × AHeap) (fun x=>[.str s,.int .i64 x.1,.und,.und,.int .i64 0]++List.replicate 13 .und) (fun x=>x.2)
  (fun x=>x.1≤s.length∧skipN s x.1=skipN s i∧Keeps H x.2) (fun x=>s.length-x.1) ⟨(i,H),⟨hi,rfl,Keeps.refl H⟩,by simp[Fg],HW.refl H⟩ ?_
 rintro⟨k,H1⟩ ⟨hk,hk2,hH⟩
 simp only at hk hk2 hH
 simp (maxSteps:=400000) only[wF,storeA,reduceCtorEq,Nat.reduceAdd,Nat.reduceSub,Nat.reduceEqDiff,Nat.reduceLeDiff,Int.reduceToNat,Int.reduceLE,Int.reduceLT,Int.reduceAdd,Int.reduceNeg,Nat.reduceMul,T114]
 refine guardS.split (fun hlt=>?_) (fun hge=>?_)
 ·have hlt:k<s.length:=by simpa using hlt
  simp (maxSteps:=400000) only[wF,storeA,reduceCtorEq,Nat.reduceAdd,Nat.reduceSub,Nat.reduceEqDiff,Nat.reduceLeDiff,Int.reduceToNat,Int.reduceLE,Int.reduceLT,Int.reduceAdd,Int.reduceNeg,Nat.reduceMul,T114,List.getElem?_eq_getElem hlt]
  refine AInv.pureK B84 (white_ok G _) fun H2 h2=>?_
  simp (maxSteps:=400000) only[wF,storeA,reduceCtorEq,Nat.reduceAdd,Nat.reduceSub,Nat.reduceEqDiff,Nat.reduceLeDiff,Int.reduceToNat,Int.reduceLE,Int.reduceLT,Int.reduceAdd,Int.reduceNeg,Nat.reduceMul,T114]
  refine condS.split (fun hw=>?_) (fun hw=>?_)
  ·simp (maxSteps:=400000) only[wF,storeA,reduceCtorEq,Nat.reduceAdd,Nat.reduceSub,Nat.reduceEqDiff,Nat.reduceLeDiff,Int.reduceToNat,Int.reduceLE,Int.reduceLT,Int.reduceAdd,Int.reduceNeg,Nat.reduceMul,T114]
   simp (disch:=omega) only[wrap64]
   exact⟨(k+1,H2),⟨hlt,by rw[←hk2];exact skipN_step hlt hw,hH.trans h2⟩,by simp only;omega,by simp[Fg],HW.refl _⟩
  ·simp (maxSteps:=400000) only[wF,storeA,reduceCtorEq,Nat.reduceAdd,Nat.reduceSub,Nat.reduceEqDiff,Nat.reduceLeDiff,Int.reduceToNat,Int.reduceLE,Int.reduceLT,Int.reduceAdd,Int.reduceNeg,Nat.reduceMul,T114]
   exact⟨by rw[←hk2,skipN_stop hlt (by simp[hw])],(hH.trans h2).post⟩
 ·have hge:s.length≤k:=by simpa using hge
  simp (maxSteps:=400000) only[wF,storeA,reduceCtorEq,Nat.reduceAdd,Nat.reduceSub,Nat.reduceEqDiff,Nat.reduceLeDiff,Int.reduceToNat,Int.reduceLE,Int.reduceLT,Int.reduceAdd,Int.reduceNeg,Nat.reduceMul,T114]
  exact⟨by rw[←hk2,skipN_end hge],hH.post⟩
theorem cons_append_len {α:Type} (n:Nat) (x:α):List.replicate (n+1) x=x::List.replicate n x:=rfl
theorem until_ok {G:Nat→Option (List AV)} (E:Env G) {s stop:List UInt8} {i:Nat} (hi:i≤s.length) (hs:s.length≤1000000000):PureCall Tryz.prog G 113 [.str s,.int .i64 i,.str stop] (.int .i64 (untilN s i stop)):=by
 intro H
 refine ACalls.keep (ACalls.of Tryz.func113 S113_eq R113 N113 rfl rfl ?_)
 simp (maxSteps:=400000) only[wF,storeA,reduceCtorEq,Nat.reduceAdd,Nat.reduceSub,Nat.reduceEqDiff,Nat.reduceLeDiff,Int.reduceToNat,Int.reduceLE,Int.reduceLT,Int.reduceAdd,Int.reduceNeg,Nat.reduceMul,S113,N113,R113,T113]
 refine ATrS.loopK (κ:=Nat × AHeap) (fun x=>[.str s,.int .i64 x.1,.str stop,.und,.und,.und,.int .i64 0]++List.replicate 22 .und) (fun x=>x.2)
  (fun x=>x.1≤s.length∧untilN s x.1 stop=untilN s i stop∧Keeps H x.2) (fun x=>s.length-x.1) ⟨(i,H),⟨hi,rfl,Keeps.refl H⟩,by simp[Fg],HW.refl H⟩ ?_
 rintro⟨k,H1⟩ ⟨hk,hk2,hH⟩
 simp only at hk hk2 hH
 simp (maxSteps:=400000) only[wF,storeA,reduceCtorEq,Nat.reduceAdd,Nat.reduceSub,Nat.reduceEqDiff,Nat.reduceLeDiff,Int.reduceToNat,Int.reduceLE,Int.reduceLT,Int.reduceAdd,Int.reduceNeg,Nat.reduceMul,T113]
 refine guardS.split (fun hlt=>?_) (fun hge=>?_)
 ·have hlt:k<s.length:=by simpa using hlt
  simp (maxSteps:=400000) only[wF,storeA,reduceCtorEq,Nat.reduceAdd,Nat.reduceSub,Nat.reduceEqDiff,Nat.reduceLeDiff,Int.reduceToNat,Int.reduceLE,Int.reduceLT,Int.reduceAdd,Int.reduceNeg,Nat.reduceMul,T113,List.getElem?_eq_getElem hlt]
  refine AInv.pureK B84 (white_ok G _) fun H2 h2=>?_
  simp (maxSteps:=400000) only[wF,storeA,reduceCtorEq,Nat.reduceAdd,Nat.reduceSub,Nat.reduceEqDiff,Nat.reduceLeDiff,Int.reduceToNat,Int.reduceLE,Int.reduceLT,Int.reduceAdd,Int.reduceNeg,Nat.reduceMul,T113]
  refine guardS.split (fun hw=>?_) (fun hw=>?_)
  ·simp (maxSteps:=400000) only[wF,storeA,reduceCtorEq,Nat.reduceAdd,Nat.reduceSub,Nat.reduceEqDiff,Nat.reduceLeDiff,Int.reduceToNat,Int.reduceLE,Int.reduceLT,Int.reduceAdd,Int.reduceNeg,Nat.reduceMul,T113,List.getElem?_eq_getElem hlt]
   refine AInv.pureK E.indexByteB (E.indexByte _ _) fun H3 h3=>?_
   simp (maxSteps:=400000) only[wF,storeA,reduceCtorEq,Nat.reduceAdd,Nat.reduceSub,Nat.reduceEqDiff,Nat.reduceLeDiff,Int.reduceToNat,Int.reduceLE,Int.reduceLT,Int.reduceAdd,Int.reduceNeg,Nat.reduceMul,T113]
   refine condS.split (fun hx=>?_) (fun hx=>?_)
   ·simp (maxSteps:=400000) only[wF,storeA,reduceCtorEq,Nat.reduceAdd,Nat.reduceSub,Nat.reduceEqDiff,Nat.reduceLeDiff,Int.reduceToNat,Int.reduceLE,Int.reduceLT,Int.reduceAdd,Int.reduceNeg,Nat.reduceMul,T113]
    simp (disch:=omega) only[wrap64]
    refine⟨(k+1,H3),⟨hlt,?_,(hH.trans h2).trans h3⟩,by simp only;omega,by simp[Fg],HW.refl _⟩
    rw[←hk2]
    unfold untilN
    rw[List.drop_eq_getElem_cons hlt,List.takeWhile_cons_of_pos (by simpa using ⟨by simpa using hw,by simpa using hx⟩)]
    simp
    omega
   ·simp (maxSteps:=400000) only[wF,storeA,reduceCtorEq,Nat.reduceAdd,Nat.reduceSub,Nat.reduceEqDiff,Nat.reduceLeDiff,Int.reduceToNat,Int.reduceLE,Int.reduceLT,Int.reduceAdd,Int.reduceNeg,Nat.reduceMul,T113]
    refine⟨?_,((hH.trans h2).trans h3).post⟩
    rw[←hk2]
    unfold untilN
    rw[List.drop_eq_getElem_cons hlt,List.takeWhile_cons_of_neg (by simp at hx ⊢;intro _;omega)]
    simp
  ·simp (maxSteps:=400000) only[wF,storeA,reduceCtorEq,Nat.reduceAdd,Nat.reduceSub,Nat.reduceEqDiff,Nat.reduceLeDiff,Int.reduceToNat,Int.reduceLE,Int.reduceLT,Int.reduceAdd,Int.reduceNeg,Nat.reduceMul,T113]
   refine⟨?_,(hH.trans h2).post⟩
   rw[←hk2]
   unfold untilN
   rw[List.drop_eq_getElem_cons hlt,List.takeWhile_cons_of_neg (by simp at hw ⊢;simp[hw])]
   simp
 ·have hge:s.length≤k:=by simpa using hge
  simp (maxSteps:=400000) only[wF,storeA,reduceCtorEq,Nat.reduceAdd,Nat.reduceSub,Nat.reduceEqDiff,Nat.reduceLeDiff,Int.reduceToNat,Int.reduceLE,Int.reduceLT,Int.reduceAdd,Int.reduceNeg,Nat.reduceMul,T113]
  refine⟨?_,hH.post⟩
  rw[←hk2]
  unfold untilN
  rw[List.drop_eq_nil_of_le hge]
  simp
theorem comment_ok {G:Nat→Option (List AV)} (E:Env G) {s:List UInt8} {i:Nat} (hi:i≤s.length) (hs:s.length≤1000000000) :
  PureCall Tryz.prog G 88 [.str s,.int .i64 i] (.tup [.str (commentS s i).1,.int .i64 (commentS s i).2.1,.bool (commentS s i).2.2]):=by
 intro H
 refine ACalls.keep (ACalls.of Tryz.func88 S88_eq R88 N88 rfl rfl ?_)
 have hxs:((i:Int)≤s.length)=True:=by simp;omega
 simp (maxSteps:=400000) only[wF,storeA,reduceCtorEq,Nat.reduceAdd,Nat.reduceSub,Nat.reduceEqDiff,Nat.reduceLeDiff,Int.reduceToNat,Int.reduceLE,Int.reduceLT,Int.reduceAdd,Int.reduceNeg,Nat.reduceMul,S88,N88,R88,T88,hxs]
 refine AInv.pureK E.cutPreB (E.cutPre _ _) fun H1 h1=>?_
 simp (maxSteps:=400000) only[wF,storeA,reduceCtorEq,Nat.reduceAdd,Nat.reduceSub,Nat.reduceEqDiff,Nat.reduceLeDiff,Int.reduceToNat,Int.reduceLE,Int.reduceLT,Int.reduceAdd,Int.reduceNeg,Nat.reduceMul,T88]
 refine condS.split (fun h=>?_) (fun h=>?_)
 ·have h:Lib.hasPrefix (s.drop i) sCom=false:=by simpa[sCom]using h
  simp (maxSteps:=400000) only[wF,storeA,reduceCtorEq,Nat.reduceAdd,Nat.reduceSub,Nat.reduceEqDiff,Nat.reduceLeDiff,Int.reduceToNat,Int.reduceLE,Int.reduceLT,Int.reduceAdd,Int.reduceNeg,Nat.reduceMul,T88]
  simp[commentS,h]
  exact h1.post
 ·have h':Lib.hasPrefix (s.drop i) sCom=true:=by simpa[sCom]using h
  have ht:Lib.trimPrefix (s.drop i) [60,33,45,45]=(s.drop i).drop 4:=by
   unfold Lib.trimPrefix
   rw[if_pos (by simpa[sCom]using h')]
   rfl
  rw[ht]
  have hc:=cut_le ((s.drop i).drop 4) [45,45]
  simp only[List.length_drop]at hc
  simp (maxSteps:=400000) only[wF,storeA,reduceCtorEq,Nat.reduceAdd,Nat.reduceSub,Nat.reduceEqDiff,Nat.reduceLeDiff,Int.reduceToNat,Int.reduceLE,Int.reduceLT,Int.reduceAdd,Int.reduceNeg,Nat.reduceMul,T88]
  refine AInv.pureK E.cutB (E.cut _ _ (by simp only[List.length_drop];omega)) fun H2 h2=>?_
  simp (maxSteps:=400000) only[wF,storeA,reduceCtorEq,Nat.reduceAdd,Nat.reduceSub,Nat.reduceEqDiff,Nat.reduceLeDiff,Int.reduceToNat,Int.reduceLE,Int.reduceLT,Int.reduceAdd,Int.reduceNeg,Nat.reduceMul,T88]
  simp (disch:=omega) only[wrap64]
  refine guardS.split (fun hg=>?_) (fun hg=>?_)
  ·simp (maxSteps:=400000) only[wF,storeA,reduceCtorEq,Nat.reduceAdd,Nat.reduceSub,Nat.reduceEqDiff,Nat.reduceLeDiff,Int.reduceToNat,Int.reduceLE,Int.reduceLT,Int.reduceAdd,Int.reduceNeg,Nat.reduceMul,T88]
   refine AInv.pureK E.hasPreB (E.hasPre _ _) fun H3 h3=>?_
   simp (maxSteps:=400000) only[wF,storeA,reduceCtorEq,Nat.reduceAdd,Nat.reduceSub,Nat.reduceEqDiff,Nat.reduceLeDiff,Int.reduceToNat,Int.reduceLE,Int.reduceLT,Int.reduceAdd,Int.reduceNeg,Nat.reduceMul,T88]
   refine⟨?_,((h1.trans h2).trans h3).post⟩
   simp only[commentS,if_pos h',sDash,hg,Bool.true_and]
   push_cast
   rfl
  ·simp (maxSteps:=400000) only[wF,storeA,reduceCtorEq,Nat.reduceAdd,Nat.reduceSub,Nat.reduceEqDiff,Nat.reduceLeDiff,Int.reduceToNat,Int.reduceLE,Int.reduceLT,Int.reduceAdd,Int.reduceNeg,Nat.reduceMul,T88]
   refine⟨?_,(h1.trans h2).post⟩
   simp only[commentS,if_pos h',sDash,hg,Bool.not_true,Bool.false_and]
   push_cast
   rfl
theorem declaration_ok {G:Nat→Option (List AV)} (E:Env G) {s:List UInt8} (hs:s.length≤1000000000):PureCall Tryz.prog G 61 [.str s] (.int .i64 (declS s)):=by
 intro H
 refine ACalls.keep (ACalls.of Tryz.func61 S61_eq R61 N61 rfl rfl ?_)
 simp (maxSteps:=400000) only[wF,storeA,reduceCtorEq,Nat.reduceAdd,Nat.reduceSub,Nat.reduceEqDiff,Nat.reduceLeDiff,Int.reduceToNat,Int.reduceLE,Int.reduceLT,Int.reduceAdd,Int.reduceNeg,Nat.reduceMul,S61,N61,R61,T61]
 refine AInv.pureK E.hasPreB (E.hasPre _ _) fun H1 h1=>?_
 simp (maxSteps:=400000) only[wF,storeA,reduceCtorEq,Nat.reduceAdd,Nat.reduceSub,Nat.reduceEqDiff,Nat.reduceLeDiff,Int.reduceToNat,Int.reduceLE,Int.reduceLT,Int.reduceAdd,Int.reduceNeg,Nat.reduceMul,T61]
 refine guardS.split (fun h=>?_) (fun h=>?_)
 ·have h':Lib.hasPrefix s sXml=true:=by simpa[sXml]using h
  have hl:=hasPrefix_len h'
  simp only[sXml,List.length_cons,List.length_nil]at hl
  simp (maxSteps:=400000) only[wF,storeA,reduceCtorEq,Nat.reduceAdd,Nat.reduceSub,Nat.reduceEqDiff,Nat.reduceLeDiff,Int.reduceToNat,Int.reduceLE,Int.reduceLT,Int.reduceAdd,Int.reduceNeg,Nat.reduceMul,T61]
  refine guardS.split (fun h5=>?_) (fun h5=>?_)
  ·have h5':s.length≠5:=by simp at h5;omega
   have hlt:5<s.length:=by omega
   have hget:s.getD 5 0=s[5]:=by simp[List.getD,List.getElem?_eq_getElem hlt]
   simp (maxSteps:=400000) only[wF,storeA,reduceCtorEq,Nat.reduceAdd,Nat.reduceSub,Nat.reduceEqDiff,Nat.reduceLeDiff,Int.reduceToNat,Int.reduceLE,Int.reduceLT,Int.reduceAdd,Int.reduceNeg,Nat.reduceMul,T61,List.getElem?_eq_getElem hlt]
   refine AInv.pureK B84 (white_ok G _) fun H2 h2=>?_
   simp (maxSteps:=400000) only[wF,storeA,reduceCtorEq,Nat.reduceAdd,Nat.reduceSub,Nat.reduceEqDiff,Nat.reduceLeDiff,Int.reduceToNat,Int.reduceLE,Int.reduceLT,Int.reduceAdd,Int.reduceNeg,Nat.reduceMul,T61]
   refine condS.split (fun hw=>?_) (fun hw=>?_)
   ·have hw':¬isW (s.getD 5 0)=true:=by rw[hget];simpa using hw
    simp (maxSteps:=400000) only[wF,storeA,reduceCtorEq,Nat.reduceAdd,Nat.reduceSub,Nat.reduceEqDiff,Nat.reduceLeDiff,Int.reduceToNat,Int.reduceLE,Int.reduceLT,Int.reduceAdd,Int.reduceNeg,Nat.reduceMul,T61]
    have hd:declS s=0:=by unfold declS;exact if_neg fun h=>hw' h.2.2
    exact⟨by rw[hd],(h1.trans h2).post⟩
   ·have hw':isW (s.getD 5 0)=true:=by rw[hget];simpa using hw
    have hd:declS s=if 0≤Lib.index (s.drop 5) [63,62]then 5+Lib.index (s.drop 5) [63,62]+2 else -1:=by simp only[declS,h',h5',hw',ne_eq,not_false_eq_true,and_self,if_true]
    have hxs:((5:Int)≤s.length)=True:=by simp;omega
    simp (maxSteps:=400000) only[wF,storeA,reduceCtorEq,Nat.reduceAdd,Nat.reduceSub,Nat.reduceEqDiff,Nat.reduceLeDiff,Int.reduceToNat,Int.reduceLE,Int.reduceLT,Int.reduceAdd,Int.reduceNeg,Nat.reduceMul,T61,hxs]
    refine AInv.pureK E.indexB (E.index _ _ (by simp;omega)) fun H3 h3=>?_
    have hge:=Lib.index_ge (s.drop 5) [63,62]
    have hle:=Lib.index_le (s.drop 5) [63,62]
    simp only[List.length_drop]at hle
    simp (maxSteps:=400000) only[wF,storeA,reduceCtorEq,Nat.reduceAdd,Nat.reduceSub,Nat.reduceEqDiff,Nat.reduceLeDiff,Int.reduceToNat,Int.reduceLE,Int.reduceLT,Int.reduceAdd,Int.reduceNeg,Nat.reduceMul,T61]
    refine condS.split (fun hn=>?_) (fun hn=>?_)
    ·have hn':0≤Lib.index (s.drop 5) [63,62]:=by simpa using hn
     simp (maxSteps:=400000) only[wF,storeA,reduceCtorEq,Nat.reduceAdd,Nat.reduceSub,Nat.reduceEqDiff,Nat.reduceLeDiff,Int.reduceToNat,Int.reduceLE,Int.reduceLT,Int.reduceAdd,Int.reduceNeg,Nat.reduceMul,T61]
     simp (disch:=omega) only[wrap64]
     exact⟨by rw[hd,if_pos hn'],((h1.trans h2).trans h3).post⟩
    ·have hn':¬0≤Lib.index (s.drop 5) [63,62]:=by simpa using hn
     simp (maxSteps:=400000) only[wF,storeA,reduceCtorEq,Nat.reduceAdd,Nat.reduceSub,Nat.reduceEqDiff,Nat.reduceLeDiff,Int.reduceToNat,Int.reduceLE,Int.reduceLT,Int.reduceAdd,Int.reduceNeg,Nat.reduceMul,T61]
     exact⟨by rw[hd,if_neg hn'],((h1.trans h2).trans h3).post⟩
  ·have h5':s.length=5:=by simp at h5;omega
   simp (maxSteps:=400000) only[wF,storeA,reduceCtorEq,Nat.reduceAdd,Nat.reduceSub,Nat.reduceEqDiff,Nat.reduceLeDiff,Int.reduceToNat,Int.reduceLE,Int.reduceLT,Int.reduceAdd,Int.reduceNeg,Nat.reduceMul,T61]
   exact⟨by simp[declS,h5'],h1.post⟩
 ·have h':¬Lib.hasPrefix s sXml=true:=by simpa[sXml]using h
  simp (maxSteps:=400000) only[wF,storeA,reduceCtorEq,Nat.reduceAdd,Nat.reduceSub,Nat.reduceEqDiff,Nat.reduceLeDiff,Int.reduceToNat,Int.reduceLE,Int.reduceLT,Int.reduceAdd,Int.reduceNeg,Nat.reduceMul,T61]
  exact⟨by simp[declS,h'],h1.post⟩
end Go.Ab
namespace Go.Ab
open Go Go.Lib Go.Proofs
theorem dT {p:Prop} [Decidable p] (h:p):decide p=true:=decide_eq_true h
theorem dF {p:Prop} [Decidable p] (h:¬p):decide p=false:=decide_eq_false h
theorem eT {a b:Int} (h:a=b):(a==b)=true:=by simp[h]
theorem eF {a b:Int} (h:¬a=b):(a==b)=false:=by simp[h]
theorem nT {a b:Int} (h:¬a=b):(a != b)=true:=by simp[h]
theorem nF {a b:Int} (h:a=b):(a != b)=false:=by simp[h]
theorem isChar_ok (G:Nat→Option (List AV)) (c:Int):PureCall Tryz.prog G 48 [.int .i32 c] (.bool (isCharS c)):=by
 intro H
 refine ACalls.keep (ACalls.of Tryz.func48 S48_eq R48 N48 rfl rfl ?_)
 have h:c<9∨c=9∨c=10∨c=13∨(c=11∨c=12∨(13<c∧c<32))∨(32≤c∧c≤55295)∨(55295<c∧c<57344)∨(57344≤c∧c≤65533)∨(65533<c∧c<65536)∨(65536≤c∧c≤1114111)∨1114111<c:=by omega
 rcases h with h | h | h | h | h | h | h | h | h | h | h<;>
  simp (maxSteps:=400000) (disch:=omega) only[dT,dF,eT,eF,nT,nF,wE,stepW,footA,makesA,ptrId,pairsOk,footApart,opS,opA,ev,putA,setC,ofConst,ofFlat,List.replicate,List.set,binA,intA,strA,unA,extractA,nilCheckA,bodyA,resultsA,oneOrTup,builtinA,lenA,indexA,minA,loadA,partA,storeA,setCells,fieldA,ptrAdd,AV.cellsOf,AV.one,reduceCtorEq,Nat.reduceAdd,Nat.reduceSub,Nat.reduceEqDiff,Nat.reduceLeDiff,Array.toList,Int.reduceToNat,Int.reduceLE,Int.reduceLT,Int.reduceAdd,Int.reduceNeg,Nat.reduceMul,S48,N48,R48,T48,isCharS,Bool.or_true,Bool.or_false,Bool.true_or,Bool.false_or,Bool.and_false,Bool.false_and]<;>
  simp
theorem isLetter_ok (G:Nat→Option (List AV)) (c:Int):PureCall Tryz.prog G 97 [.int .i32 c] (.bool (isLetterS c)):=by
 intro H
 refine ACalls.keep (ACalls.of Tryz.func97 S97_eq R97 N97 rfl rfl ?_)
 have h:c<65∨(65≤c∧c≤90)∨(90<c∧c<95)∨c=95∨c=96∨(97≤c∧c≤122)∨(122<c∧c<192)∨c=215∨c=247∨(192≤c∧¬c=215∧¬c=247):=by omega
 rcases h with h | h | h | h | h | h | h | h | h | h<;>
  simp (maxSteps:=400000) (disch:=omega) only[dT,dF,eT,eF,nT,nF,wE,stepW,footA,makesA,ptrId,pairsOk,footApart,opS,opA,ev,putA,setC,ofConst,ofFlat,List.replicate,List.set,binA,intA,strA,unA,extractA,nilCheckA,bodyA,resultsA,oneOrTup,builtinA,lenA,indexA,minA,loadA,partA,storeA,setCells,fieldA,ptrAdd,AV.cellsOf,AV.one,reduceCtorEq,Nat.reduceAdd,Nat.reduceSub,Nat.reduceEqDiff,Nat.reduceLeDiff,Array.toList,Int.reduceToNat,Int.reduceLE,Int.reduceLT,Int.reduceAdd,Int.reduceNeg,Nat.reduceMul,S97,N97,R97,T97,isLetterS,Bool.or_true,Bool.or_false,Bool.true_or,Bool.false_or,Bool.and_false,Bool.false_and]<;>
  simp
theorem entity_ok (G:Nat→Option (List AV)) (l:List UInt8):PureCall Tryz.prog G 125 [.str l] (.tup [.str (entityS l).1,.bool (entityS l).2]):=by
 intro H
 refine ACalls.keep (ACalls.of Tryz.func125 S125_eq R125 N125 rfl rfl ?_)
 simp (maxSteps:=400000) only[wF,storeA,reduceCtorEq,Nat.reduceAdd,Nat.reduceSub,Nat.reduceEqDiff,Nat.reduceLeDiff,Int.reduceToNat,Int.reduceLE,Int.reduceLT,Int.reduceAdd,Int.reduceNeg,Nat.reduceMul,S125,N125,R125,T125]
 repeat' (first | (refine condS.split ?_ ?_<;>intro _) | (simp (maxSteps:=400000) only[wF,storeA,reduceCtorEq,Nat.reduceAdd,Nat.reduceSub,Nat.reduceEqDiff,Nat.reduceLeDiff,Int.reduceToNat,Int.reduceLE,Int.reduceLT,Int.reduceAdd,Int.reduceNeg,Nat.reduceMul,T125]))
 all_goals (simp_all [entityS])
end Go.Ab
namespace Go.Ab
open Go Go.Lib Go.Proofs
theorem hasPrefix_bool (l p:List UInt8):Lib.hasPrefix l p=true∨Lib.hasPrefix l p=false:=by cases Lib.hasPrefix l p<;>simp
theorem drop_drop_add (s:List UInt8) (i k:Nat):(s.drop i).drop k=s.drop (i+k):=by rw[List.drop_drop]
theorem isText_ok {G:Nat→Option (List AV)} (E:Env G) {s:List UInt8} (hs:s.length≤1000000000):PureCall Tryz.prog G 25 [.str s] (.bool (isTextS s)):=by
 intro H
 refine ACalls.keep (ACalls.of Tryz.func25 S25_eq R25 N25 rfl rfl ?_)
 simp (maxSteps:=400000) only[wF,storeA,reduceCtorEq,Nat.reduceAdd,Nat.reduceSub,Nat.reduceEqDiff,Nat.reduceLeDiff,Int.reduceToNat,Int.reduceLE,Int.reduceLT,Int.reduceAdd,Int.reduceNeg,Nat.reduceMul,S25,N25,R25,T25]
 refine ATrS.loopK (κ:=Nat × AHeap) (fun x=>[.str s,.und,.und,.und,.und,.str s,.ptr H.next 0]++List.replicate 18 .und) (fun x=>x.2)
  (fun x=>x.1≤s.length∧isTextS (s.drop x.1)=isTextS s∧x.2.get H.next=some (.iter s x.1)∧H.next<x.2.next∧∀j,j<H.next→x.2.get j=H.get j) (fun x=>s.length-x.1)
  ⟨(0,_),⟨Nat.zero_le _,rfl,by simp[AHeap.get_allocAt],by simp[AHeap.next_allocAt],fun j hj=>by simp[AHeap.get_allocAt];omega⟩,by simp[Fg],HW.refl _⟩ ?_
 rintro⟨k,J⟩ ⟨hk,ht,hi,hn,hj⟩
 simp only at hk ht hi hn hj
 by_cases hlt:k<s.length
 ·have hd:=dec_drop hlt
  have hst:=isTextS_step (drop_ne hlt)
  rw[drop_drop_add]at hst
  have hks:((k:Int)≤s.length)=True:=by simp;omega
  simp (maxSteps:=400000) only[wF,storeA,reduceCtorEq,Nat.reduceAdd,Nat.reduceSub,Nat.reduceEqDiff,Nat.reduceLeDiff,Int.reduceToNat,Int.reduceLE,Int.reduceLT,Int.reduceAdd,Int.reduceNeg,Nat.reduceMul,T25,nextA,hi,hlt,dec_at]
  refine AInv.pureK B48 (isChar_ok G _) fun J1 h1=>?_
  have g1:∀j,j<H.next→J1.get j=H.get j:=fun j hj'=>by rw[h1.2,AHeap.get_set_ne _ _ (by omega)];exact hj j hj'
  have n1:H.next<J1.next:=by have:=h1.1;simp only[AHeap.next_set]at this;omega
  have i1:J1.get H.next=some (.iter s (k+(dec (s.drop k)).2)):=by rw[h1.2];simp
  cases hc:isCharS ((dec (s.drop k)).1:Nat)with
  | false=>
   simp (maxSteps:=400000) only[wF,storeA,reduceCtorEq,Nat.reduceAdd,Nat.reduceSub,Nat.reduceEqDiff,Nat.reduceLeDiff,Int.reduceToNat,Int.reduceLE,Int.reduceLT,Int.reduceAdd,Int.reduceNeg,Nat.reduceMul,T25,hc]
   refine⟨?_,by omega,g1⟩
   rw[←ht,hst]
   simp[headTextS,hc]
  | true=>
   cases h3:(((dec (s.drop k)).1:Nat):Int)==65533 with
   | false=>
    simp (maxSteps:=400000) only[wF,storeA,reduceCtorEq,Nat.reduceAdd,Nat.reduceSub,Nat.reduceEqDiff,Nat.reduceLeDiff,Int.reduceToNat,Int.reduceLE,Int.reduceLT,Int.reduceAdd,Int.reduceNeg,Nat.reduceMul,T25,hc,h3]
    refine⟨(k+(dec (s.drop k)).2,_),⟨hd.2,?_,i1,n1,g1⟩,by simp only;omega,by simp[Fg],HW.refl _⟩
    rw[←ht,hst]
    have h3':((dec (s.drop k)).1==65533)=false:=by
     simp at h3 ⊢
     omega
    simp[headTextS,hc,h3']
   | true=>
    simp (maxSteps:=400000) only[wF,storeA,reduceCtorEq,Nat.reduceAdd,Nat.reduceSub,Nat.reduceEqDiff,Nat.reduceLeDiff,Int.reduceToNat,Int.reduceLE,Int.reduceLT,Int.reduceAdd,Int.reduceNeg,Nat.reduceMul,T25,hc,h3,hks]
    refine AInv.pureK E.hasPreB (E.hasPre _ _) fun J2 h2=>?_
    have g2:∀j,j<H.next→J2.get j=H.get j:=fun j hj'=>by rw[h2.2];exact g1 j hj'
    have n2:H.next<J2.next:=Nat.lt_of_lt_of_le n1 h2.1
    have i2:J2.get H.next=some (.iter s (k+(dec (s.drop k)).2)):=by rw[h2.2];exact i1
    have h3':((dec (s.drop k)).1==65533)=true:=by
     simp at h3 ⊢
     omega
    rcases hasPrefix_bool (s.drop k) [239,191,189]with hp | hp
    ·simp (maxSteps:=400000) only[wF,storeA,reduceCtorEq,Nat.reduceAdd,Nat.reduceSub,Nat.reduceEqDiff,Nat.reduceLeDiff,Int.reduceToNat,Int.reduceLE,Int.reduceLT,Int.reduceAdd,Int.reduceNeg,Nat.reduceMul,T25,hp]
     refine⟨(k+(dec (s.drop k)).2,_),⟨hd.2,?_,i2,n2,g2⟩,by simp only;omega,by simp[Fg],HW.refl _⟩
     rw[←ht,hst]
     simp[headTextS,hc,h3',hp]
    ·simp (maxSteps:=400000) only[wF,storeA,reduceCtorEq,Nat.reduceAdd,Nat.reduceSub,Nat.reduceEqDiff,Nat.reduceLeDiff,Int.reduceToNat,Int.reduceLE,Int.reduceLT,Int.reduceAdd,Int.reduceNeg,Nat.reduceMul,T25,hp]
     refine⟨?_,by omega,g2⟩
     rw[←ht,hst]
     simp[headTextS,hc,h3',hp]
 ·simp (maxSteps:=400000) only[wF,storeA,reduceCtorEq,Nat.reduceAdd,Nat.reduceSub,Nat.reduceEqDiff,Nat.reduceLeDiff,Int.reduceToNat,Int.reduceLE,Int.reduceLT,Int.reduceAdd,Int.reduceNeg,Nat.reduceMul,T25,nextA,hi,hlt]
  refine⟨?_,by omega,hj⟩
  rw[←ht,List.drop_eq_nil_of_le (by omega)]
  simp[isTextS_nil]
theorem count_ok (G:Nat→Option (List AV)) {s:List UInt8} (hs:s.length≤1000000000):PureCall Tryz.prog G 71 [.str s] (.int .i64 (countS s:Nat)):=by
 intro H
 refine ACalls.keep (ACalls.of Tryz.func71 S71_eq R71 N71 rfl rfl ?_)
 simp (maxSteps:=400000) only[wF,storeA,reduceCtorEq,Nat.reduceAdd,Nat.reduceSub,Nat.reduceEqDiff,Nat.reduceLeDiff,Int.reduceToNat,Int.reduceLE,Int.reduceLT,Int.reduceAdd,Int.reduceNeg,Nat.reduceMul,S71,N71,R71,T71]
 refine ATrS.loopK (κ:=Nat × Nat × AHeap) (fun x=>[.str s,.und,.int .i64 x.2.1,.str s,.ptr H.next 0]++List.replicate 5 .und) (fun x=>x.2.2)
  (fun x=>x.1≤s.length∧x.2.1≤x.1∧x.2.1+countS (s.drop x.1)=countS s∧x.2.2.get H.next=some (.iter s x.1)∧H.next<x.2.2.next∧∀j,j<H.next→x.2.2.get j=H.get j) (fun x=>s.length-x.1)
  ⟨(0,0,_),⟨Nat.zero_le _,Nat.zero_le _,by simp,by simp[AHeap.get_allocAt],by simp[AHeap.next_allocAt],fun j hj=>by simp[AHeap.get_allocAt];omega⟩,by simp[Fg],HW.refl _⟩ ?_
 rintro⟨k,n,J⟩ ⟨hk,hnk,ht,hi,hn,hj⟩
 simp only at hk hnk ht hi hn hj
 by_cases hlt:k<s.length
 ·have hd:=dec_drop hlt
  have hst:=countS_step (drop_ne hlt)
  rw[drop_drop_add]at hst
  simp (maxSteps:=400000) only[wF,storeA,reduceCtorEq,Nat.reduceAdd,Nat.reduceSub,Nat.reduceEqDiff,Nat.reduceLeDiff,Int.reduceToNat,Int.reduceLE,Int.reduceLT,Int.reduceAdd,Int.reduceNeg,Nat.reduceMul,T71,nextA,hi,hlt,dec_at]
  have e:IntKind.i64.wrap ((n:Int)+1)=((n+1:Nat):Int):=by rw[wrap64]<;>omega
  simp only[e]
  refine⟨(k+(dec (s.drop k)).2,n+1,_),⟨hd.2,by simp only;omega,by simp only;omega,by simp,by simp only[AHeap.next_set];omega,fun j hj'=>by simp only[show j≠H.next by omega,if_false];exact hj j hj'⟩,by simp only;omega,by simp[Fg],HW.refl _⟩
 ·simp (maxSteps:=400000) only[wF,storeA,reduceCtorEq,Nat.reduceAdd,Nat.reduceSub,Nat.reduceEqDiff,Nat.reduceLeDiff,Int.reduceToNat,Int.reduceLE,Int.reduceLT,Int.reduceAdd,Int.reduceNeg,Nat.reduceMul,T71,nextA,hi,hlt]
  refine⟨?_,by omega,hj⟩
  rw[List.drop_eq_nil_of_le (by omega),countS_nil]at ht
  rw[←ht]
  simp
end Go.Ab
namespace Go.Ab
open Go Go.Lib Go.Proofs
def partAt (s:List UInt8) (k:Nat):Prop:=partL (decide (k=0)) (s.drop k)=partL true s
theorem isPart_ok (G:Nat→Option (List AV)) {s:List UInt8} (hs:s.length≤1000000000):PureCall Tryz.prog G 73 [.str s] (.bool (isPartS s)):=by
 intro H
 refine ACalls.keep (ACalls.of Tryz.func73 S73_eq R73 N73 rfl rfl ?_)
 simp (maxSteps:=400000) only[wF,storeA,reduceCtorEq,Nat.reduceAdd,Nat.reduceSub,Nat.reduceEqDiff,Nat.reduceLeDiff,Int.reduceToNat,Int.reduceLE,Int.reduceLT,Int.reduceAdd,Int.reduceNeg,Nat.reduceMul,S73,N73,R73,T73]
 refine ATrS.loopK (κ:=Nat × AHeap) (fun x=>[.str s,.und,.und,.und,.und,.str s,.ptr H.next 0]++List.replicate 33 .und) (fun x=>x.2)
  (fun x=>x.1≤s.length∧partAt s x.1∧x.2.get H.next=some (.iter s x.1)∧H.next<x.2.next∧∀j,j<H.next→x.2.get j=H.get j) (fun x=>s.length-x.1)
  ⟨(0,_),⟨Nat.zero_le _,rfl,by simp[AHeap.get_allocAt],by simp[AHeap.next_allocAt],fun j hj=>by simp[AHeap.get_allocAt];omega⟩,by simp[Fg],HW.refl _⟩ ?_
 rintro⟨k,J⟩ ⟨hk,ht,hi,hn,hj⟩
 simp only at hk ht hi hn hj
 by_cases hlt:k<s.length
 ·have hd:=dec_drop hlt
  have ht:partL (decide (k=0)) (s.drop k)=partL true s:=ht
  have hst:=partL_step (decide (k=0)) (drop_ne hlt)
  rw[drop_drop_add]at hst
  have hz:decide (k+(dec (s.drop k)).2=0)=false:=decide_eq_false (by omega)
  have hp:partL false (s.drop (k+(dec (s.drop k)).2))=partL true s→partAt s (k+(dec (s.drop k)).2):=fun h=>by unfold partAt;rw[hz];exact h
  simp (maxSteps:=400000) only[wF,storeA,reduceCtorEq,Nat.reduceAdd,Nat.reduceSub,Nat.reduceEqDiff,Nat.reduceLeDiff,Int.reduceToNat,Int.reduceLE,Int.reduceLT,Int.reduceAdd,Int.reduceNeg,Nat.reduceMul,T73,nextA,hi,hlt,dec_at]
  refine AInv.pureK B97 (isLetter_ok G _) fun J1 h1=>?_
  have g1:∀j,j<H.next→J1.get j=H.get j:=fun j hj'=>by rw[h1.2,AHeap.get_set_ne _ _ (by omega)];exact hj j hj'
  have n1:H.next<J1.next:=by have:=h1.1;simp only[AHeap.next_set]at this;omega
  have i1:J1.get H.next=some (.iter s (k+(dec (s.drop k)).2)):=by rw[h1.2];simp
  generalize hc:(dec (s.drop k)).1=c at hst ⊢
  cases hl:isLetterS (c:Nat)with
  | true=>
   simp (maxSteps:=400000) only[wF,storeA,reduceCtorEq,Nat.reduceAdd,Nat.reduceSub,Nat.reduceEqDiff,Nat.reduceLeDiff,Int.reduceToNat,Int.reduceLE,Int.reduceLT,Int.reduceAdd,Int.reduceNeg,Nat.reduceMul,T73,hl]
   refine⟨(k+(dec (s.drop k)).2,_),⟨hd.2,hp ?_,i1,n1,g1⟩,by simp only;omega,by simp[Fg],HW.refl _⟩
   rw[←ht,hst]
   simp[partChar,hl]
  | false=>
   by_cases h0:k=0
   ·have h00:((k:Int)==0)=true:=by simp;omega
    simp (maxSteps:=400000) only[wF,storeA,reduceCtorEq,Nat.reduceAdd,Nat.reduceSub,Nat.reduceEqDiff,Nat.reduceLeDiff,Int.reduceToNat,Int.reduceLE,Int.reduceLT,Int.reduceAdd,Int.reduceNeg,Nat.reduceMul,T73,hl,h00]
    refine⟨?_,by omega,g1⟩
    have:partL true s=false:=by
     rw[←ht,hst]
     simp[partChar,hl,h0]
    unfold partL at this
    simp[isPartS,this]
   ·have h0':decide (k=0)=false:=by simp[h0]
    have h00:((k:Int)==0)=false:=by simp;omega
    cases b1:((c:Int) != 45)with
    | false=>
     simp (maxSteps:=400000) only[wF,storeA,reduceCtorEq,Nat.reduceAdd,Nat.reduceSub,Nat.reduceEqDiff,Nat.reduceLeDiff,Int.reduceToNat,Int.reduceLE,Int.reduceLT,Int.reduceAdd,Int.reduceNeg,Nat.reduceMul,T73,hl,h00,b1]
     refine⟨(k+(dec (s.drop k)).2,_),⟨hd.2,hp ?_,i1,n1,g1⟩,by simp only;omega,by simp[Fg],HW.refl _⟩
     rw[←ht,hst,h0']
     simp at b1
     simp[partChar]
     omega
    | true=>
     cases b2:((c:Int) != 46)with
     | false=>
      simp (maxSteps:=400000) only[wF,storeA,reduceCtorEq,Nat.reduceAdd,Nat.reduceSub,Nat.reduceEqDiff,Nat.reduceLeDiff,Int.reduceToNat,Int.reduceLE,Int.reduceLT,Int.reduceAdd,Int.reduceNeg,Nat.reduceMul,T73,hl,h00,b1,b2]
      refine⟨(k+(dec (s.drop k)).2,_),⟨hd.2,hp ?_,i1,n1,g1⟩,by simp only;omega,by simp[Fg],HW.refl _⟩
      rw[←ht,hst,h0']
      simp at b1 b2
      simp[partChar]
      omega
     | true=>
      cases b3:((c:Int) != 183)with
      | false=>
       simp (maxSteps:=400000) only[wF,storeA,reduceCtorEq,Nat.reduceAdd,Nat.reduceSub,Nat.reduceEqDiff,Nat.reduceLeDiff,Int.reduceToNat,Int.reduceLE,Int.reduceLT,Int.reduceAdd,Int.reduceNeg,Nat.reduceMul,T73,hl,h00,b1,b2,b3]
       refine⟨(k+(dec (s.drop k)).2,_),⟨hd.2,hp ?_,i1,n1,g1⟩,by simp only;omega,by simp[Fg],HW.refl _⟩
       rw[←ht,hst,h0']
       simp at b1 b2 b3
       simp[partChar]
       omega
      | true=>
       cases b4:decide ((c:Int)<48)with
       | true=>
        simp (maxSteps:=400000) only[wF,storeA,reduceCtorEq,Nat.reduceAdd,Nat.reduceSub,Nat.reduceEqDiff,Nat.reduceLeDiff,Int.reduceToNat,Int.reduceLE,Int.reduceLT,Int.reduceAdd,Int.reduceNeg,Nat.reduceMul,T73,hl,h00,b1,b2,b3,b4]
        refine⟨?_,by omega,g1⟩
        have:partL true s=false:=by
         rw[←ht,hst,h0']
         simp at b1 b2 b3 b4
         simp[partChar,hl]
         omega
        unfold partL at this
        simp[isPartS,this]
       | false=>
        cases b5:decide ((c:Int)>57)with
        | true=>
         simp (maxSteps:=400000) only[wF,storeA,reduceCtorEq,Nat.reduceAdd,Nat.reduceSub,Nat.reduceEqDiff,Nat.reduceLeDiff,Int.reduceToNat,Int.reduceLE,Int.reduceLT,Int.reduceAdd,Int.reduceNeg,Nat.reduceMul,T73,hl,h00,b1,b2,b3,b4,b5]
         refine⟨?_,by omega,g1⟩
         have:partL true s=false:=by
          rw[←ht,hst,h0']
          simp at b1 b2 b3 b4 b5
          simp[partChar,hl]
          omega
         unfold partL at this
         simp[isPartS,this]
        | false=>
         simp (maxSteps:=400000) only[wF,storeA,reduceCtorEq,Nat.reduceAdd,Nat.reduceSub,Nat.reduceEqDiff,Nat.reduceLeDiff,Int.reduceToNat,Int.reduceLE,Int.reduceLT,Int.reduceAdd,Int.reduceNeg,Nat.reduceMul,T73,hl,h00,b1,b2,b3,b4,b5]
         refine⟨(k+(dec (s.drop k)).2,_),⟨hd.2,hp ?_,i1,n1,g1⟩,by simp only;omega,by simp[Fg],HW.refl _⟩
         rw[←ht,hst,h0']
         simp at b1 b2 b3 b4 b5
         simp[partChar]
         omega
 ·simp (maxSteps:=400000) only[wF,storeA,reduceCtorEq,Nat.reduceAdd,Nat.reduceSub,Nat.reduceEqDiff,Nat.reduceLeDiff,Int.reduceToNat,Int.reduceLE,Int.reduceLT,Int.reduceAdd,Int.reduceNeg,Nat.reduceMul,T73,nextA,hi,hlt]
  refine⟨?_,by omega,hj⟩
  have ht:partL (decide (k=0)) (s.drop k)=partL true s:=ht
  rw[List.drop_eq_nil_of_le (by omega),partL_nil]at ht
  unfold partL at ht
  simp[isPartS,←ht]
  cases s<;>rfl
end Go.Ab
namespace Go.Ab
open Go Go.Lib Go.Proofs
theorem cut_snd_le (s p:List UInt8):(Lib.cut s p).2.1.length≤s.length:=by
 unfold Lib.cut
 split
 ·simp
 ·simp
theorem isName_ok {G:Nat→Option (List AV)} (E:Env G) {s:List UInt8} (hs:s.length≤1000000000):PureCall Tryz.prog G 43 [.str s] (.bool (isNameS s)):=by
 intro H
 refine ACalls.keep (ACalls.of Tryz.func43 S43_eq R43 N43 rfl rfl ?_)
 simp (maxSteps:=400000) only[wF,storeA,reduceCtorEq,Nat.reduceAdd,Nat.reduceSub,Nat.reduceEqDiff,Nat.reduceLeDiff,Int.reduceToNat,Int.reduceLE,Int.reduceLT,Int.reduceAdd,Int.reduceNeg,Nat.reduceMul,S43,N43,R43,T43]
 refine AInv.pureK B25 (isText_ok E hs) fun H1 h1=>?_
 cases ht:isTextS s with
 | false=>
  simp (maxSteps:=400000) only[wF,storeA,reduceCtorEq,Nat.reduceAdd,Nat.reduceSub,Nat.reduceEqDiff,Nat.reduceLeDiff,Int.reduceToNat,Int.reduceLE,Int.reduceLT,Int.reduceAdd,Int.reduceNeg,Nat.reduceMul,T43]
  exact⟨by simp[isNameS,ht],h1.post⟩
 | true=>
  simp (maxSteps:=400000) only[wF,storeA,reduceCtorEq,Nat.reduceAdd,Nat.reduceSub,Nat.reduceEqDiff,Nat.reduceLeDiff,Int.reduceToNat,Int.reduceLE,Int.reduceLT,Int.reduceAdd,Int.reduceNeg,Nat.reduceMul,T43]
  refine AInv.pureK B71 (count_ok G hs) fun H2 h2=>?_
  simp (maxSteps:=400000) only[wF,storeA,reduceCtorEq,Nat.reduceAdd,Nat.reduceSub,Nat.reduceEqDiff,Nat.reduceLeDiff,Int.reduceToNat,Int.reduceLE,Int.reduceLT,Int.reduceAdd,Int.reduceNeg,Nat.reduceMul,T43]
  refine condS.split (fun h=>?_) (fun h=>?_)
  ·have h:¬countS s≤100:=by simp at h;omega
   simp (maxSteps:=400000) only[wF,storeA,reduceCtorEq,Nat.reduceAdd,Nat.reduceSub,Nat.reduceEqDiff,Nat.reduceLeDiff,Int.reduceToNat,Int.reduceLE,Int.reduceLT,Int.reduceAdd,Int.reduceNeg,Nat.reduceMul,T43]
   exact⟨by simp[isNameS,h],(h1.trans h2).post⟩
  ·have h:countS s≤100:=by simp at h;omega
   have hc1:=cut_le s [58]
   have hc2:=cut_snd_le s [58]
   simp (maxSteps:=400000) only[wF,storeA,reduceCtorEq,Nat.reduceAdd,Nat.reduceSub,Nat.reduceEqDiff,Nat.reduceLeDiff,Int.reduceToNat,Int.reduceLE,Int.reduceLT,Int.reduceAdd,Int.reduceNeg,Nat.reduceMul,T43]
   refine AInv.pureK E.cutB (E.cut _ _ hs) fun H3 h3=>?_
   simp (maxSteps:=400000) only[wF,storeA,reduceCtorEq,Nat.reduceAdd,Nat.reduceSub,Nat.reduceEqDiff,Nat.reduceLeDiff,Int.reduceToNat,Int.reduceLE,Int.reduceLT,Int.reduceAdd,Int.reduceNeg,Nat.reduceMul,T43]
   refine AInv.pureK B73 (isPart_ok G (by omega)) fun H4 h4=>?_
   have h14:=((h1.trans h2).trans h3).trans h4
   cases hp:isPartS (Lib.cut s [58]).1 with
   | false=>
    simp (maxSteps:=400000) only[wF,storeA,reduceCtorEq,Nat.reduceAdd,Nat.reduceSub,Nat.reduceEqDiff,Nat.reduceLeDiff,Int.reduceToNat,Int.reduceLE,Int.reduceLT,Int.reduceAdd,Int.reduceNeg,Nat.reduceMul,T43]
    exact⟨by simp[isNameS,hp],h14.post⟩
   | true=>
    cases htwo:(Lib.cut s [58]).2.2 with
    | false=>
     simp (maxSteps:=400000) only[wF,storeA,reduceCtorEq,Nat.reduceAdd,Nat.reduceSub,Nat.reduceEqDiff,Nat.reduceLeDiff,Int.reduceToNat,Int.reduceLE,Int.reduceLT,Int.reduceAdd,Int.reduceNeg,Nat.reduceMul,T43,htwo]
     exact⟨by simp[isNameS,hp,htwo,ht,h],h14.post⟩
    | true=>
     simp (maxSteps:=400000) only[wF,storeA,reduceCtorEq,Nat.reduceAdd,Nat.reduceSub,Nat.reduceEqDiff,Nat.reduceLeDiff,Int.reduceToNat,Int.reduceLE,Int.reduceLT,Int.reduceAdd,Int.reduceNeg,Nat.reduceMul,T43,htwo]
     refine AInv.pureK B73 (isPart_ok G (by omega)) fun H5 h5=>?_
     simp (maxSteps:=400000) only[wF,storeA,reduceCtorEq,Nat.reduceAdd,Nat.reduceSub,Nat.reduceEqDiff,Nat.reduceLeDiff,Int.reduceToNat,Int.reduceLE,Int.reduceLT,Int.reduceAdd,Int.reduceNeg,Nat.reduceMul,T43]
     exact⟨by simp[isNameS,hp,htwo,ht,h],(h14.trans h5).post⟩
end Go.Ab
namespace Go.Ab
open Go Go.Lib Go.Proofs
theorem endTag_ok {G:Nat→Option (List AV)} (E:Env G) {s:List UInt8} {i:Nat} (hi:i≤s.length) (hs:s.length≤1000000000) :
  PureCall Tryz.prog G 90 [.str s,.int .i64 i] (.tup [.str (endS s i).1,.int .i64 (endS s i).2.1,.bool (endS s i).2.2]):=by
 intro H
 refine ACalls.keep (ACalls.of Tryz.func90 S90_eq R90 N90 rfl rfl ?_)
 have hxs:((i:Int)≤s.length)=True:=by simp;omega
 simp (maxSteps:=400000) only[wF,storeA,reduceCtorEq,Nat.reduceAdd,Nat.reduceSub,Nat.reduceEqDiff,Nat.reduceLeDiff,Int.reduceToNat,Int.reduceLE,Int.reduceLT,Int.reduceAdd,Int.reduceNeg,Nat.reduceMul,S90,N90,R90,T90,hxs]
 refine AInv.pureK E.hasPreB (E.hasPre _ _) fun H1 h1=>?_
 cases h:Lib.hasPrefix (s.drop i) [60,47]with
 | false=>
  simp (maxSteps:=400000) only[wF,storeA,reduceCtorEq,Nat.reduceAdd,Nat.reduceSub,Nat.reduceEqDiff,Nat.reduceLeDiff,Int.reduceToNat,Int.reduceLE,Int.reduceLT,Int.reduceAdd,Int.reduceNeg,Nat.reduceMul,T90,h]
  exact⟨by simp[endS,h],h1.post⟩
 | true=>
  have hl:=hasPrefix_len h
  simp only[List.length_cons,List.length_nil,List.length_drop]at hl
  have e2:IntKind.i64.wrap ((i:Int)+2)=((i+2:Nat):Int):=by rw[wrap64]<;>omega
  simp (maxSteps:=400000) only[wF,storeA,reduceCtorEq,Nat.reduceAdd,Nat.reduceSub,Nat.reduceEqDiff,Nat.reduceLeDiff,Int.reduceToNat,Int.reduceLE,Int.reduceLT,Int.reduceAdd,Int.reduceNeg,Nat.reduceMul,T90,h,e2]
  refine AInv.pureK B113 (until_ok E (by omega) hs) fun H2 h2=>?_
  have k1:=untilN_ge s (i+2) [62]
  have k2:=untilN_le (s:=s) (i:=i+2) [62] (by omega)
  have hk:endS s i=((s.take (untilN s (i+2) [62])).drop (i+2),skipN s (untilN s (i+2) [62])+1,isNameS ((s.take (untilN s (i+2) [62])).drop (i+2))&&Lib.hasPrefix (s.drop (skipN s (untilN s (i+2) [62]))) [62]):=by simp[endS,h]
  generalize untilN s (i+2) [62]=k at k1 k2 hk ⊢
  have f1:(((i+2:Nat):Int)≤(k:Nat))=True:=by simp;omega
  have f2:((k:Int)≤s.length)=True:=by simp;omega
  simp (maxSteps:=400000) only[wF,storeA,reduceCtorEq,Nat.reduceAdd,Nat.reduceSub,Nat.reduceEqDiff,Nat.reduceLeDiff,Int.reduceToNat,Int.reduceLE,Int.reduceLT,Int.reduceAdd,Int.reduceNeg,Nat.reduceMul,T90,e2,f1,f2]
  refine AInv.pureK B114 (skip_ok G k2 hs) fun H3 h3=>?_
  have k3:=skipN_ge s k
  have k4:=skipN_le k2
  generalize skipN s k=j at k3 k4 hk ⊢
  have e3:IntKind.i64.wrap ((j:Int)+1)=((j+1:Nat):Int):=by rw[wrap64]<;>omega
  have f3:((j:Int)≤s.length)=True:=by simp;omega
  simp (maxSteps:=400000) only[wF,storeA,reduceCtorEq,Nat.reduceAdd,Nat.reduceSub,Nat.reduceEqDiff,Nat.reduceLeDiff,Int.reduceToNat,Int.reduceLE,Int.reduceLT,Int.reduceAdd,Int.reduceNeg,Nat.reduceMul,T90,e3]
  refine AInv.pureK B43 (isName_ok E (by simp;omega)) fun H4 h4=>?_
  have h14:=((h1.trans h2).trans h3).trans h4
  cases hn:isNameS ((s.take k).drop (i+2))with
  | false=>
   simp (maxSteps:=400000) only[wF,storeA,reduceCtorEq,Nat.reduceAdd,Nat.reduceSub,Nat.reduceEqDiff,Nat.reduceLeDiff,Int.reduceToNat,Int.reduceLE,Int.reduceLT,Int.reduceAdd,Int.reduceNeg,Nat.reduceMul,T90,f3]
   exact⟨by rw[hk,hn];simp,h14.post⟩
  | true=>
   simp (maxSteps:=400000) only[wF,storeA,reduceCtorEq,Nat.reduceAdd,Nat.reduceSub,Nat.reduceEqDiff,Nat.reduceLeDiff,Int.reduceToNat,Int.reduceLE,Int.reduceLT,Int.reduceAdd,Int.reduceNeg,Nat.reduceMul,T90,f3]
   refine AInv.pureK E.hasPreB (E.hasPre _ _) fun H5 h5=>?_
   simp (maxSteps:=400000) only[wF,storeA,reduceCtorEq,Nat.reduceAdd,Nat.reduceSub,Nat.reduceEqDiff,Nat.reduceLeDiff,Int.reduceToNat,Int.reduceLE,Int.reduceLT,Int.reduceAdd,Int.reduceNeg,Nat.reduceMul,T90]
   exact⟨by rw[hk,hn];simp,(h14.trans h5).post⟩
theorem instruction_ok {G:Nat→Option (List AV)} (E:Env G) {s:List UInt8} {i:Nat} (hi:i≤s.length) (hs:s.length≤1000000000) :
  PureCall Tryz.prog G 89 [.str s,.int .i64 i] (.tup [.str (instrS s i).1,.str (instrS s i).2.1,.int .i64 (instrS s i).2.2.1,.bool (instrS s i).2.2.2]):=by
 intro H
 refine ACalls.keep (ACalls.of Tryz.func89 S89_eq R89 N89 rfl rfl ?_)
 have hxs:((i:Int)≤s.length)=True:=by simp;omega
 simp (maxSteps:=400000) only[wF,storeA,reduceCtorEq,Nat.reduceAdd,Nat.reduceSub,Nat.reduceEqDiff,Nat.reduceLeDiff,Int.reduceToNat,Int.reduceLE,Int.reduceLT,Int.reduceAdd,Int.reduceNeg,Nat.reduceMul,S89,N89,R89,T89,hxs]
 refine AInv.pureK E.hasPreB (E.hasPre _ _) fun H1 h1=>?_
 cases h:Lib.hasPrefix (s.drop i) [60,63]with
 | false=>
  simp (maxSteps:=400000) only[wF,storeA,reduceCtorEq,Nat.reduceAdd,Nat.reduceSub,Nat.reduceEqDiff,Nat.reduceLeDiff,Int.reduceToNat,Int.reduceLE,Int.reduceLT,Int.reduceAdd,Int.reduceNeg,Nat.reduceMul,T89,h]
  exact⟨by simp[instrS,h],h1.post⟩
 | true=>
  have hl:=hasPrefix_len h
  simp only[List.length_cons,List.length_nil,List.length_drop]at hl
  have e2:IntKind.i64.wrap ((i:Int)+2)=((i+2:Nat):Int):=by rw[wrap64]<;>omega
  simp (maxSteps:=400000) only[wF,storeA,reduceCtorEq,Nat.reduceAdd,Nat.reduceSub,Nat.reduceEqDiff,Nat.reduceLeDiff,Int.reduceToNat,Int.reduceLE,Int.reduceLT,Int.reduceAdd,Int.reduceNeg,Nat.reduceMul,T89,h,e2]
  refine AInv.pureK B113 (until_ok E (by omega) hs) fun H2 h2=>?_
  have k1:=untilN_ge s (i+2) [63]
  have k2:=untilN_le (s:=s) (i:=i+2) [63] (by omega)
  have hk:instrS s i=if isNameS ((s.take (untilN s (i+2) [63])).drop (i+2))=true∧isXmlS ((s.take (untilN s (i+2) [63])).drop (i+2))=false then
    (if Lib.index (s.drop (skipN s (untilN s (i+2) [63]))) [63,62]<0∨(0<Lib.index (s.drop (skipN s (untilN s (i+2) [63]))) [63,62]∧skipN s (untilN s (i+2) [63])=untilN s (i+2) [63])then([],[],0,false)
    else((s.take (untilN s (i+2) [63])).drop (i+2),(s.take (skipN s (untilN s (i+2) [63])+(Lib.index (s.drop (skipN s (untilN s (i+2) [63]))) [63,62]).toNat)).drop (skipN s (untilN s (i+2) [63])),skipN s (untilN s (i+2) [63])+(Lib.index (s.drop (skipN s (untilN s (i+2) [63]))) [63,62]).toNat+2,true))
    else([],[],0,false):=by simp[instrS,h]
  generalize untilN s (i+2) [63]=k at k1 k2 hk ⊢
  have f1:(((i+2:Nat):Int)≤(k:Nat))=True:=by simp;omega
  have f2:((k:Int)≤s.length)=True:=by simp;omega
  simp (maxSteps:=400000) only[wF,storeA,reduceCtorEq,Nat.reduceAdd,Nat.reduceSub,Nat.reduceEqDiff,Nat.reduceLeDiff,Int.reduceToNat,Int.reduceLE,Int.reduceLT,Int.reduceAdd,Int.reduceNeg,Nat.reduceMul,T89,e2,f1,f2]
  refine AInv.pureK B43 (isName_ok E (by simp;omega)) fun H3 h3=>?_
  have h13:=(h1.trans h2).trans h3
  have hnl:((s.take k).drop (i+2)).length≤1000000000:=by simp;omega
  generalize (s.take k).drop (i+2)=name at hk hnl ⊢
  cases hn:isNameS name with
  | false=>
   simp (maxSteps:=400000) only[wF,storeA,reduceCtorEq,Nat.reduceAdd,Nat.reduceSub,Nat.reduceEqDiff,Nat.reduceLeDiff,Int.reduceToNat,Int.reduceLE,Int.reduceLT,Int.reduceAdd,Int.reduceNeg,Nat.reduceMul,T89]
   exact⟨by rw[hk,hn];simp,h13.post⟩
  | true=>
   simp (maxSteps:=400000) only[wF,storeA,reduceCtorEq,Nat.reduceAdd,Nat.reduceSub,Nat.reduceEqDiff,Nat.reduceLeDiff,Int.reduceToNat,Int.reduceLE,Int.reduceLT,Int.reduceAdd,Int.reduceNeg,Nat.reduceMul,T89]
   refine AInv.pureK E.foldB (E.fold _ hnl) fun H4 h4=>?_
   cases hx:isXmlS name with
   | true=>
    simp (maxSteps:=400000) only[wF,storeA,reduceCtorEq,Nat.reduceAdd,Nat.reduceSub,Nat.reduceEqDiff,Nat.reduceLeDiff,Int.reduceToNat,Int.reduceLE,Int.reduceLT,Int.reduceAdd,Int.reduceNeg,Nat.reduceMul,T89]
    exact⟨by rw[hk,hn,hx];simp,(h13.trans h4).post⟩
   | false=>
    simp (maxSteps:=400000) only[wF,storeA,reduceCtorEq,Nat.reduceAdd,Nat.reduceSub,Nat.reduceEqDiff,Nat.reduceLeDiff,Int.reduceToNat,Int.reduceLE,Int.reduceLT,Int.reduceAdd,Int.reduceNeg,Nat.reduceMul,T89]
    refine AInv.pureK B114 (skip_ok G k2 hs) fun H5 h5=>?_
    have k3:=skipN_ge s k
    have k4:=skipN_le k2
    generalize skipN s k=j at k3 k4 hk ⊢
    have f3:((j:Int)≤s.length)=True:=by simp;omega
    simp (maxSteps:=400000) only[wF,storeA,reduceCtorEq,Nat.reduceAdd,Nat.reduceSub,Nat.reduceEqDiff,Nat.reduceLeDiff,Int.reduceToNat,Int.reduceLE,Int.reduceLT,Int.reduceAdd,Int.reduceNeg,Nat.reduceMul,T89,f3]
    refine AInv.pureK E.indexB (E.index _ _ (by simp;omega)) fun H6 h6=>?_
    have h16:=((h13.trans h4).trans h5).trans h6
    have n1:=Lib.index_ge (s.drop j) [63,62]
    have n2:=fun h=>index_bound (s:=s.drop j) (p:=[63,62]) h
    simp only[List.length_cons,List.length_nil,List.length_drop]at n2
    generalize Lib.index (s.drop j) [63,62]=n at n1 n2 hk ⊢
    cases b1:decide (n<0)with
    | true=>
     simp (maxSteps:=400000) only[wF,storeA,reduceCtorEq,Nat.reduceAdd,Nat.reduceSub,Nat.reduceEqDiff,Nat.reduceLeDiff,Int.reduceToNat,Int.reduceLE,Int.reduceLT,Int.reduceAdd,Int.reduceNeg,Nat.reduceMul,T89,b1]
     simp at b1
     exact⟨by rw[hk,hn,hx];simp[b1],h16.post⟩
    | false=>
     simp at b1
     obtain⟨m,rfl⟩:∃m:Nat,n=m:=⟨n.toNat,by omega⟩
     have n3:=n2 b1
     simp only[Int.toNat_natCast]at n3
     have d1:decide ((m:Int)<0)=false:=by simp
     have e4:IntKind.i64.wrap ((j:Int)+(m:Int))=((j+m:Nat):Int):=by rw[wrap64]<;>omega
     have e5:IntKind.i64.wrap (((j+m:Nat):Int)+2)=((j+m+2:Nat):Int):=by rw[wrap64]<;>omega
     have f4:((j:Int)≤(j+m:Nat))=True:=by simp;omega
     have f5:(((j+m:Nat):Int)≤s.length)=True:=by simp;omega
     by_cases hm:0<m∧j=k
     ·obtain⟨hm,rfl⟩:=hm
      have d2:decide ((m:Int)>0)=true:=by simp;omega
      have d3:((j:Int)==(j:Int))=true:=by simp
      simp (maxSteps:=400000) only[wF,storeA,reduceCtorEq,Nat.reduceAdd,Nat.reduceSub,Nat.reduceEqDiff,Nat.reduceLeDiff,Int.reduceToNat,Int.reduceLE,Int.reduceLT,Int.reduceAdd,Int.reduceNeg,Nat.reduceMul,T89,d1,d2,d3]
      exact⟨by rw[hk,hn,hx];simp[hm],h16.post⟩
     ·have hk':instrS s i=(name,(s.take (j+m)).drop j,j+m+2,true):=by
       rw[hk,hn,hx,if_pos ⟨rfl,rfl⟩,if_neg (by omega)]
       simp
      cases d2:decide ((m:Int)>0)with
      | false=>
       simp (maxSteps:=400000) only[wF,storeA,reduceCtorEq,Nat.reduceAdd,Nat.reduceSub,Nat.reduceEqDiff,Nat.reduceLeDiff,Int.reduceToNat,Int.reduceLE,Int.reduceLT,Int.reduceAdd,Int.reduceNeg,Nat.reduceMul,T89,d1,d2]
       refine drawW_fixed mixedOrders L89_11_eq P89_11_eq ?_
       simp (maxSteps:=400000) only[wF,storeA,reduceCtorEq,Nat.reduceAdd,Nat.reduceSub,Nat.reduceEqDiff,Nat.reduceLeDiff,Int.reduceToNat,Int.reduceLE,Int.reduceLT,Int.reduceAdd,Int.reduceNeg,Nat.reduceMul,L89_11,T89,e4,e5,f4,f5]
       exact⟨by rw[hk'],h16.post⟩
      | true=>
       have d3:((j:Int)==(k:Int))=false:=by simp at d2 ⊢;omega
       simp (maxSteps:=400000) only[wF,storeA,reduceCtorEq,Nat.reduceAdd,Nat.reduceSub,Nat.reduceEqDiff,Nat.reduceLeDiff,Int.reduceToNat,Int.reduceLE,Int.reduceLT,Int.reduceAdd,Int.reduceNeg,Nat.reduceMul,T89,d1,d2,d3]
       refine drawW_fixed mixedOrders L89_11_eq P89_11_eq ?_
       simp (maxSteps:=400000) only[wF,storeA,reduceCtorEq,Nat.reduceAdd,Nat.reduceSub,Nat.reduceEqDiff,Nat.reduceLeDiff,Int.reduceToNat,Int.reduceLE,Int.reduceLT,Int.reduceAdd,Int.reduceNeg,Nat.reduceMul,L89_11,T89,e4,e5,f4,f5]
       exact⟨by rw[hk'],h16.post⟩
end Go.Ab
