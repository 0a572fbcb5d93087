/- reparse's helpers, walked: lower, isRaw, isVoid, reference. -/
import Derived.Test.YtojncnpmlhhccaaGreatDoorH2
import Derived.Test.YtojncnpmlhhccaaGreatDoorW9
import Derived.Test.YtojncnpmlhhccaaGreatDoorCodesH1
set_option linter.all false
namespace Go.Ab
open Go Go.Lib Go.Proofs
theorem h_bytesOfA_bytesA (l:List UInt8):bytesOfA (bytesA l)=some l:=bytesOfA_map l
theorem h_bytesA_set (A R:List UInt8) (x y:UInt8):(bytesA (A++x::R)).set A.length (.int .u8 y.toNat)=bytesA (A++y::R):=by
 unfold bytesA
 rw[List.map_append,List.map_append,List.set_append_right _ _ (by simp),List.length_map,Nat.sub_self]
 rfl
theorem h_set_get_self {α:Type}:∀{l:List α} {k:Nat} {x:α},l[k]?=some x→l.set k x=l
 | [],_,_,h=>by simp at h
 | a::l,0,x,h=>by simp at h;simp[h]
 | a::l,k+1,x,h=>by simp at h;simp[h_set_get_self h]
def HLowAt (s:List UInt8) (H:AHeap) (m:Nat) (x:Nat × AHeap):Prop:=
 x.1≤s.length∧x.2.get m=some (.cells 0 (bytesA ((s.take x.1).map lowB++s.drop x.1)))∧H.next≤m∧m<x.2.next∧H.next≤x.2.next∧∀j,j<H.next→x.2.get j=H.get j
theorem h_lower_ok (G:Nat→Option (List AV)) {s:List UInt8} (hs:s.length≤1000000000):PureCall Tryz.prog G 98 [.str s] (.str (lowS s)):=by
 intro H
 refine ACalls.keep (ACalls.of Tryz.func98 S98_eq R98 N98 rfl rfl ?_)
 simp (maxSteps:=400000) only[wF,storeA,reduceCtorEq,Nat.reduceAdd,Nat.reduceSub,Nat.reduceEqDiff,Nat.reduceLeDiff,Int.reduceToNat,Int.reduceLE,Int.reduceLT,Int.reduceAdd,Int.reduceNeg,Nat.reduceMul,S98,N98,R98,T98,convA]
 refine ATrS.loopK (κ:=Nat × AHeap) (fun x=>[.str s,.und,.str [],.slc H.next s.length,.und,.und,.und,.und,.slc H.next s.length,.int .i64 s.length,.int .i64 x.1]++List.replicate 19 .und) (fun x=>x.2)
  (HLowAt s H H.next) (fun x=>s.length-x.1) ⟨(0,_),⟨Nat.zero_le _,by simp[bytesA],Nat.le_refl _,by simp only[AHeap.next_allocAt];omega,by simp only[AHeap.next_allocAt];omega,fun j hj=>AHeap.get_allocAt_ne _ _ (by omega)⟩,by simp[Fg],HW.refl _⟩ ?_
 rintro⟨k,J⟩ ⟨hk,hrow,g1,g2,g3,g4⟩
 simp only at hk hrow g1 g2 g3 g4
 by_cases hlt:k<s.length
 ·have d0:decide ((k:Int)<(s.length:Int))=true:=by simp;omega
  have q0:((k:Int)<(s.length:Int))=True:=by simp;omega
  have ew:IntKind.i64.wrap ((k:Int)+1)=((k+1:Nat):Int):=by rw[wrap64]<;>omega
  have hd:=List.drop_eq_getElem_cons hlt
  have htk:s.take (k+1)=s.take k++[s[k]]:=by rw[List.take_succ,List.getElem?_eq_getElem hlt];rfl
  have hlen:((s.take k).map lowB).length=k:=by simp;omega
  have hg:(bytesA ((s.take k).map lowB++s.drop k))[k]?=some (.int .u8 s[k].toNat):=by
   unfold bytesA
   rw[List.getElem?_map,List.getElem?_append_right (by omega),hlen,Nat.sub_self,hd]
   rfl
  have hx:=s[k].toNat_lt
  have next:∀y,y=lowB s[k]→(bytesA ((s.take k).map lowB++s.drop k)).set k (.int .u8 y.toNat)=bytesA ((s.take (k+1)).map lowB++s.drop (k+1)):=fun y hy=>by
   have:=h_bytesA_set ((s.take k).map lowB) (s.drop (k+1)) s[k] y
   rw[hlen]at this
   rw[htk,hd,this,List.map_append,hy]
   simp
  have blen:(k<(bytesA ((s.take k).map lowB++s.drop k)).length)=True:=by simp[bytesA];omega
  by_cases hup:65≤s[k].toNat∧s[k].toNat≤90
  ·have d1:decide ((s[k].toNat:Int)≥65)=true:=by simp;omega
   have d2:decide ((s[k].toNat:Int)≤90)=true:=by simp;omega
   have hlow:(lowB s[k]).toNat=s[k].toNat+32:=by
    unfold lowB
    rw[if_pos hup,UInt8.toNat_add]
    simp
    omega
   have e7:IntKind.u8.wrap ((s[k].toNat:Int)+97)=((s[k].toNat+97:Nat):Int):=by rw[wrapu8]<;>omega
   have e8:IntKind.u8.wrap (((s[k].toNat+97:Nat):Int)-65)=((lowB s[k]).toNat:Int):=by rw[hlow,wrapu8]<;>omega
   simp (maxSteps:=400000) only[wF,storeA,reduceCtorEq,Nat.reduceAdd,Nat.reduceSub,Nat.reduceEqDiff,Nat.reduceLeDiff,Int.reduceToNat,Int.reduceLE,Int.reduceLT,Int.reduceAdd,Int.reduceNeg,Nat.reduceMul,T98,d0,q0,hrow,hg,indexAddrA,d1,d2,e7,e8,blen,ew,AV.boxable]
   refine⟨by simp[bytesA];omega,(k+1,_),⟨hlt,?_,Nat.le_refl _,?_,?_,fun j hj=>?_⟩,by simp only;omega,by simp[Fg],HW.refl _⟩
   ·simp only[AHeap.get_set_same]
    rw[next _ rfl,if_pos trivial]
   ·simp only[AHeap.next_set];omega
   ·simp only[AHeap.next_set];omega
   ·show(AHeap.set _ _ _).get j=_
    rw[AHeap.get_set_ne _ _ (by omega)]
    exact g4 j hj
  ·have hlow:lowB s[k]=s[k]:=by unfold lowB;rw[if_neg hup]
   have nx:=next s[k] hlow.symm
   rw[h_set_get_self hg]at nx
   have fin:HLowAt s H H.next (k+1,J):=⟨hlt,by rw[←nx];exact hrow,Nat.le_refl _,g2,g3,g4⟩
   by_cases h65:65≤s[k].toNat
   ·have d1:decide ((s[k].toNat:Int)≥65)=true:=by simp;omega
    have d2:decide ((s[k].toNat:Int)≤90)=false:=by simp;omega
    simp (maxSteps:=400000) only[wF,storeA,reduceCtorEq,Nat.reduceAdd,Nat.reduceSub,Nat.reduceEqDiff,Nat.reduceLeDiff,Int.reduceToNat,Int.reduceLE,Int.reduceLT,Int.reduceAdd,Int.reduceNeg,Nat.reduceMul,T98,d0,q0,hrow,hg,indexAddrA,d1,d2,ew,AV.boxable]
    exact⟨(k+1,J),fin,by simp only;omega,by simp[Fg],HW.refl _⟩
   ·have d1:decide ((s[k].toNat:Int)≥65)=false:=by simp;omega
    simp (maxSteps:=400000) only[wF,storeA,reduceCtorEq,Nat.reduceAdd,Nat.reduceSub,Nat.reduceEqDiff,Nat.reduceLeDiff,Int.reduceToNat,Int.reduceLE,Int.reduceLT,Int.reduceAdd,Int.reduceNeg,Nat.reduceMul,T98,d0,q0,hrow,hg,indexAddrA,d1,ew,AV.boxable]
    exact⟨(k+1,J),fin,by simp only;omega,by simp[Fg],HW.refl _⟩
 ·have d0:decide ((k:Int)<(s.length:Int))=false:=by simp;omega
  have hks:k=s.length:=by omega
  subst hks
  simp only[List.take_length,List.drop_length,List.append_nil]at hrow
  have v1:(s.length≤(bytesA (s.map lowB)).length)=True:=by simp[bytesA]
  have v2:List.take s.length (bytesA (s.map lowB))=bytesA (s.map lowB):=List.take_of_length_le (by simp[bytesA])
  simp (maxSteps:=400000) only[wF,storeA,reduceCtorEq,Nat.reduceAdd,Nat.reduceSub,Nat.reduceEqDiff,Nat.reduceLeDiff,Int.reduceToNat,Int.reduceLE,Int.reduceLT,Int.reduceAdd,Int.reduceNeg,Nat.reduceMul,T98,d0,convA,srcCells,hrow,v1,v2,h_bytesOfA_bytesA]
  exact⟨rfl,g3,g4⟩
theorem h_isRaw_ok (G:Nat→Option (List AV)) {s:List UInt8} (hs:s.length≤1000000000):PureCall Tryz.prog G 92 [.str s] (.bool (isRawS s)):=by
 intro H
 refine ACalls.keep (ACalls.of Tryz.func92 S92_eq R92 N92 rfl rfl ?_)
 simp (maxSteps:=400000) only[wF,storeA,reduceCtorEq,Nat.reduceAdd,Nat.reduceSub,Nat.reduceEqDiff,Nat.reduceLeDiff,Int.reduceToNat,Int.reduceLE,Int.reduceLT,Int.reduceAdd,Int.reduceNeg,Nat.reduceMul,S92,N92,R92]
 refine AInv.pureK B98 (h_lower_ok G hs) fun H1 h1=>?_
 unfold isRawS
 cases h2:lowS s==[115,99,114,105,112,116]with
 | true=>
  simp (maxSteps:=400000) only[wF,storeA,reduceCtorEq,Nat.reduceAdd,Nat.reduceSub,Nat.reduceEqDiff,Nat.reduceLeDiff,Int.reduceToNat,Int.reduceLE,Int.reduceLT,Int.reduceAdd,Int.reduceNeg,Nat.reduceMul,h2]
  exact⟨rfl,h1.post⟩
 | false=>
  simp (maxSteps:=400000) only[wF,storeA,reduceCtorEq,Nat.reduceAdd,Nat.reduceSub,Nat.reduceEqDiff,Nat.reduceLeDiff,Int.reduceToNat,Int.reduceLE,Int.reduceLT,Int.reduceAdd,Int.reduceNeg,Nat.reduceMul,h2]
  refine AInv.pureK B98 (h_lower_ok G hs) fun H2 h3=>?_
  simp (maxSteps:=400000) only[wF,storeA,reduceCtorEq,Nat.reduceAdd,Nat.reduceSub,Nat.reduceEqDiff,Nat.reduceLeDiff,Int.reduceToNat,Int.reduceLE,Int.reduceLT,Int.reduceAdd,Int.reduceNeg,Nat.reduceMul,T92]
  exact⟨by simp,(h1.trans h3).post⟩
theorem h_isVoid_ok (G:Nat→Option (List AV)) {s:List UInt8} (hs:s.length≤1000000000):PureCall Tryz.prog G 101 [.str s] (.bool (isVoidS s)):=by
 intro H
 refine ACalls.keep (ACalls.of Tryz.func101 S101_eq R101 N101 rfl rfl ?_)
 simp (maxSteps:=400000) only[wF,storeA,reduceCtorEq,Nat.reduceAdd,Nat.reduceSub,Nat.reduceEqDiff,Nat.reduceLeDiff,Int.reduceToNat,Int.reduceLE,Int.reduceLT,Int.reduceAdd,Int.reduceNeg,Nat.reduceMul,S101,N101,R101]
 refine AInv.pureK B98 (h_lower_ok G hs) fun H1 h1=>?_
 unfold isVoidS voidsS
 generalize lowS s=m
 rcases Bool.eq_false_or_eq_true (m==[97,114,101,97])with c0 | c0
 ·simp (maxSteps:=400000) only[wF,storeA,reduceCtorEq,Nat.reduceAdd,Nat.reduceSub,Nat.reduceEqDiff,Nat.reduceLeDiff,Int.reduceToNat,Int.reduceLE,Int.reduceLT,Int.reduceAdd,Int.reduceNeg,Nat.reduceMul,c0]
  exact⟨by simp only[List.contains,List.elem,c0],h1.post⟩
 rcases Bool.eq_false_or_eq_true (m==[98,97,115,101])with c1 | c1
 ·simp (maxSteps:=400000) only[wF,storeA,reduceCtorEq,Nat.reduceAdd,Nat.reduceSub,Nat.reduceEqDiff,Nat.reduceLeDiff,Int.reduceToNat,Int.reduceLE,Int.reduceLT,Int.reduceAdd,Int.reduceNeg,Nat.reduceMul,c0,c1]
  exact⟨by simp only[List.contains,List.elem,c0,c1],h1.post⟩
 rcases Bool.eq_false_or_eq_true (m==[98,114])with c2 | c2
 ·simp (maxSteps:=400000) only[wF,storeA,reduceCtorEq,Nat.reduceAdd,Nat.reduceSub,Nat.reduceEqDiff,Nat.reduceLeDiff,Int.reduceToNat,Int.reduceLE,Int.reduceLT,Int.reduceAdd,Int.reduceNeg,Nat.reduceMul,c0,c1,c2]
  exact⟨by simp only[List.contains,List.elem,c0,c1,c2],h1.post⟩
 rcases Bool.eq_false_or_eq_true (m==[99,111,108])with c3 | c3
 ·simp (maxSteps:=400000) only[wF,storeA,reduceCtorEq,Nat.reduceAdd,Nat.reduceSub,Nat.reduceEqDiff,Nat.reduceLeDiff,Int.reduceToNat,Int.reduceLE,Int.reduceLT,Int.reduceAdd,Int.reduceNeg,Nat.reduceMul,c0,c1,c2,c3]
  exact⟨by simp only[List.contains,List.elem,c0,c1,c2,c3],h1.post⟩
 rcases Bool.eq_false_or_eq_true (m==[101,109,98,101,100])with c4 | c4
 ·simp (maxSteps:=400000) only[wF,storeA,reduceCtorEq,Nat.reduceAdd,Nat.reduceSub,Nat.reduceEqDiff,Nat.reduceLeDiff,Int.reduceToNat,Int.reduceLE,Int.reduceLT,Int.reduceAdd,Int.reduceNeg,Nat.reduceMul,c0,c1,c2,c3,c4]
  exact⟨by simp only[List.contains,List.elem,c0,c1,c2,c3,c4],h1.post⟩
 rcases Bool.eq_false_or_eq_true (m==[104,114])with c5 | c5
 ·simp (maxSteps:=400000) only[wF,storeA,reduceCtorEq,Nat.reduceAdd,Nat.reduceSub,Nat.reduceEqDiff,Nat.reduceLeDiff,Int.reduceToNat,Int.reduceLE,Int.reduceLT,Int.reduceAdd,Int.reduceNeg,Nat.reduceMul,c0,c1,c2,c3,c4,c5]
  exact⟨by simp only[List.contains,List.elem,c0,c1,c2,c3,c4,c5],h1.post⟩
 rcases Bool.eq_false_or_eq_true (m==[105,109,103])with c6 | c6
 ·simp (maxSteps:=400000) only[wF,storeA,reduceCtorEq,Nat.reduceAdd,Nat.reduceSub,Nat.reduceEqDiff,Nat.reduceLeDiff,Int.reduceToNat,Int.reduceLE,Int.reduceLT,Int.reduceAdd,Int.reduceNeg,Nat.reduceMul,c0,c1,c2,c3,c4,c5,c6]
  exact⟨by simp only[List.contains,List.elem,c0,c1,c2,c3,c4,c5,c6],h1.post⟩
 rcases Bool.eq_false_or_eq_true (m==[105,110,112,117,116])with c7 | c7
 ·simp (maxSteps:=400000) only[wF,storeA,reduceCtorEq,Nat.reduceAdd,Nat.reduceSub,Nat.reduceEqDiff,Nat.reduceLeDiff,Int.reduceToNat,Int.reduceLE,Int.reduceLT,Int.reduceAdd,Int.reduceNeg,Nat.reduceMul,c0,c1,c2,c3,c4,c5,c6,c7]
  exact⟨by simp only[List.contains,List.elem,c0,c1,c2,c3,c4,c5,c6,c7],h1.post⟩
 rcases Bool.eq_false_or_eq_true (m==[108,105,110,107])with c8 | c8
 ·simp (maxSteps:=400000) only[wF,storeA,reduceCtorEq,Nat.reduceAdd,Nat.reduceSub,Nat.reduceEqDiff,Nat.reduceLeDiff,Int.reduceToNat,Int.reduceLE,Int.reduceLT,Int.reduceAdd,Int.reduceNeg,Nat.reduceMul,c0,c1,c2,c3,c4,c5,c6,c7,c8]
  exact⟨by simp only[List.contains,List.elem,c0,c1,c2,c3,c4,c5,c6,c7,c8],h1.post⟩
 rcases Bool.eq_false_or_eq_true (m==[109,101,116,97])with c9 | c9
 ·simp (maxSteps:=400000) only[wF,storeA,reduceCtorEq,Nat.reduceAdd,Nat.reduceSub,Nat.reduceEqDiff,Nat.reduceLeDiff,Int.reduceToNat,Int.reduceLE,Int.reduceLT,Int.reduceAdd,Int.reduceNeg,Nat.reduceMul,c0,c1,c2,c3,c4,c5,c6,c7,c8,c9]
  exact⟨by simp only[List.contains,List.elem,c0,c1,c2,c3,c4,c5,c6,c7,c8,c9],h1.post⟩
 rcases Bool.eq_false_or_eq_true (m==[112,97,114,97,109])with c10 | c10
 ·simp (maxSteps:=400000) only[wF,storeA,reduceCtorEq,Nat.reduceAdd,Nat.reduceSub,Nat.reduceEqDiff,Nat.reduceLeDiff,Int.reduceToNat,Int.reduceLE,Int.reduceLT,Int.reduceAdd,Int.reduceNeg,Nat.reduceMul,c0,c1,c2,c3,c4,c5,c6,c7,c8,c9,c10]
  exact⟨by simp only[List.contains,List.elem,c0,c1,c2,c3,c4,c5,c6,c7,c8,c9,c10],h1.post⟩
 rcases Bool.eq_false_or_eq_true (m==[115,111,117,114,99,101])with c11 | c11
 ·simp (maxSteps:=400000) only[wF,storeA,reduceCtorEq,Nat.reduceAdd,Nat.reduceSub,Nat.reduceEqDiff,Nat.reduceLeDiff,Int.reduceToNat,Int.reduceLE,Int.reduceLT,Int.reduceAdd,Int.reduceNeg,Nat.reduceMul,c0,c1,c2,c3,c4,c5,c6,c7,c8,c9,c10,c11]
  exact⟨by simp only[List.contains,List.elem,c0,c1,c2,c3,c4,c5,c6,c7,c8,c9,c10,c11],h1.post⟩
 rcases Bool.eq_false_or_eq_true (m==[116,114,97,99,107])with c12 | c12
 ·simp (maxSteps:=400000) only[wF,storeA,reduceCtorEq,Nat.reduceAdd,Nat.reduceSub,Nat.reduceEqDiff,Nat.reduceLeDiff,Int.reduceToNat,Int.reduceLE,Int.reduceLT,Int.reduceAdd,Int.reduceNeg,Nat.reduceMul,c0,c1,c2,c3,c4,c5,c6,c7,c8,c9,c10,c11,c12]
  exact⟨by simp only[List.contains,List.elem,c0,c1,c2,c3,c4,c5,c6,c7,c8,c9,c10,c11,c12],h1.post⟩
 rcases Bool.eq_false_or_eq_true (m==[119,98,114])with c13 | c13
 ·simp (maxSteps:=400000) only[wF,storeA,reduceCtorEq,Nat.reduceAdd,Nat.reduceSub,Nat.reduceEqDiff,Nat.reduceLeDiff,Int.reduceToNat,Int.reduceLE,Int.reduceLT,Int.reduceAdd,Int.reduceNeg,Nat.reduceMul,c0,c1,c2,c3,c4,c5,c6,c7,c8,c9,c10,c11,c12,c13]
  exact⟨by simp only[List.contains,List.elem,c0,c1,c2,c3,c4,c5,c6,c7,c8,c9,c10,c11,c12,c13],h1.post⟩
 simp (maxSteps:=400000) only[wF,storeA,reduceCtorEq,Nat.reduceAdd,Nat.reduceSub,Nat.reduceEqDiff,Nat.reduceLeDiff,Int.reduceToNat,Int.reduceLE,Int.reduceLT,Int.reduceAdd,Int.reduceNeg,Nat.reduceMul,c0,c1,c2,c3,c4,c5,c6,c7,c8,c9,c10,c11,c12,c13]
 exact⟨by simp only[List.contains,List.elem,c0,c1,c2,c3,c4,c5,c6,c7,c8,c9,c10,c11,c12,c13],h1.post⟩
theorem h_reference_ok {G:Nat→Option (List AV)} (E:Env G) (B:EnvB G) (P:EnvP G) {name:List UInt8} (hs:name.length≤1000000000) (H:AHeap) :
  ACalls Tryz.prog G 132 [.str name] H fun r H'=>r = .ret (.tup [.str (refHS name).1,.bool (refHS name).2])∧Kept H H':=by
 refine ACalls.wf fun wf=>?_
 refine ACalls.of Tryz.func132 S132_eq R132 N132 rfl rfl ?_
 rcases Bool.eq_false_or_eq_true (name==[108,116])with c0 | c0
 ·have hn:name=[108,116]:=by simpa using c0
  simp (maxSteps:=400000) only[wF,storeA,reduceCtorEq,Nat.reduceAdd,Nat.reduceSub,Nat.reduceEqDiff,Nat.reduceLeDiff,Int.reduceToNat,Int.reduceLE,Int.reduceLT,Int.reduceAdd,Int.reduceNeg,Nat.reduceMul,S132,N132,R132,c0]
  exact⟨by rw[hn];rfl,Kept.refl H⟩
 rcases Bool.eq_false_or_eq_true (name==[103,116])with c1 | c1
 ·have hn:name=[103,116]:=by simpa using c1
  simp (maxSteps:=400000) only[wF,storeA,reduceCtorEq,Nat.reduceAdd,Nat.reduceSub,Nat.reduceEqDiff,Nat.reduceLeDiff,Int.reduceToNat,Int.reduceLE,Int.reduceLT,Int.reduceAdd,Int.reduceNeg,Nat.reduceMul,S132,N132,R132,c0,c1]
  exact⟨by rw[hn];rfl,Kept.refl H⟩
 rcases Bool.eq_false_or_eq_true (name==[97,109,112])with c2 | c2
 ·have hn:name=[97,109,112]:=by simpa using c2
  simp (maxSteps:=400000) only[wF,storeA,reduceCtorEq,Nat.reduceAdd,Nat.reduceSub,Nat.reduceEqDiff,Nat.reduceLeDiff,Int.reduceToNat,Int.reduceLE,Int.reduceLT,Int.reduceAdd,Int.reduceNeg,Nat.reduceMul,S132,N132,R132,c0,c1,c2]
  exact⟨by rw[hn];rfl,Kept.refl H⟩
 rcases Bool.eq_false_or_eq_true (name==[113,117,111,116])with c3 | c3
 ·have hn:name=[113,117,111,116]:=by simpa using c3
  simp (maxSteps:=400000) only[wF,storeA,reduceCtorEq,Nat.reduceAdd,Nat.reduceSub,Nat.reduceEqDiff,Nat.reduceLeDiff,Int.reduceToNat,Int.reduceLE,Int.reduceLT,Int.reduceAdd,Int.reduceNeg,Nat.reduceMul,S132,N132,R132,c0,c1,c2,c3]
  exact⟨by rw[hn];rfl,Kept.refl H⟩
 rcases Bool.eq_false_or_eq_true (name==[97,112,111,115])with c4 | c4
 ·have hn:name=[97,112,111,115]:=by simpa using c4
  simp (maxSteps:=400000) only[wF,storeA,reduceCtorEq,Nat.reduceAdd,Nat.reduceSub,Nat.reduceEqDiff,Nat.reduceLeDiff,Int.reduceToNat,Int.reduceLE,Int.reduceLT,Int.reduceAdd,Int.reduceNeg,Nat.reduceMul,S132,N132,R132,c0,c1,c2,c3,c4]
  exact⟨by rw[hn];rfl,Kept.refl H⟩
 have hr2:refHS name=match numS name with
  | none=>([],false)
  | some n=>charS n:=by
  have d0:¬name=[108,116]:=by simpa using c0
  have d1:¬name=[103,116]:=by simpa using c1
  have d2:¬name=[97,109,112]:=by simpa using c2
  have d3:¬name=[113,117,111,116]:=by simpa using c3
  have d4:¬name=[97,112,111,115]:=by simpa using c4
  simp only[refHS,entityS,d0,d1,d2,d3,d4,if_false,Bool.false_eq_true]
  cases numS name<;>rfl
 simp (maxSteps:=400000) only[wF,storeA,reduceCtorEq,Nat.reduceAdd,Nat.reduceSub,Nat.reduceEqDiff,Nat.reduceLeDiff,Int.reduceToNat,Int.reduceLE,Int.reduceLT,Int.reduceAdd,Int.reduceNeg,Nat.reduceMul,S132,N132,R132,c0,c1,c2,c3,c4]
 refine AInv.pureK E.cutPreB (E.cutPre _ _) fun H3 h3=>?_
 simp (maxSteps:=400000) only[wF,storeA,reduceCtorEq,Nat.reduceAdd,Nat.reduceSub,Nat.reduceEqDiff,Nat.reduceLeDiff,Int.reduceToNat,Int.reduceLE,Int.reduceLT,Int.reduceAdd,Int.reduceNeg,Nat.reduceMul,T132]
 refine AInv.pureK E.cutPreB (E.cutPre _ _) fun H4 h4=>?_
 have h14:=h3.trans h4
 obtain⟨digits,base,hbase,hdl,hx,hnum⟩:∃(digits:List UInt8) (base:Nat),(base=10∨base=16)∧digits.length≤1000000000 ∧
   (Lib.hasPrefix (Lib.trimPrefix name [35]) [120]=true∧digits=Lib.trimPrefix (Lib.trimPrefix name [35]) [120]∧base=16∨Lib.hasPrefix (Lib.trimPrefix name [35]) [120]=false∧digits=Lib.trimPrefix name [35]∧base=10) ∧
   (Lib.hasPrefix name [35]=true→numS name=parseS base digits):=by
  have l1:=Lib.trimPrefix_le name [35]
  have l2:=Lib.trimPrefix_le (Lib.trimPrefix name [35]) [120]
  have t1:Lib.hasPrefix name [35]=true→Lib.trimPrefix name [35]=name.drop 1:=fun h=>by
   unfold Lib.trimPrefix
   rw[if_pos h]
   rfl
  cases hp:Lib.hasPrefix (Lib.trimPrefix name [35]) [120]with
  | true=>
   refine⟨_,16,.inr rfl,by omega,.inl ⟨rfl,rfl,rfl⟩,fun h=>?_⟩
   rw[t1 h]at hp ⊢
   simp only[numS,h,hp,if_true]
   unfold Lib.trimPrefix
   rw[if_pos hp,List.drop_drop]
   rfl
  | false=>
   refine⟨_,10,.inl rfl,by omega,.inr ⟨rfl,rfl,rfl⟩,fun h=>?_⟩
   rw[t1 h]at hp ⊢
   simp only[numS,h,hp,if_true,Bool.false_eq_true,if_false]
 rcases hx with ⟨hp,rfl,rfl⟩ | ⟨hp,rfl,rfl⟩
 all_goals
  simp (maxSteps:=400000) only[wF,storeA,reduceCtorEq,Nat.reduceAdd,Nat.reduceSub,Nat.reduceEqDiff,Nat.reduceLeDiff,Int.reduceToNat,Int.reduceLE,Int.reduceLT,Int.reduceAdd,Int.reduceNeg,Nat.reduceMul,T132,hp]
  refine AInv.retK P.parseB (P.parse _ _ _ hbase hdl) (fun v J hq=>?_) (fun v J hq=>?_)
  case' refine_2=>
   obtain⟨_,hq⟩:=hq
   split at hq
   ·cases hq
   ·obtain⟨_,_,_,hq⟩:=hq
    cases hq
  obtain⟨hJ,hq⟩:=hq
  have hK:=h14.kept.trans hJ
  generalize hdg:(Lib.trimPrefix _ _:List UInt8)=digits at hq hnum ⊢
  cases hps:parseS _ digits with
  | none=>
   rw[hps]at hq hnum
   obtain⟨n,t,v',hq⟩:=hq
   cases hq
   have hnn:numS name=none:=by
    cases his:Lib.hasPrefix name [35]with
    | true=>exact hnum his
    | false=>exact numS_none his
   rw[hnn]at hr2
   cases his:Lib.hasPrefix name [35]with
   | false=>
    simp (maxSteps:=400000) only[wF,storeA,reduceCtorEq,Nat.reduceAdd,Nat.reduceSub,Nat.reduceEqDiff,Nat.reduceLeDiff,Int.reduceToNat,Int.reduceLE,Int.reduceLT,Int.reduceAdd,Int.reduceNeg,Nat.reduceMul,T132,his]
    exact⟨by rw[hr2],hK⟩
   | true=>
    simp (maxSteps:=400000) only[wF,storeA,reduceCtorEq,Nat.reduceAdd,Nat.reduceSub,Nat.reduceEqDiff,Nat.reduceLeDiff,Int.reduceToNat,Int.reduceLE,Int.reduceLT,Int.reduceAdd,Int.reduceNeg,Nat.reduceMul,T132,his,eqNeq,AV.isConst,Bool.or_true]
    exact⟨by rw[hr2],hK⟩
  | some n=>
   rw[hps]at hq hnum
   cases hq
   obtain⟨hd1,hn⟩:=parseS_some hps
   cases his:Lib.hasPrefix name [35]with
   | false=>
    rw[numS_none his]at hr2
    simp (maxSteps:=400000) only[wF,storeA,reduceCtorEq,Nat.reduceAdd,Nat.reduceSub,Nat.reduceEqDiff,Nat.reduceLeDiff,Int.reduceToNat,Int.reduceLE,Int.reduceLT,Int.reduceAdd,Int.reduceNeg,Nat.reduceMul,T132,his]
    exact⟨by rw[hr2],hK⟩
   | true=>
    rw[hnum his]at hr2
    have hw:IntKind.i64.wrap (n:Int)=n:=by rw[wrap64]<;>omega
    simp (maxSteps:=400000) only[wF,storeA,reduceCtorEq,Nat.reduceAdd,Nat.reduceSub,Nat.reduceEqDiff,Nat.reduceLeDiff,Int.reduceToNat,Int.reduceLE,Int.reduceLT,Int.reduceAdd,Int.reduceNeg,Nat.reduceMul,T132,his,eqNeq,AV.isConst,Bool.or_true,convA,hw,sliceLit,fillA,zerosA,AV.boxable,Nat.le_refl,Nat.reduceLT]
    have hKn:=hK.1
    refine AInv.retK B82 (from_ok B (n:=n) (by simp) hn) (fun v J2 hq=>?_) (fun v J2 hq=>by cases hq.1)
    obtain⟨hv,hJ2⟩:=hq
    cases hv
    have hK2:Kept H J2:=by
     have a1:=hJ2.1
     simp only[AHeap.next_allocAt]at a1
     refine⟨by omega,fun j hj=>?_⟩
     rw[hJ2.2 j (by simp only[AHeap.next_allocAt];omega),AHeap.get_allocAt_ne _ _ (by omega)]
     exact hK.2 j hj
    simp only at hr2
    cases hcs:(charS n).2 with
    | true=>
     simp (maxSteps:=400000) only[wF,storeA,reduceCtorEq,Nat.reduceAdd,Nat.reduceSub,Nat.reduceEqDiff,Nat.reduceLeDiff,Int.reduceToNat,Int.reduceLE,Int.reduceLT,Int.reduceAdd,Int.reduceNeg,Nat.reduceMul,T132]
     exact⟨by rw[hr2,hcs];rfl,hK2⟩
    | false=>
     simp (maxSteps:=400000) only[wF,storeA,reduceCtorEq,Nat.reduceAdd,Nat.reduceSub,Nat.reduceEqDiff,Nat.reduceLeDiff,Int.reduceToNat,Int.reduceLE,Int.reduceLT,Int.reduceAdd,Int.reduceNeg,Nat.reduceMul,T132]
     exact⟨by rw[hr2,hcs];rfl,hK2⟩
def HUnAt (s:List UInt8) (H:AHeap) (x:List UInt8 × Nat × List UInt8 × AHeap):Prop:=
 x.1.length+x.2.2.1.length≤s.length∧unescL x.1 x.2.2.1=unescS s∧BldAt x.2.2.2 H.next x.2.1 x.2.2.1∧H.next<x.2.1∧x.2.1<x.2.2.2.next∧∀j,j<H.next→x.2.2.2.get j=H.get j
theorem h_unescape_ok {G:Nat→Option (List AV)} (E:Env G) (B:EnvB G) (P:EnvP G) {s:List UInt8} (hs:s.length≤900000000) (H:AHeap) :
  ACalls Tryz.prog G 96 [.str s] H fun r H'=>r = .ret (.tup [.str (unescS s).1,.bool (unescS s).2])∧Kept H H':=by
 refine ACalls.wf fun wf=>?_
 refine ACalls.of Tryz.func96 S96_eq R96 N96 rfl rfl ?_
 simp (maxSteps:=400000) only[wF,storeA,reduceCtorEq,Nat.reduceAdd,Nat.reduceSub,Nat.reduceEqDiff,Nat.reduceLeDiff,Int.reduceToNat,Int.reduceLE,Int.reduceLT,Int.reduceAdd,Int.reduceNeg,Nat.reduceMul,S96,N96,R96,T96]
 generalize hH1:H.allocAt H.next _=H1
 have hb1:H1.get H.next=some (.cells 69 [.nilp,.nils]):=by rw[←hH1];simp
 have hn1:H1.next=H.next+1:=by rw[←hH1];simp[AHeap.next_allocAt]
 have hg1:∀j,j<H.next→H1.get j=H.get j:=fun j hj=>by rw[←hH1,AHeap.get_allocAt_ne _ _ (by omega)]
 obtain⟨H2,hw,hb2,hn2,hg2⟩:=Weak.builder G hb1 (by omega)
 rw[hn1]at hb2 hn2 hg2
 refine ATrS.weak (hw _) (ATrS.loopK (κ:=List UInt8 × Nat × List UInt8 × AHeap) (fun x=>[.str x.1,.und,.und,.und,.ptr H.next 0]++List.replicate 38 .und) (fun x=>x.2.2.2)
  (HUnAt s H) (fun x=>x.1.length) ⟨(s,H.next+1,[],H2),⟨by simp,rfl,hb2,Nat.lt_succ_self _,by simp only;omega,fun j hj=>by simp only;rw[hg2 j (by omega) (by omega),hg1 j hj]⟩,by simp[Fg],HW.refl _⟩ ?_)
 clear hb2 hw
 rintro⟨u,k,acc,J⟩ ⟨hlen,hv,hb,hk,hJn,hJ⟩
 simp only at hlen hv hb hk hJn hJ
 simp (maxSteps:=400000) only[wF,storeA,reduceCtorEq,Nat.reduceAdd,Nat.reduceSub,Nat.reduceEqDiff,Nat.reduceLeDiff,Int.reduceToNat,Int.reduceLE,Int.reduceLT,Int.reduceAdd,Int.reduceNeg,Nat.reduceMul,T96]
 refine AInv.pureK E.cutB (E.cut _ _ (by omega)) fun J1 h1=>?_
 have hst:=unescL_step u acc
 rw[hv]at hst
 have hcf:=fun h=>cut_found (s:=u) (p:=[38]) h
 have hcl:=cut_len u [38]
 simp only[List.length_cons,List.length_nil]at hcf
 generalize Lib.cut u [38]=x at hst hcf hcl ⊢
 obtain⟨before,after,ok⟩:=x
 simp only at hst hcf hcl ⊢
 have hb1:BldAt J1 H.next k acc:=by unfold BldAt;rw[h1.2];exact hb
 have n1:=h1.1
 simp (maxSteps:=400000) only[wF,storeA,reduceCtorEq,Nat.reduceAdd,Nat.reduceSub,Nat.reduceEqDiff,Nat.reduceLeDiff,Int.reduceToNat,Int.reduceLE,Int.reduceLT,Int.reduceAdd,Int.reduceNeg,Nat.reduceMul,T96]
 refine AInv.retK B38 (writeString_ok B hb1 (by omega)) (fun v J2 hq=>?_) (fun v J2 hq=>by cases hq.1)
 obtain⟨hq,k2,hb2,hk2,hn2,hg2⟩:=hq
 cases hq
 have hJ2:∀j,j<H.next→J2.get j=H.get j:=fun j hj=>by rw[hg2 j (by omega) (by omega) (by omega),h1.2];exact hJ j hj
 cases ok with
 | false=>
  simp (maxSteps:=400000) only[wF,storeA,reduceCtorEq,Nat.reduceAdd,Nat.reduceSub,Nat.reduceEqDiff,Nat.reduceLeDiff,Int.reduceToNat,Int.reduceLE,Int.reduceLT,Int.reduceAdd,Int.reduceNeg,Nat.reduceMul,T96,Bool.not_false]
  refine AInv.retK B.stringB (B.string J2 H.next k2 _ hb2) (fun v J3 hq=>?_) (fun v J3 hq=>by cases hq.1)
  obtain⟨hq,hn3,hg3⟩:=hq
  cases hq
  simp (maxSteps:=400000) only[wF,storeA,reduceCtorEq,Nat.reduceAdd,Nat.reduceSub,Nat.reduceEqDiff,Nat.reduceLeDiff,Int.reduceToNat,Int.reduceLE,Int.reduceLT,Int.reduceAdd,Int.reduceNeg,Nat.reduceMul,T96]
  refine⟨by rw[hst];rfl,by omega,fun j hj=>?_⟩
  rw[hg3,AHeap.get_del_ne _ (by omega)]
  exact hJ2 j hj
 | true=>
  have hc1:=hcf rfl
  simp only[if_true]at hst
  simp (maxSteps:=400000) only[wF,storeA,reduceCtorEq,Nat.reduceAdd,Nat.reduceSub,Nat.reduceEqDiff,Nat.reduceLeDiff,Int.reduceToNat,Int.reduceLE,Int.reduceLT,Int.reduceAdd,Int.reduceNeg,Nat.reduceMul,T96,Bool.not_true]
  refine AInv.pureK E.cutB (E.cut _ _ (by omega)) fun J3 h3=>?_
  have hcf2:=fun h=>cut_found (s:=after) (p:=[59]) h
  have hcl2:=cut_len after [59]
  simp only[List.length_cons,List.length_nil]at hcf2
  generalize Lib.cut after [59]=y at hst hcf2 hcl2 ⊢
  obtain⟨name,rest,ok2⟩:=y
  simp only at hst hcf2 hcl2 ⊢
  have n3:=h3.1
  simp (maxSteps:=400000) only[wF,storeA,reduceCtorEq,Nat.reduceAdd,Nat.reduceSub,Nat.reduceEqDiff,Nat.reduceLeDiff,Int.reduceToNat,Int.reduceLE,Int.reduceLT,Int.reduceAdd,Int.reduceNeg,Nat.reduceMul,T96]
  refine AInv.retK B132 (h_reference_ok E B P (by omega) J3) (fun v J4 hq=>?_) (fun v J4 hq=>by cases hq.1)
  obtain⟨hq,hK4⟩:=hq
  cases hq
  have n4:=hK4.1
  have hJ4:∀j,j<J2.next→J4.get j=J2.get j:=fun j hj=>by rw[hK4.2 j (by omega),h3.2]
  have hrl:=fun h=>refHS_len (name:=name) h
  generalize refHS name=z at hst hrl ⊢
  obtain⟨c,known⟩:=z
  simp only at hst hrl ⊢
  cases ok2 with
  | false=>
   simp (maxSteps:=400000) only[wF,storeA,reduceCtorEq,Nat.reduceAdd,Nat.reduceSub,Nat.reduceEqDiff,Nat.reduceLeDiff,Int.reduceToNat,Int.reduceLE,Int.reduceLT,Int.reduceAdd,Int.reduceNeg,Nat.reduceMul,T96,Bool.not_false]
   refine⟨by rw[hst];rfl,by omega,fun j hj=>?_⟩
   rw[hJ4 j (by omega)]
   exact hJ2 j hj
  | true=>
   cases known with
   | false=>
    simp (maxSteps:=400000) only[wF,storeA,reduceCtorEq,Nat.reduceAdd,Nat.reduceSub,Nat.reduceEqDiff,Nat.reduceLeDiff,Int.reduceToNat,Int.reduceLE,Int.reduceLT,Int.reduceAdd,Int.reduceNeg,Nat.reduceMul,T96,Bool.not_false,Bool.not_true]
    refine⟨by rw[hst];rfl,by omega,fun j hj=>?_⟩
    rw[hJ4 j (by omega)]
    exact hJ2 j hj
   | true=>
    have hc2:=hcf2 rfl
    have hr:=hrl rfl
    simp only[and_self,if_true]at hst
    simp (maxSteps:=400000) only[wF,storeA,reduceCtorEq,Nat.reduceAdd,Nat.reduceSub,Nat.reduceEqDiff,Nat.reduceLeDiff,Int.reduceToNat,Int.reduceLE,Int.reduceLT,Int.reduceAdd,Int.reduceNeg,Nat.reduceMul,T96,Bool.not_true]
    have hb4:BldAt J4 H.next k2 (acc++before):=by
     obtain⟨b0,g1,g2,g3⟩:=hb2
     exact⟨b0,g1,by rw[hJ4 _ (by omega)];exact g2,by rw[hJ4 _ (by omega)];exact g3⟩
    refine AInv.retK B38 (writeString_ok B hb4 (by simp only[List.length_append];omega)) (fun v J5 hq=>?_) (fun v J5 hq=>by cases hq.1)
    obtain⟨hq,k5,hb5,hk5,hn5,hg5⟩:=hq
    cases hq
    simp (maxSteps:=400000) only[wF,storeA,reduceCtorEq,Nat.reduceAdd,Nat.reduceSub,Nat.reduceEqDiff,Nat.reduceLeDiff,Int.reduceToNat,Int.reduceLE,Int.reduceLT,Int.reduceAdd,Int.reduceNeg,Nat.reduceMul,T96]
    refine⟨(rest,k5,acc++before++c,J5),⟨by simp only[List.length_append];omega,hst.symm,hb5,by simp only;omega,by simp only;omega,fun j hj=>?_⟩,by simp only;omega,by simp[Fg],HW.refl _⟩
    simp only
    rw[hg5 j (by omega) (by omega) (by omega),hJ4 j (by omega)]
    exact hJ2 j hj
end Go.Ab
