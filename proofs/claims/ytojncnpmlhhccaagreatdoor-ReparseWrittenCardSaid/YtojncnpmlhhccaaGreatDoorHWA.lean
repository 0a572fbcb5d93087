/- reparse's helpers, walked: lower, isRaw, isVoid, reference. reparse's attribute, walked. reparse's reader: add, raw, text, end, comment, instruction, walked. reparse's reader: text, end, comment, instruction, walked. -/
import Derived.Test.YtojncnpmlhhccaaGreatDoorHA
import Derived.Test.YtojncnpmlhhccaaGreatDoorCodesH1
set_option linter.all false
namespace Go.Ab
open Go Go.Lib Go.Proofs
theorem h_bytesOfA_bytesA (l:List UInt8):bytesOfA (bytesA l)=some l:=bytesOfA_map l
theorem h_bytesA_set (A R:List UInt8) (x y:UInt8):(bytesA (A++x::R)).set A.length (.int .u8 y.toNat)=bytesA (A++y::R):=by
 unfold bytesA
 rw[List.map_append,List.map_append,List.set_append_right _ _ (by simp),List.length_map,Nat.sub_self]
 rfl
theorem h_set_get_self {α:Type}:∀{l:List α} {k:Nat} {x:α},l[k]?=some x→l.set k x=l
 | [],_,_,h=>by simp at h
 | a::l,0,x,h=>by simp at h;simp[h]
 | a::l,k+1,x,h=>by simp at h;simp[h_set_get_self h]
def HLowAt (s:List UInt8) (H:AHeap) (m:Nat) (x:Nat × AHeap):Prop:=
 x.1≤s.length∧x.2.get m=some (.cells 0 (bytesA ((s.take x.1).map lowB++s.drop x.1)))∧H.next≤m∧m<x.2.next∧H.next≤x.2.next∧∀j,j<H.next→x.2.get j=H.get j
theorem h_lower_ok (G:Nat→Option (List AV)) {s:List UInt8} (hs:s.length≤1000000000):PureCall Tryz.prog G 98 [.str s] (.str (lowS s)):=by
 intro H
 refine ACalls.keep (ACalls.of Tryz.func98 S98_eq R98 N98 rfl rfl ?_)
 simp (maxSteps:=400000) only[wF,storeA,reduceCtorEq,Nat.reduceAdd,Nat.reduceSub,Nat.reduceEqDiff,Nat.reduceLeDiff,Int.reduceToNat,Int.reduceLE,Int.reduceLT,Int.reduceAdd,Int.reduceNeg,Nat.reduceMul,S98,N98,R98,T98,convA]
 refine ATrS.loopK (κ:=Nat × AHeap) (fun x=>[.str s,.und,.str [],.slc H.next s.length,.und,.und,.und,.und,.slc H.next s.length,.int .i64 s.length,.int .i64 x.1]++List.replicate 19 .und) (fun x=>x.2)
  (HLowAt s H H.next) (fun x=>s.length-x.1) ⟨(0,_),⟨Nat.zero_le _,by simp[bytesA],Nat.le_refl _,by simp only[AHeap.next_allocAt];omega,by simp only[AHeap.next_allocAt];omega,fun j hj=>AHeap.get_allocAt_ne _ _ (by omega)⟩,by simp[Fg],HW.refl _⟩ ?_
 rintro⟨k,J⟩ ⟨hk,hrow,g1,g2,g3,g4⟩
 simp only at hk hrow g1 g2 g3 g4
 by_cases hlt:k<s.length
 ·have d0:decide ((k:Int)<(s.length:Int))=true:=by simp;omega
  have q0:((k:Int)<(s.length:Int))=True:=by simp;omega
  have ew:IntKind.i64.wrap ((k:Int)+1)=((k+1:Nat):Int):=by rw[wrap64]<;>omega
  have hd:=List.drop_eq_getElem_cons hlt
  have htk:s.take (k+1)=s.take k++[s[k]]:=by rw[List.take_succ,List.getElem?_eq_getElem hlt];rfl
  have hlen:((s.take k).map lowB).length=k:=by simp;omega
  have hg:(bytesA ((s.take k).map lowB++s.drop k))[k]?=some (.int .u8 s[k].toNat):=by
   unfold bytesA
   rw[List.getElem?_map,List.getElem?_append_right (by omega),hlen,Nat.sub_self,hd]
   rfl
  have hx:=s[k].toNat_lt
  have next:∀y,y=lowB s[k]→(bytesA ((s.take k).map lowB++s.drop k)).set k (.int .u8 y.toNat)=bytesA ((s.take (k+1)).map lowB++s.drop (k+1)):=fun y hy=>by
   have:=h_bytesA_set ((s.take k).map lowB) (s.drop (k+1)) s[k] y
   rw[hlen]at this
   rw[htk,hd,this,List.map_append,hy]
   simp
  have blen:(k<(bytesA ((s.take k).map lowB++s.drop k)).length)=True:=by simp[bytesA];omega
  by_cases hup:65≤s[k].toNat∧s[k].toNat≤90
  ·have d1:decide ((s[k].toNat:Int)≥65)=true:=by simp;omega
   have d2:decide ((s[k].toNat:Int)≤90)=true:=by simp;omega
   have hlow:(lowB s[k]).toNat=s[k].toNat+32:=by
    unfold lowB
    rw[if_pos hup,UInt8.toNat_add]
    simp
    omega
   have e7:IntKind.u8.wrap ((s[k].toNat:Int)+97)=((s[k].toNat+97:Nat):Int):=by rw[wrapu8]<;>omega
   have e8:IntKind.u8.wrap (((s[k].toNat+97:Nat):Int)-65)=((lowB s[k]).toNat:Int):=by rw[hlow,wrapu8]<;>omega
   simp (maxSteps:=400000) only[wF,storeA,reduceCtorEq,Nat.reduceAdd,Nat.reduceSub,Nat.reduceEqDiff,Nat.reduceLeDiff,Int.reduceToNat,Int.reduceLE,Int.reduceLT,Int.reduceAdd,Int.reduceNeg,Nat.reduceMul,T98,d0,q0,hrow,hg,indexAddrA,d1,d2,e7,e8,blen,ew,AV.boxable]
   refine⟨by simp[bytesA];omega,(k+1,_),⟨hlt,?_,Nat.le_refl _,?_,?_,fun j hj=>?_⟩,by simp only;omega,by simp[Fg],HW.refl _⟩
   ·simp only[AHeap.get_set_same]
    rw[next _ rfl,if_pos trivial]
   ·simp only[AHeap.next_set];omega
   ·simp only[AHeap.next_set];omega
   ·show(AHeap.set _ _ _).get j=_
    rw[AHeap.get_set_ne _ _ (by omega)]
    exact g4 j hj
  ·have hlow:lowB s[k]=s[k]:=by unfold lowB;rw[if_neg hup]
   have nx:=next s[k] hlow.symm
   rw[h_set_get_self hg]at nx
   have fin:HLowAt s H H.next (k+1,J):=⟨hlt,by rw[←nx];exact hrow,Nat.le_refl _,g2,g3,g4⟩
   by_cases h65:65≤s[k].toNat
   ·have d1:decide ((s[k].toNat:Int)≥65)=true:=by simp;omega
    have d2:decide ((s[k].toNat:Int)≤90)=false:=by simp;omega
    simp (maxSteps:=400000) only[wF,storeA,reduceCtorEq,Nat.reduceAdd,Nat.reduceSub,Nat.reduceEqDiff,Nat.reduceLeDiff,Int.reduceToNat,Int.reduceLE,Int.reduceLT,Int.reduceAdd,Int.reduceNeg,Nat.reduceMul,T98,d0,q0,hrow,hg,indexAddrA,d1,d2,ew,AV.boxable]
    exact⟨(k+1,J),fin,by simp only;omega,by simp[Fg],HW.refl _⟩
   ·have d1:decide ((s[k].toNat:Int)≥65)=false:=by simp;omega
    simp (maxSteps:=400000) only[wF,storeA,reduceCtorEq,Nat.reduceAdd,Nat.reduceSub,Nat.reduceEqDiff,Nat.reduceLeDiff,Int.reduceToNat,Int.reduceLE,Int.reduceLT,Int.reduceAdd,Int.reduceNeg,Nat.reduceMul,T98,d0,q0,hrow,hg,indexAddrA,d1,ew,AV.boxable]
    exact⟨(k+1,J),fin,by simp only;omega,by simp[Fg],HW.refl _⟩
 ·have d0:decide ((k:Int)<(s.length:Int))=false:=by simp;omega
  have hks:k=s.length:=by omega
  subst hks
  simp only[List.take_length,List.drop_length,List.append_nil]at hrow
  have v1:(s.length≤(bytesA (s.map lowB)).length)=True:=by simp[bytesA]
  have v2:List.take s.length (bytesA (s.map lowB))=bytesA (s.map lowB):=List.take_of_length_le (by simp[bytesA])
  simp (maxSteps:=400000) only[wF,storeA,reduceCtorEq,Nat.reduceAdd,Nat.reduceSub,Nat.reduceEqDiff,Nat.reduceLeDiff,Int.reduceToNat,Int.reduceLE,Int.reduceLT,Int.reduceAdd,Int.reduceNeg,Nat.reduceMul,T98,d0,convA,srcCells,hrow,v1,v2,h_bytesOfA_bytesA]
  exact⟨rfl,g3,g4⟩
theorem h_isRaw_ok (G:Nat→Option (List AV)) {s:List UInt8} (hs:s.length≤1000000000):PureCall Tryz.prog G 92 [.str s] (.bool (isRawS s)):=by
 intro H
 refine ACalls.keep (ACalls.of Tryz.func92 S92_eq R92 N92 rfl rfl ?_)
 simp (maxSteps:=400000) only[wF,storeA,reduceCtorEq,Nat.reduceAdd,Nat.reduceSub,Nat.reduceEqDiff,Nat.reduceLeDiff,Int.reduceToNat,Int.reduceLE,Int.reduceLT,Int.reduceAdd,Int.reduceNeg,Nat.reduceMul,S92,N92,R92]
 refine AInv.pureK B98 (h_lower_ok G hs) fun H1 h1=>?_
 unfold isRawS
 cases h2:lowS s==[115,99,114,105,112,116]with
 | true=>
  simp (maxSteps:=400000) only[wF,storeA,reduceCtorEq,Nat.reduceAdd,Nat.reduceSub,Nat.reduceEqDiff,Nat.reduceLeDiff,Int.reduceToNat,Int.reduceLE,Int.reduceLT,Int.reduceAdd,Int.reduceNeg,Nat.reduceMul,h2]
  exact⟨rfl,h1.post⟩
 | false=>
  simp (maxSteps:=400000) only[wF,storeA,reduceCtorEq,Nat.reduceAdd,Nat.reduceSub,Nat.reduceEqDiff,Nat.reduceLeDiff,Int.reduceToNat,Int.reduceLE,Int.reduceLT,Int.reduceAdd,Int.reduceNeg,Nat.reduceMul,h2]
  refine AInv.pureK B98 (h_lower_ok G hs) fun H2 h3=>?_
  simp (maxSteps:=400000) only[wF,storeA,reduceCtorEq,Nat.reduceAdd,Nat.reduceSub,Nat.reduceEqDiff,Nat.reduceLeDiff,Int.reduceToNat,Int.reduceLE,Int.reduceLT,Int.reduceAdd,Int.reduceNeg,Nat.reduceMul,T92]
  exact⟨by simp,(h1.trans h3).post⟩
theorem h_isVoid_ok (G:Nat→Option (List AV)) {s:List UInt8} (hs:s.length≤1000000000):PureCall Tryz.prog G 101 [.str s] (.bool (isVoidS s)):=by
 intro H
 refine ACalls.keep (ACalls.of Tryz.func101 S101_eq R101 N101 rfl rfl ?_)
 simp (maxSteps:=400000) only[wF,storeA,reduceCtorEq,Nat.reduceAdd,Nat.reduceSub,Nat.reduceEqDiff,Nat.reduceLeDiff,Int.reduceToNat,Int.reduceLE,Int.reduceLT,Int.reduceAdd,Int.reduceNeg,Nat.reduceMul,S101,N101,R101]
 refine AInv.pureK B98 (h_lower_ok G hs) fun H1 h1=>?_
 unfold isVoidS voidsS
 generalize lowS s=m
 rcases Bool.eq_false_or_eq_true (m==[97,114,101,97])with c0 | c0
 ·simp (maxSteps:=400000) only[wF,storeA,reduceCtorEq,Nat.reduceAdd,Nat.reduceSub,Nat.reduceEqDiff,Nat.reduceLeDiff,Int.reduceToNat,Int.reduceLE,Int.reduceLT,Int.reduceAdd,Int.reduceNeg,Nat.reduceMul,c0]
  exact⟨by simp only[List.contains,List.elem,c0],h1.post⟩
 rcases Bool.eq_false_or_eq_true (m==[98,97,115,101])with c1 | c1
 ·simp (maxSteps:=400000) only[wF,storeA,reduceCtorEq,Nat.reduceAdd,Nat.reduceSub,Nat.reduceEqDiff,Nat.reduceLeDiff,Int.reduceToNat,Int.reduceLE,Int.reduceLT,Int.reduceAdd,Int.reduceNeg,Nat.reduceMul,c0,c1]
  exact⟨by simp only[List.contains,List.elem,c0,c1],h1.post⟩
 rcases Bool.eq_false_or_eq_true (m==[98,114])with c2 | c2
 ·simp (maxSteps:=400000) only[wF,storeA,reduceCtorEq,Nat.reduceAdd,Nat.reduceSub,Nat.reduceEqDiff,Nat.reduceLeDiff,Int.reduceToNat,Int.reduceLE,Int.reduceLT,Int.reduceAdd,Int.reduceNeg,Nat.reduceMul,c0,c1,c2]
  exact⟨by simp only[List.contains,List.elem,c0,c1,c2],h1.post⟩
 rcases Bool.eq_false_or_eq_true (m==[99,111,108])with c3 | c3
 ·simp (maxSteps:=400000) only[wF,storeA,reduceCtorEq,Nat.reduceAdd,Nat.reduceSub,Nat.reduceEqDiff,Nat.reduceLeDiff,Int.reduceToNat,Int.reduceLE,Int.reduceLT,Int.reduceAdd,Int.reduceNeg,Nat.reduceMul,c0,c1,c2,c3]
  exact⟨by simp only[List.contains,List.elem,c0,c1,c2,c3],h1.post⟩
 rcases Bool.eq_false_or_eq_true (m==[101,109,98,101,100])with c4 | c4
 ·simp (maxSteps:=400000) only[wF,storeA,reduceCtorEq,Nat.reduceAdd,Nat.reduceSub,Nat.reduceEqDiff,Nat.reduceLeDiff,Int.reduceToNat,Int.reduceLE,Int.reduceLT,Int.reduceAdd,Int.reduceNeg,Nat.reduceMul,c0,c1,c2,c3,c4]
  exact⟨by simp only[List.contains,List.elem,c0,c1,c2,c3,c4],h1.post⟩
 rcases Bool.eq_false_or_eq_true (m==[104,114])with c5 | c5
 ·simp (maxSteps:=400000) only[wF,storeA,reduceCtorEq,Nat.reduceAdd,Nat.reduceSub,Nat.reduceEqDiff,Nat.reduceLeDiff,Int.reduceToNat,Int.reduceLE,Int.reduceLT,Int.reduceAdd,Int.reduceNeg,Nat.reduceMul,c0,c1,c2,c3,c4,c5]
  exact⟨by simp only[List.contains,List.elem,c0,c1,c2,c3,c4,c5],h1.post⟩
 rcases Bool.eq_false_or_eq_true (m==[105,109,103])with c6 | c6
 ·simp (maxSteps:=400000) only[wF,storeA,reduceCtorEq,Nat.reduceAdd,Nat.reduceSub,Nat.reduceEqDiff,Nat.reduceLeDiff,Int.reduceToNat,Int.reduceLE,Int.reduceLT,Int.reduceAdd,Int.reduceNeg,Nat.reduceMul,c0,c1,c2,c3,c4,c5,c6]
  exact⟨by simp only[List.contains,List.elem,c0,c1,c2,c3,c4,c5,c6],h1.post⟩
 rcases Bool.eq_false_or_eq_true (m==[105,110,112,117,116])with c7 | c7
 ·simp (maxSteps:=400000) only[wF,storeA,reduceCtorEq,Nat.reduceAdd,Nat.reduceSub,Nat.reduceEqDiff,Nat.reduceLeDiff,Int.reduceToNat,Int.reduceLE,Int.reduceLT,Int.reduceAdd,Int.reduceNeg,Nat.reduceMul,c0,c1,c2,c3,c4,c5,c6,c7]
  exact⟨by simp only[List.contains,List.elem,c0,c1,c2,c3,c4,c5,c6,c7],h1.post⟩
 rcases Bool.eq_false_or_eq_true (m==[108,105,110,107])with c8 | c8
 ·simp (maxSteps:=400000) only[wF,storeA,reduceCtorEq,Nat.reduceAdd,Nat.reduceSub,Nat.reduceEqDiff,Nat.reduceLeDiff,Int.reduceToNat,Int.reduceLE,Int.reduceLT,Int.reduceAdd,Int.reduceNeg,Nat.reduceMul,c0,c1,c2,c3,c4,c5,c6,c7,c8]
  exact⟨by simp only[List.contains,List.elem,c0,c1,c2,c3,c4,c5,c6,c7,c8],h1.post⟩
 rcases Bool.eq_false_or_eq_true (m==[109,101,116,97])with c9 | c9
 ·simp (maxSteps:=400000) only[wF,storeA,reduceCtorEq,Nat.reduceAdd,Nat.reduceSub,Nat.reduceEqDiff,Nat.reduceLeDiff,Int.reduceToNat,Int.reduceLE,Int.reduceLT,Int.reduceAdd,Int.reduceNeg,Nat.reduceMul,c0,c1,c2,c3,c4,c5,c6,c7,c8,c9]
  exact⟨by simp only[List.contains,List.elem,c0,c1,c2,c3,c4,c5,c6,c7,c8,c9],h1.post⟩
 rcases Bool.eq_false_or_eq_true (m==[112,97,114,97,109])with c10 | c10
 ·simp (maxSteps:=400000) only[wF,storeA,reduceCtorEq,Nat.reduceAdd,Nat.reduceSub,Nat.reduceEqDiff,Nat.reduceLeDiff,Int.reduceToNat,Int.reduceLE,Int.reduceLT,Int.reduceAdd,Int.reduceNeg,Nat.reduceMul,c0,c1,c2,c3,c4,c5,c6,c7,c8,c9,c10]
  exact⟨by simp only[List.contains,List.elem,c0,c1,c2,c3,c4,c5,c6,c7,c8,c9,c10],h1.post⟩
 rcases Bool.eq_false_or_eq_true (m==[115,111,117,114,99,101])with c11 | c11
 ·simp (maxSteps:=400000) only[wF,storeA,reduceCtorEq,Nat.reduceAdd,Nat.reduceSub,Nat.reduceEqDiff,Nat.reduceLeDiff,Int.reduceToNat,Int.reduceLE,Int.reduceLT,Int.reduceAdd,Int.reduceNeg,Nat.reduceMul,c0,c1,c2,c3,c4,c5,c6,c7,c8,c9,c10,c11]
  exact⟨by simp only[List.contains,List.elem,c0,c1,c2,c3,c4,c5,c6,c7,c8,c9,c10,c11],h1.post⟩
 rcases Bool.eq_false_or_eq_true (m==[116,114,97,99,107])with c12 | c12
 ·simp (maxSteps:=400000) only[wF,storeA,reduceCtorEq,Nat.reduceAdd,Nat.reduceSub,Nat.reduceEqDiff,Nat.reduceLeDiff,Int.reduceToNat,Int.reduceLE,Int.reduceLT,Int.reduceAdd,Int.reduceNeg,Nat.reduceMul,c0,c1,c2,c3,c4,c5,c6,c7,c8,c9,c10,c11,c12]
  exact⟨by simp only[List.contains,List.elem,c0,c1,c2,c3,c4,c5,c6,c7,c8,c9,c10,c11,c12],h1.post⟩
 rcases Bool.eq_false_or_eq_true (m==[119,98,114])with c13 | c13
 ·simp (maxSteps:=400000) only[wF,storeA,reduceCtorEq,Nat.reduceAdd,Nat.reduceSub,Nat.reduceEqDiff,Nat.reduceLeDiff,Int.reduceToNat,Int.reduceLE,Int.reduceLT,Int.reduceAdd,Int.reduceNeg,Nat.reduceMul,c0,c1,c2,c3,c4,c5,c6,c7,c8,c9,c10,c11,c12,c13]
  exact⟨by simp only[List.contains,List.elem,c0,c1,c2,c3,c4,c5,c6,c7,c8,c9,c10,c11,c12,c13],h1.post⟩
 simp (maxSteps:=400000) only[wF,storeA,reduceCtorEq,Nat.reduceAdd,Nat.reduceSub,Nat.reduceEqDiff,Nat.reduceLeDiff,Int.reduceToNat,Int.reduceLE,Int.reduceLT,Int.reduceAdd,Int.reduceNeg,Nat.reduceMul,c0,c1,c2,c3,c4,c5,c6,c7,c8,c9,c10,c11,c12,c13]
 exact⟨by simp only[List.contains,List.elem,c0,c1,c2,c3,c4,c5,c6,c7,c8,c9,c10,c11,c12,c13],h1.post⟩
theorem h_reference_ok {G:Nat→Option (List AV)} (E:Env G) (B:EnvB G) (P:EnvP G) {name:List UInt8} (hs:name.length≤1000000000) (H:AHeap) :
  ACalls Tryz.prog G 132 [.str name] H fun r H'=>r = .ret (.tup [.str (refHS name).1,.bool (refHS name).2])∧Kept H H':=by
 refine ACalls.wf fun wf=>?_
 refine ACalls.of Tryz.func132 S132_eq R132 N132 rfl rfl ?_
 rcases Bool.eq_false_or_eq_true (name==[108,116])with c0 | c0
 ·have hn:name=[108,116]:=by simpa using c0
  simp (maxSteps:=400000) only[wF,storeA,reduceCtorEq,Nat.reduceAdd,Nat.reduceSub,Nat.reduceEqDiff,Nat.reduceLeDiff,Int.reduceToNat,Int.reduceLE,Int.reduceLT,Int.reduceAdd,Int.reduceNeg,Nat.reduceMul,S132,N132,R132,c0]
  exact⟨by rw[hn];rfl,Kept.refl H⟩
 rcases Bool.eq_false_or_eq_true (name==[103,116])with c1 | c1
 ·have hn:name=[103,116]:=by simpa using c1
  simp (maxSteps:=400000) only[wF,storeA,reduceCtorEq,Nat.reduceAdd,Nat.reduceSub,Nat.reduceEqDiff,Nat.reduceLeDiff,Int.reduceToNat,Int.reduceLE,Int.reduceLT,Int.reduceAdd,Int.reduceNeg,Nat.reduceMul,S132,N132,R132,c0,c1]
  exact⟨by rw[hn];rfl,Kept.refl H⟩
 rcases Bool.eq_false_or_eq_true (name==[97,109,112])with c2 | c2
 ·have hn:name=[97,109,112]:=by simpa using c2
  simp (maxSteps:=400000) only[wF,storeA,reduceCtorEq,Nat.reduceAdd,Nat.reduceSub,Nat.reduceEqDiff,Nat.reduceLeDiff,Int.reduceToNat,Int.reduceLE,Int.reduceLT,Int.reduceAdd,Int.reduceNeg,Nat.reduceMul,S132,N132,R132,c0,c1,c2]
  exact⟨by rw[hn];rfl,Kept.refl H⟩
 rcases Bool.eq_false_or_eq_true (name==[113,117,111,116])with c3 | c3
 ·have hn:name=[113,117,111,116]:=by simpa using c3
  simp (maxSteps:=400000) only[wF,storeA,reduceCtorEq,Nat.reduceAdd,Nat.reduceSub,Nat.reduceEqDiff,Nat.reduceLeDiff,Int.reduceToNat,Int.reduceLE,Int.reduceLT,Int.reduceAdd,Int.reduceNeg,Nat.reduceMul,S132,N132,R132,c0,c1,c2,c3]
  exact⟨by rw[hn];rfl,Kept.refl H⟩
 rcases Bool.eq_false_or_eq_true (name==[97,112,111,115])with c4 | c4
 ·have hn:name=[97,112,111,115]:=by simpa using c4
  simp (maxSteps:=400000) only[wF,storeA,reduceCtorEq,Nat.reduceAdd,Nat.reduceSub,Nat.reduceEqDiff,Nat.reduceLeDiff,Int.reduceToNat,Int.reduceLE,Int.reduceLT,Int.reduceAdd,Int.reduceNeg,Nat.reduceMul,S132,N132,R132,c0,c1,c2,c3,c4]
  exact⟨by rw[hn];rfl,Kept.refl H⟩
 have hr2:refHS name=match numS name with
  | none=>([],false)
  | some n=>charS n:=by
  have d0:¬name=[108,116]:=by simpa using c0
  have d1:¬name=[103,116]:=by simpa using c1
  have d2:¬name=[97,109,112]:=by simpa using c2
  have d3:¬name=[113,117,111,116]:=by simpa using c3
  have d4:¬name=[97,112,111,115]:=by simpa using c4
  simp only[refHS,entityS,d0,d1,d2,d3,d4,if_false,Bool.false_eq_true]
  cases numS name<;>rfl
 simp (maxSteps:=400000) only[wF,storeA,reduceCtorEq,Nat.reduceAdd,Nat.reduceSub,Nat.reduceEqDiff,Nat.reduceLeDiff,Int.reduceToNat,Int.reduceLE,Int.reduceLT,Int.reduceAdd,Int.reduceNeg,Nat.reduceMul,S132,N132,R132,c0,c1,c2,c3,c4]
 refine AInv.pureK E.cutPreB (E.cutPre _ _) fun H3 h3=>?_
 simp (maxSteps:=400000) only[wF,storeA,reduceCtorEq,Nat.reduceAdd,Nat.reduceSub,Nat.reduceEqDiff,Nat.reduceLeDiff,Int.reduceToNat,Int.reduceLE,Int.reduceLT,Int.reduceAdd,Int.reduceNeg,Nat.reduceMul,T132]
 refine AInv.pureK E.cutPreB (E.cutPre _ _) fun H4 h4=>?_
 have h14:=h3.trans h4
 obtain⟨digits,base,hbase,hdl,hx,hnum⟩:∃(digits:List UInt8) (base:Nat),(base=10∨base=16)∧digits.length≤1000000000 ∧
   (Lib.hasPrefix (Lib.trimPrefix name [35]) [120]=true∧digits=Lib.trimPrefix (Lib.trimPrefix name [35]) [120]∧base=16∨Lib.hasPrefix (Lib.trimPrefix name [35]) [120]=false∧digits=Lib.trimPrefix name [35]∧base=10) ∧
   (Lib.hasPrefix name [35]=true→numS name=parseS base digits):=by
  have l1:=Lib.trimPrefix_le name [35]
  have l2:=Lib.trimPrefix_le (Lib.trimPrefix name [35]) [120]
  have t1:Lib.hasPrefix name [35]=true→Lib.trimPrefix name [35]=name.drop 1:=fun h=>by
   unfold Lib.trimPrefix
   rw[if_pos h]
   rfl
  cases hp:Lib.hasPrefix (Lib.trimPrefix name [35]) [120]with
  | true=>
   refine⟨_,16,.inr rfl,by omega,.inl ⟨rfl,rfl,rfl⟩,fun h=>?_⟩
   rw[t1 h]at hp ⊢
   simp only[numS,h,hp,if_true]
   unfold Lib.trimPrefix
   rw[if_pos hp,List.drop_drop]
   rfl
  | false=>
   refine⟨_,10,.inl rfl,by omega,.inr ⟨rfl,rfl,rfl⟩,fun h=>?_⟩
   rw[t1 h]at hp ⊢
   simp only[numS,h,hp,if_true,Bool.false_eq_true,if_false]
 rcases hx with ⟨hp,rfl,rfl⟩ | ⟨hp,rfl,rfl⟩
 all_goals
  simp (maxSteps:=400000) only[wF,storeA,reduceCtorEq,Nat.reduceAdd,Nat.reduceSub,Nat.reduceEqDiff,Nat.reduceLeDiff,Int.reduceToNat,Int.reduceLE,Int.reduceLT,Int.reduceAdd,Int.reduceNeg,Nat.reduceMul,T132,hp]
  refine AInv.retK P.parseB (P.parse _ _ _ hbase hdl) (fun v J hq=>?_) (fun v J hq=>?_)
  case' refine_2=>
   obtain⟨_,hq⟩:=hq
   split at hq
   ·cases hq
   ·obtain⟨_,_,_,hq⟩:=hq
    cases hq
  obtain⟨hJ,hq⟩:=hq
  have hK:=h14.kept.trans hJ
  generalize hdg:(Lib.trimPrefix _ _:List UInt8)=digits at hq hnum ⊢
  cases hps:parseS _ digits with
  | none=>
   rw[hps]at hq hnum
   obtain⟨n,t,v',hq⟩:=hq
   cases hq
   have hnn:numS name=none:=by
    cases his:Lib.hasPrefix name [35]with
    | true=>exact hnum his
    | false=>exact numS_none his
   rw[hnn]at hr2
   cases his:Lib.hasPrefix name [35]with
   | false=>
    simp (maxSteps:=400000) only[wF,storeA,reduceCtorEq,Nat.reduceAdd,Nat.reduceSub,Nat.reduceEqDiff,Nat.reduceLeDiff,Int.reduceToNat,Int.reduceLE,Int.reduceLT,Int.reduceAdd,Int.reduceNeg,Nat.reduceMul,T132,his]
    exact⟨by rw[hr2],hK⟩
   | true=>
    simp (maxSteps:=400000) only[wF,storeA,reduceCtorEq,Nat.reduceAdd,Nat.reduceSub,Nat.reduceEqDiff,Nat.reduceLeDiff,Int.reduceToNat,Int.reduceLE,Int.reduceLT,Int.reduceAdd,Int.reduceNeg,Nat.reduceMul,T132,his,eqNeq,AV.isConst,Bool.or_true]
    exact⟨by rw[hr2],hK⟩
  | some n=>
   rw[hps]at hq hnum
   cases hq
   obtain⟨hd1,hn⟩:=parseS_some hps
   cases his:Lib.hasPrefix name [35]with
   | false=>
    rw[numS_none his]at hr2
    simp (maxSteps:=400000) only[wF,storeA,reduceCtorEq,Nat.reduceAdd,Nat.reduceSub,Nat.reduceEqDiff,Nat.reduceLeDiff,Int.reduceToNat,Int.reduceLE,Int.reduceLT,Int.reduceAdd,Int.reduceNeg,Nat.reduceMul,T132,his]
    exact⟨by rw[hr2],hK⟩
   | true=>
    rw[hnum his]at hr2
    have hw:IntKind.i64.wrap (n:Int)=n:=by rw[wrap64]<;>omega
    simp (maxSteps:=400000) only[wF,storeA,reduceCtorEq,Nat.reduceAdd,Nat.reduceSub,Nat.reduceEqDiff,Nat.reduceLeDiff,Int.reduceToNat,Int.reduceLE,Int.reduceLT,Int.reduceAdd,Int.reduceNeg,Nat.reduceMul,T132,his,eqNeq,AV.isConst,Bool.or_true,convA,hw,sliceLit,fillA,zerosA,AV.boxable,Nat.le_refl,Nat.reduceLT]
    have hKn:=hK.1
    refine AInv.retK B82 (from_ok B (n:=n) (by simp) hn) (fun v J2 hq=>?_) (fun v J2 hq=>by cases hq.1)
    obtain⟨hv,hJ2⟩:=hq
    cases hv
    have hK2:Kept H J2:=by
     have a1:=hJ2.1
     simp only[AHeap.next_allocAt]at a1
     refine⟨by omega,fun j hj=>?_⟩
     rw[hJ2.2 j (by simp only[AHeap.next_allocAt];omega),AHeap.get_allocAt_ne _ _ (by omega)]
     exact hK.2 j hj
    simp only at hr2
    cases hcs:(charS n).2 with
    | true=>
     simp (maxSteps:=400000) only[wF,storeA,reduceCtorEq,Nat.reduceAdd,Nat.reduceSub,Nat.reduceEqDiff,Nat.reduceLeDiff,Int.reduceToNat,Int.reduceLE,Int.reduceLT,Int.reduceAdd,Int.reduceNeg,Nat.reduceMul,T132]
     exact⟨by rw[hr2,hcs];rfl,hK2⟩
    | false=>
     simp (maxSteps:=400000) only[wF,storeA,reduceCtorEq,Nat.reduceAdd,Nat.reduceSub,Nat.reduceEqDiff,Nat.reduceLeDiff,Int.reduceToNat,Int.reduceLE,Int.reduceLT,Int.reduceAdd,Int.reduceNeg,Nat.reduceMul,T132]
     exact⟨by rw[hr2,hcs];rfl,hK2⟩
def HUnAt (s:List UInt8) (H:AHeap) (x:List UInt8 × Nat × List UInt8 × AHeap):Prop:=
 x.1.length+x.2.2.1.length≤s.length∧unescL x.1 x.2.2.1=unescS s∧BldAt x.2.2.2 H.next x.2.1 x.2.2.1∧H.next<x.2.1∧x.2.1<x.2.2.2.next∧∀j,j<H.next→x.2.2.2.get j=H.get j
theorem h_unescape_ok {G:Nat→Option (List AV)} (E:Env G) (B:EnvB G) (P:EnvP G) {s:List UInt8} (hs:s.length≤900000000) (H:AHeap) :
  ACalls Tryz.prog G 96 [.str s] H fun r H'=>r = .ret (.tup [.str (unescS s).1,.bool (unescS s).2])∧Kept H H':=by
 refine ACalls.wf fun wf=>?_
 refine ACalls.of Tryz.func96 S96_eq R96 N96 rfl rfl ?_
 simp (maxSteps:=400000) only[wF,storeA,reduceCtorEq,Nat.reduceAdd,Nat.reduceSub,Nat.reduceEqDiff,Nat.reduceLeDiff,Int.reduceToNat,Int.reduceLE,Int.reduceLT,Int.reduceAdd,Int.reduceNeg,Nat.reduceMul,S96,N96,R96,T96]
 generalize hH1:H.allocAt H.next _=H1
 have hb1:H1.get H.next=some (.cells 69 [.nilp,.nils]):=by rw[←hH1];simp
 have hn1:H1.next=H.next+1:=by rw[←hH1];simp[AHeap.next_allocAt]
 have hg1:∀j,j<H.next→H1.get j=H.get j:=fun j hj=>by rw[←hH1,AHeap.get_allocAt_ne _ _ (by omega)]
 obtain⟨H2,hw,hb2,hn2,hg2⟩:=Weak.builder G hb1 (by omega)
 rw[hn1]at hb2 hn2 hg2
 refine ATrS.weak (hw _) (ATrS.loopK (κ:=List UInt8 × Nat × List UInt8 × AHeap) (fun x=>[.str x.1,.und,.und,.und,.ptr H.next 0]++List.replicate 38 .und) (fun x=>x.2.2.2)
  (HUnAt s H) (fun x=>x.1.length) ⟨(s,H.next+1,[],H2),⟨by simp,rfl,hb2,Nat.lt_succ_self _,by simp only;omega,fun j hj=>by simp only;rw[hg2 j (by omega) (by omega),hg1 j hj]⟩,by simp[Fg],HW.refl _⟩ ?_)
 clear hb2 hw
 rintro⟨u,k,acc,J⟩ ⟨hlen,hv,hb,hk,hJn,hJ⟩
 simp only at hlen hv hb hk hJn hJ
 simp (maxSteps:=400000) only[wF,storeA,reduceCtorEq,Nat.reduceAdd,Nat.reduceSub,Nat.reduceEqDiff,Nat.reduceLeDiff,Int.reduceToNat,Int.reduceLE,Int.reduceLT,Int.reduceAdd,Int.reduceNeg,Nat.reduceMul,T96]
 refine AInv.pureK E.cutB (E.cut _ _ (by omega)) fun J1 h1=>?_
 have hst:=unescL_step u acc
 rw[hv]at hst
 have hcf:=fun h=>cut_found (s:=u) (p:=[38]) h
 have hcl:=cut_len u [38]
 simp only[List.length_cons,List.length_nil]at hcf
 generalize Lib.cut u [38]=x at hst hcf hcl ⊢
 obtain⟨before,after,ok⟩:=x
 simp only at hst hcf hcl ⊢
 have hb1:BldAt J1 H.next k acc:=by unfold BldAt;rw[h1.2];exact hb
 have n1:=h1.1
 simp (maxSteps:=400000) only[wF,storeA,reduceCtorEq,Nat.reduceAdd,Nat.reduceSub,Nat.reduceEqDiff,Nat.reduceLeDiff,Int.reduceToNat,Int.reduceLE,Int.reduceLT,Int.reduceAdd,Int.reduceNeg,Nat.reduceMul,T96]
 refine AInv.retK B38 (writeString_ok B hb1 (by omega)) (fun v J2 hq=>?_) (fun v J2 hq=>by cases hq.1)
 obtain⟨hq,k2,hb2,hk2,hn2,hg2⟩:=hq
 cases hq
 have hJ2:∀j,j<H.next→J2.get j=H.get j:=fun j hj=>by rw[hg2 j (by omega) (by omega) (by omega),h1.2];exact hJ j hj
 cases ok with
 | false=>
  simp (maxSteps:=400000) only[wF,storeA,reduceCtorEq,Nat.reduceAdd,Nat.reduceSub,Nat.reduceEqDiff,Nat.reduceLeDiff,Int.reduceToNat,Int.reduceLE,Int.reduceLT,Int.reduceAdd,Int.reduceNeg,Nat.reduceMul,T96,Bool.not_false]
  refine AInv.retK B.stringB (B.string J2 H.next k2 _ hb2) (fun v J3 hq=>?_) (fun v J3 hq=>by cases hq.1)
  obtain⟨hq,hn3,hg3⟩:=hq
  cases hq
  simp (maxSteps:=400000) only[wF,storeA,reduceCtorEq,Nat.reduceAdd,Nat.reduceSub,Nat.reduceEqDiff,Nat.reduceLeDiff,Int.reduceToNat,Int.reduceLE,Int.reduceLT,Int.reduceAdd,Int.reduceNeg,Nat.reduceMul,T96]
  refine⟨by rw[hst];rfl,by omega,fun j hj=>?_⟩
  rw[hg3,AHeap.get_del_ne _ (by omega)]
  exact hJ2 j hj
 | true=>
  have hc1:=hcf rfl
  simp only[if_true]at hst
  simp (maxSteps:=400000) only[wF,storeA,reduceCtorEq,Nat.reduceAdd,Nat.reduceSub,Nat.reduceEqDiff,Nat.reduceLeDiff,Int.reduceToNat,Int.reduceLE,Int.reduceLT,Int.reduceAdd,Int.reduceNeg,Nat.reduceMul,T96,Bool.not_true]
  refine AInv.pureK E.cutB (E.cut _ _ (by omega)) fun J3 h3=>?_
  have hcf2:=fun h=>cut_found (s:=after) (p:=[59]) h
  have hcl2:=cut_len after [59]
  simp only[List.length_cons,List.length_nil]at hcf2
  generalize Lib.cut after [59]=y at hst hcf2 hcl2 ⊢
  obtain⟨name,rest,ok2⟩:=y
  simp only at hst hcf2 hcl2 ⊢
  have n3:=h3.1
  simp (maxSteps:=400000) only[wF,storeA,reduceCtorEq,Nat.reduceAdd,Nat.reduceSub,Nat.reduceEqDiff,Nat.reduceLeDiff,Int.reduceToNat,Int.reduceLE,Int.reduceLT,Int.reduceAdd,Int.reduceNeg,Nat.reduceMul,T96]
  refine AInv.retK B132 (h_reference_ok E B P (by omega) J3) (fun v J4 hq=>?_) (fun v J4 hq=>by cases hq.1)
  obtain⟨hq,hK4⟩:=hq
  cases hq
  have n4:=hK4.1
  have hJ4:∀j,j<J2.next→J4.get j=J2.get j:=fun j hj=>by rw[hK4.2 j (by omega),h3.2]
  have hrl:=fun h=>refHS_len (name:=name) h
  generalize refHS name=z at hst hrl ⊢
  obtain⟨c,known⟩:=z
  simp only at hst hrl ⊢
  cases ok2 with
  | false=>
   simp (maxSteps:=400000) only[wF,storeA,reduceCtorEq,Nat.reduceAdd,Nat.reduceSub,Nat.reduceEqDiff,Nat.reduceLeDiff,Int.reduceToNat,Int.reduceLE,Int.reduceLT,Int.reduceAdd,Int.reduceNeg,Nat.reduceMul,T96,Bool.not_false]
   refine⟨by rw[hst];rfl,by omega,fun j hj=>?_⟩
   rw[hJ4 j (by omega)]
   exact hJ2 j hj
  | true=>
   cases known with
   | false=>
    simp (maxSteps:=400000) only[wF,storeA,reduceCtorEq,Nat.reduceAdd,Nat.reduceSub,Nat.reduceEqDiff,Nat.reduceLeDiff,Int.reduceToNat,Int.reduceLE,Int.reduceLT,Int.reduceAdd,Int.reduceNeg,Nat.reduceMul,T96,Bool.not_false,Bool.not_true]
    refine⟨by rw[hst];rfl,by omega,fun j hj=>?_⟩
    rw[hJ4 j (by omega)]
    exact hJ2 j hj
   | true=>
    have hc2:=hcf2 rfl
    have hr:=hrl rfl
    simp only[and_self,if_true]at hst
    simp (maxSteps:=400000) only[wF,storeA,reduceCtorEq,Nat.reduceAdd,Nat.reduceSub,Nat.reduceEqDiff,Nat.reduceLeDiff,Int.reduceToNat,Int.reduceLE,Int.reduceLT,Int.reduceAdd,Int.reduceNeg,Nat.reduceMul,T96,Bool.not_true]
    have hb4:BldAt J4 H.next k2 (acc++before):=by
     obtain⟨b0,g1,g2,g3⟩:=hb2
     exact⟨b0,g1,by rw[hJ4 _ (by omega)];exact g2,by rw[hJ4 _ (by omega)];exact g3⟩
    refine AInv.retK B38 (writeString_ok B hb4 (by simp only[List.length_append];omega)) (fun v J5 hq=>?_) (fun v J5 hq=>by cases hq.1)
    obtain⟨hq,k5,hb5,hk5,hn5,hg5⟩:=hq
    cases hq
    simp (maxSteps:=400000) only[wF,storeA,reduceCtorEq,Nat.reduceAdd,Nat.reduceSub,Nat.reduceEqDiff,Nat.reduceLeDiff,Int.reduceToNat,Int.reduceLE,Int.reduceLT,Int.reduceAdd,Int.reduceNeg,Nat.reduceMul,T96]
    refine⟨(rest,k5,acc++before++c,J5),⟨by simp only[List.length_append];omega,hst.symm,hb5,by simp only;omega,by simp only;omega,fun j hj=>?_⟩,by simp only;omega,by simp[Fg],HW.refl _⟩
    simp only
    rw[hg5 j (by omega) (by omega) (by omega),hJ4 j (by omega)]
    exact hJ2 j hj
end Go.Ab
namespace Go.Ab
open Go Go.Lib Go.Proofs
theorem h_byte_ne {c:UInt8} {n:Nat} (hn:n<256):((c.toNat:Int) != (n:Int)) = !(c==UInt8.ofNat n):=by
 by_cases h:c=UInt8.ofNat n
 ·subst h
  have:(UInt8.ofNat n).toNat=n:=by simp;omega
  rw[this]
  simp
 ·have h2:¬(c.toNat=n):=fun e=>h (by rw[←e];simp)
  have h3:(c==UInt8.ofNat n)=false:=by simpa using h
  rw[h3]
  simp only[Bool.not_false,bne_iff_ne,ne_eq]
  omega
structure EnvH (G:Nat→Option (List AV)):Prop where
 has:∀s p,s.length≤1000000000→PureCall Tryz.prog G 84 [.str s,.str p] (.bool (Lib.contains s p))
 hasB:bodyT Tryz.prog 84=true
 trim:∀s p,PureCall Tryz.prog G 12 [.str s,.str p] (.str (Lib.trimPrefix s p))
 trimB:bodyT Tryz.prog 12=true
set_option maxHeartbeats 4000000 in
set_option maxRecDepth 100000 in
theorem h_attribute_ok {G:Nat→Option (List AV)} (E:Env G) (B:EnvB G) (P:EnvP G) (X:EnvH G) {s:List UInt8} (hs:s.length≤900000000) (H:AHeap) :
  ACalls Tryz.prog G 100 [.str s] H fun r H'=>r = .ret (.tup [.agg [.str (attrHS s).1.1,.str (attrHS s).1.2],.int .i64 (attrHS s).2.1,.bool (attrHS s).2.2])∧Kept H H':=by
 refine ACalls.wf fun wf=>?_
 refine ACalls.of Tryz.func100 S100_eq R100 N100 rfl rfl ?_
 simp (maxSteps:=400000) only[wF,storeA,reduceCtorEq,Nat.reduceAdd,Nat.reduceSub,Nat.reduceEqDiff,Nat.reduceLeDiff,Int.reduceToNat,Int.reduceLE,Int.reduceLT,Int.reduceAdd,Int.reduceNeg,Nat.reduceMul,S100,N100,R100,T100]
 generalize hH0:H.allocAt H.next _=H0
 have g0:H0.get H.next=some (.cells 132 [.str [],.str []]):=by rw[←hH0];simp
 have n0:H0.next=H.next+1:=by rw[←hH0];simp only[AHeap.next_allocAt];omega
 have o0:∀j,j<H.next→H0.get j=H.get j:=fun j hj=>by rw[←hH0,AHeap.get_allocAt_ne _ _ (by omega)]
 clear hH0
 refine ATrS.loopK (κ:=Nat) (fun x=>[.str s,.und,.ptr H.next 0,.int .i64 x]++List.replicate 78 .und) (fun _=>H0)
  (fun x=>x≤s.length∧x+uptoS (s.drop x) [32,62,61]=uptoS s [32,62,61]) (fun x=>s.length-x) ⟨0,⟨Nat.zero_le _,by simp⟩,by simp[Fg],HW.refl _⟩ ?_
 rintro n ⟨hn,hu⟩
 have hgo:¬(n<s.length∧[32,62,(61:UInt8)].contains (s.getD n 0)=false)→uptoS s [32,62,61]=n:=fun hh=>by
  rw[←hu]
  by_cases hl:n<s.length
  ·have hg:s.getD n 0=s[n]:=by rw[List.getD_eq_getElem?_getD,List.getElem?_eq_getElem hl];rfl
   rw[uptoS_step _ hl,if_pos]
   ·rfl
   ·by_cases hc:[32,62,(61:UInt8)].contains s[n]=true
    ·exact hc
    ·exact absurd ⟨hl,by rw[hg];simpa using hc⟩ hh
  ·rw[uptoS_end _ (by omega)]
   rfl
 have hstep:n<s.length→[32,62,(61:UInt8)].contains (s.getD n 0)=false→(n+1)+uptoS (s.drop (n+1)) [32,62,61]=uptoS s [32,62,61]:=fun hl hc=>by
  have hg:s.getD n 0=s[n]:=by rw[List.getD_eq_getElem?_getD,List.getElem?_eq_getElem hl];rfl
  rw[uptoS_step _ hl,if_neg (by rw[←hg,hc];simp)]at hu
  omega
 have ew:IntKind.i64.wrap ((n:Int)+1)=((n+1:Nat):Int):=by rw[wrap64]<;>omega
 have tail:uptoS s [32,62,61]=n→True:=fun _=>trivial
 have key:∀(c:UInt8),s[n]?=some c→s.getD n 0=c:=fun c hc=>by rw[List.getD_eq_getElem?_getD,hc];rfl
 by_cases hlt:n<s.length∧[32,62,(61:UInt8)].contains (s.getD n 0)=false
 ·obtain⟨hlt,hc⟩:=hlt
  have d0:decide ((n:Int)<(s.length:Int))=true:=by simp;omega
  have hg:s[n]?=some s[n]:=List.getElem?_eq_getElem hlt
  have hs2:=hstep hlt hc
  rw[key _ hg]at hc
  generalize s[n]=c at hg hc
  simp only[List.contains,List.elem]at hc
  have e1:((c.toNat:Int) != 32)=true:=by
   rw[show(32:Int)=((32:Nat):Int)from rfl,h_byte_ne (by omega)]
   by_cases h:c=32
   ·subst h;simp at hc
   ·simpa using h
  have e2:((c.toNat:Int) != 62)=true:=by
   rw[show(62:Int)=((62:Nat):Int)from rfl,h_byte_ne (by omega)]
   by_cases h:c=62
   ·subst h;simp at hc
   ·simpa using h
  have e3:((c.toNat:Int) != 61)=true:=by
   rw[show(61:Int)=((61:Nat):Int)from rfl,h_byte_ne (by omega)]
   by_cases h:c=61
   ·subst h;simp at hc
   ·simpa using h
  simp (maxSteps:=400000) only[wF,storeA,reduceCtorEq,Nat.reduceAdd,Nat.reduceSub,Nat.reduceEqDiff,Nat.reduceLeDiff,Int.reduceToNat,Int.reduceLE,Int.reduceLT,Int.reduceAdd,Int.reduceNeg,Nat.reduceMul,T100,d0,hg,e1,e2,e3,ew]
  exact⟨n+1,⟨hlt,hs2⟩,by omega,by simp[Fg],HW.refl _⟩
 ·have hun:=hgo hlt
  clear hgo hstep
  have hx:(n=s.length∧decide ((n:Int)<(s.length:Int))=false)∨(n<s.length∧∃c,s[n]?=some c∧(((c.toNat:Int) != 32)=false∨((c.toNat:Int) != 32)=true∧(((c.toNat:Int) != 62)=false∨((c.toNat:Int) != 62)=true∧((c.toNat:Int) != 61)=false))):=by
   by_cases hl:n<s.length
   ·right
    have hg:s[n]?=some s[n]:=List.getElem?_eq_getElem hl
    refine⟨hl,s[n],hg,?_⟩
    have hc:[32,62,(61:UInt8)].contains s[n]=true:=by
     by_cases hc:[32,62,(61:UInt8)].contains s[n]=true
     ·exact hc
     ·exact absurd ⟨hl,by rw[key _ hg];simpa using hc⟩ hlt
    rw[List.contains_iff_mem]at hc
    simp only[List.mem_cons,List.not_mem_nil,or_false]at hc
    generalize s[n]=c at hc
    rcases hc with rfl | rfl | rfl
    ·exact .inl rfl
    ·exact .inr ⟨rfl,.inl rfl⟩
    ·exact .inr ⟨rfl,.inr ⟨rfl,rfl⟩⟩
   ·exact .inl ⟨by omega,by simp;omega⟩
  have q1:((n:Int)≤(s.length:Int))=True:=by simp;omega
  have q0:((0:Int)≤(n:Int))=True:=by simp
  clear hlt key tail ew
  rcases hx with ⟨hnl,d0⟩ | ⟨hnl,c,hg,e1 | ⟨e1,e2 | ⟨e2,e3⟩⟩⟩
  case' inl=>simp (maxSteps:=400000) only[wF,storeA,reduceCtorEq,Nat.reduceAdd,Nat.reduceSub,Nat.reduceEqDiff,Nat.reduceLeDiff,Int.reduceToNat,Int.reduceLE,Int.reduceLT,Int.reduceAdd,Int.reduceNeg,Nat.reduceMul,T100,d0]
  case' inr.inl=>have d0:decide ((n:Int)<(s.length:Int))=true:=by simp;omega
  case' inr.inl=>simp (maxSteps:=400000) only[wF,storeA,reduceCtorEq,Nat.reduceAdd,Nat.reduceSub,Nat.reduceEqDiff,Nat.reduceLeDiff,Int.reduceToNat,Int.reduceLE,Int.reduceLT,Int.reduceAdd,Int.reduceNeg,Nat.reduceMul,T100,d0,hg,e1]
  case' inr.inr.inl=>have d0:decide ((n:Int)<(s.length:Int))=true:=by simp;omega
  case' inr.inr.inl=>simp (maxSteps:=400000) only[wF,storeA,reduceCtorEq,Nat.reduceAdd,Nat.reduceSub,Nat.reduceEqDiff,Nat.reduceLeDiff,Int.reduceToNat,Int.reduceLE,Int.reduceLT,Int.reduceAdd,Int.reduceNeg,Nat.reduceMul,T100,d0,hg,e1,e2]
  case' inr.inr.inr=>have d0:decide ((n:Int)<(s.length:Int))=true:=by simp;omega
  case' inr.inr.inr=>simp (maxSteps:=400000) only[wF,storeA,reduceCtorEq,Nat.reduceAdd,Nat.reduceSub,Nat.reduceEqDiff,Nat.reduceLeDiff,Int.reduceToNat,Int.reduceLE,Int.reduceLT,Int.reduceAdd,Int.reduceNeg,Nat.reduceMul,T100,d0,hg,e1,e2,e3]
  all_goals
   refine drawW_fixed mixedOrders L100_3_eq P100_3_eq ?_
   simp (maxSteps:=400000) only[wF,storeA,reduceCtorEq,Nat.reduceAdd,Nat.reduceSub,Nat.reduceEqDiff,Nat.reduceLeDiff,Int.reduceToNat,Int.reduceLE,Int.reduceLT,Int.reduceAdd,Int.reduceNeg,Nat.reduceMul,L100_3,T100,q0,q1,g0,buildA,fillA,AV.boxable]
   generalize hX0:H0.set H.next _=X0
   have x0:X0.get H.next=some (.cells 132 [.str (s.take n),.str (s.take n)]):=by rw[←hX0,AHeap.get_set_same]
   have xn0:X0.next=H.next+1:=by rw[←hX0,AHeap.next_set];exact n0
   have xo0:∀j,j<H.next→X0.get j=H.get j:=fun j hj=>by rw[←hX0,AHeap.get_set_ne _ _ (by omega)];exact o0 j hj
   clear hX0
   have hA:attrHS s=if isNameS (s.take n)=true then
     (if Lib.hasPrefix (s.drop n) [61,34]=true then
      (if(Lib.cut (s.drop (n+2)) [34]).2.2=true∧Lib.contains (Lib.cut (s.drop (n+2)) [34]).1 [60]=false then((s.take n,(unescS (Lib.cut (s.drop (n+2)) [34]).1).1),n+2+(Lib.cut (s.drop (n+2)) [34]).1.length+1,(unescS (Lib.cut (s.drop (n+2)) [34]).1).2)
      else(([],[]),0,false))
     else((s.take n,s.take n),n,true))
    else(([],[]),0,false):=by
    unfold attrHS
    rw[hun]
   refine AInv.pureK B80 (isName_ok E (by simp only[List.length_take];omega)) fun H1 h1=>?_
   have m1:=h1.1
   have x1:=(congrFun h1.2 _).trans x0
   cases hnm:isNameS (s.take n)with
   | false=>
    rw[hnm,if_neg (by simp)]at hA
    simp (maxSteps:=400000) only[wF,storeA,reduceCtorEq,Nat.reduceAdd,Nat.reduceSub,Nat.reduceEqDiff,Nat.reduceLeDiff,Int.reduceToNat,Int.reduceLE,Int.reduceLT,Int.reduceAdd,Int.reduceNeg,Nat.reduceMul,T100,Bool.not_false,buildA,fillA,AV.boxable,x1]
    refine⟨by rw[hA];rfl,by simp only[AHeap.next_set];omega,fun j hj=>?_⟩
    rw[AHeap.get_set_ne _ _ (by omega),h1.2]
    exact xo0 j hj
   | true=>
    rw[hnm,if_pos rfl]at hA
    simp (maxSteps:=400000) only[wF,storeA,reduceCtorEq,Nat.reduceAdd,Nat.reduceSub,Nat.reduceEqDiff,Nat.reduceLeDiff,Int.reduceToNat,Int.reduceLE,Int.reduceLT,Int.reduceAdd,Int.reduceNeg,Nat.reduceMul,T100,Bool.not_true,q0,q1]
    refine AInv.pureK E.cutPreB (E.cutPre _ _) fun H2 h2=>?_
    have m2:=h2.1
    have x2:=(congrFun h2.2 _).trans x1
    cases hp:Lib.hasPrefix (s.drop n) [61,34]with
    | false=>
     rw[hp,if_neg (by simp)]at hA
     simp (maxSteps:=400000) only[wF,storeA,reduceCtorEq,Nat.reduceAdd,Nat.reduceSub,Nat.reduceEqDiff,Nat.reduceLeDiff,Int.reduceToNat,Int.reduceLE,Int.reduceLT,Int.reduceAdd,Int.reduceNeg,Nat.reduceMul,T100,Bool.not_false,x2,AV.boxable]
     refine⟨by rw[hA],by simp only[AHeap.next_set];omega,fun j hj=>?_⟩
     rw[AHeap.get_set_ne _ _ (by omega),h2.2,h1.2]
     exact xo0 j hj
    | true=>
     have ht:Lib.trimPrefix (s.drop n) [61,34]=s.drop (n+2):=by
      unfold Lib.trimPrefix
      rw[if_pos hp,List.drop_drop]
      rfl
     rw[hp,if_pos rfl]at hA
     simp (maxSteps:=400000) only[wF,storeA,reduceCtorEq,Nat.reduceAdd,Nat.reduceSub,Nat.reduceEqDiff,Nat.reduceLeDiff,Int.reduceToNat,Int.reduceLE,Int.reduceLT,Int.reduceAdd,Int.reduceNeg,Nat.reduceMul,T100,Bool.not_true,ht]
     refine AInv.pureK E.cutB (E.cut _ _ (by simp only[List.length_drop];omega)) fun H3 h3=>?_
     have m3:=h3.1
     have x3:=(congrFun h3.2 _).trans x2
     have hcl:=cut_len (s.drop (n+2)) [34]
     simp only[List.length_drop]at hcl
     generalize Lib.cut (s.drop (n+2)) [34]=C at hA hcl ⊢
     obtain⟨v,rest,ok⟩:=C
     simp only at hA hcl ⊢
     cases ok with
     | false=>
      rw[if_neg (by simp)]at hA
      simp (maxSteps:=400000) only[wF,storeA,reduceCtorEq,Nat.reduceAdd,Nat.reduceSub,Nat.reduceEqDiff,Nat.reduceLeDiff,Int.reduceToNat,Int.reduceLE,Int.reduceLT,Int.reduceAdd,Int.reduceNeg,Nat.reduceMul,T100,Bool.not_false,buildA,fillA,AV.boxable,x3]
      refine⟨by rw[hA];rfl,by simp only[AHeap.next_set];omega,fun j hj=>?_⟩
      rw[AHeap.get_set_ne _ _ (by omega),h3.2,h2.2,h1.2]
      exact xo0 j hj
     | true=>
      simp (maxSteps:=400000) only[wF,storeA,reduceCtorEq,Nat.reduceAdd,Nat.reduceSub,Nat.reduceEqDiff,Nat.reduceLeDiff,Int.reduceToNat,Int.reduceLE,Int.reduceLT,Int.reduceAdd,Int.reduceNeg,Nat.reduceMul,T100,Bool.not_true]
      refine AInv.pureK X.hasB (X.has _ _ (by omega)) fun H4 h4=>?_
      have m4:=h4.1
      have x4:=(congrFun h4.2 _).trans x3
      cases hc60:Lib.contains v [60]with
      | true=>
       rw[hc60,if_neg (by simp)]at hA
       simp (maxSteps:=400000) only[wF,storeA,reduceCtorEq,Nat.reduceAdd,Nat.reduceSub,Nat.reduceEqDiff,Nat.reduceLeDiff,Int.reduceToNat,Int.reduceLE,Int.reduceLT,Int.reduceAdd,Int.reduceNeg,Nat.reduceMul,T100,buildA,fillA,AV.boxable,x4]
       refine⟨by rw[hA];rfl,by simp only[AHeap.next_set];omega,fun j hj=>?_⟩
       rw[AHeap.get_set_ne _ _ (by omega),h4.2,h3.2,h2.2,h1.2]
       exact xo0 j hj
      | false=>
       rw[hc60,if_pos ⟨rfl,rfl⟩]at hA
       simp (maxSteps:=400000) only[wF,storeA,reduceCtorEq,Nat.reduceAdd,Nat.reduceSub,Nat.reduceEqDiff,Nat.reduceLeDiff,Int.reduceToNat,Int.reduceLE,Int.reduceLT,Int.reduceAdd,Int.reduceNeg,Nat.reduceMul,T100]
       refine AInv.retK B96 (h_unescape_ok E B P (by omega) H4) (fun w H5 hq=>?_) (fun w H5 hq=>by cases hq.1)
       obtain⟨hq,h5⟩:=hq
       cases hq
       have m5:=h5.1
       have x5:=(h5.2 _ (by omega)).trans x4
       have e1:IntKind.i64.wrap ((n:Int)+2)=((n+2:Nat):Int):=by rw[wrap64]<;>omega
       have e2:IntKind.i64.wrap (((n+2:Nat):Int)+(v.length:Int))=((n+2+v.length:Nat):Int):=by rw[wrap64]<;>omega
       have e3:IntKind.i64.wrap (((n+2+v.length:Nat):Int)+1)=((n+2+v.length+1:Nat):Int):=by rw[wrap64]<;>omega
       simp (maxSteps:=400000) only[wF,storeA,reduceCtorEq,Nat.reduceAdd,Nat.reduceSub,Nat.reduceEqDiff,Nat.reduceLeDiff,Int.reduceToNat,Int.reduceLE,Int.reduceLT,Int.reduceAdd,Int.reduceNeg,Nat.reduceMul,T100,x5,AV.boxable,e1,e2,e3]
       refine⟨by rw[hA],by simp only[AHeap.next_set];omega,fun j hj=>?_⟩
       simp only[AHeap.get_set,show ¬j=H.next by omega,if_false]
       rw[h5.2 j (by omega),h4.2,h3.2,h2.2,h1.2]
       exact xo0 j hj
end Go.Ab
namespace Go.Ab
open Go Go.Lib Go.Proofs
def attrsH (l:List (List UInt8 × List UInt8)):List AV:=l.flatMap fun a=>[.str a.1,.str a.2]
theorem attrsH_len (l:List (List UInt8 × List UInt8)):(attrsH l).length=l.length*2:=by
 induction l with
 | nil=>rfl
 | cons a l ih=>simp only[attrsH,List.flatMap_cons,List.length_append,List.length_cons,List.length_nil]at ih ⊢;rw[ih];omega
def strsH (l:List (List UInt8)):List AV:=l.map AV.str
theorem strsH_len (l:List (List UInt8)):(strsH l).length=l.length:=by simp[strsH]
def atH (l:List (List UInt8 × List UInt8)):AV:=if l=[]then .nils else .lst l.length (attrsH l)
def evH (x:Ev):List AV:=[.int .i64 x.kind,.str x.name,.str x.text,atH x.attrs,.int .i64 x.line,.int .i64 x.col]
def evsH (l:List Ev):List AV:=l.flatMap evH
theorem evsH_len (l:List Ev):(evsH l).length=l.length*6:=by
 induction l with
 | nil=>rfl
 | cons a l ih=>simp only[evsH,List.flatMap_cons,List.length_append,evH,List.length_cons,List.length_nil]at ih ⊢;rw[ih];omega
theorem evsH_app (l m:List Ev):evsH (l++m)=evsH l++evsH m:=by simp[evsH]
theorem evsH_at:∀(l:List Ev) (i:Nat) (h:i<l.length),((evsH l).drop (i*6)).take 6=evH l[i]
 | [],i,h=>by simp at h
 | a::l,0,_=>rfl
 | a::l,i+1,h=>by
  have:=evsH_at l i (by simpa using h)
  have e:(i+1)*6=i*6+1+1+1+1+1+1:=by omega
  simp only[evsH,List.flatMap_cons,e,evH,List.cons_append,List.nil_append,List.drop_succ_cons,List.getElem_cons_succ]at this ⊢
  exact this
theorem evsH_get (l:List Ev) (i k:Nat) (h:i<l.length) (hk:k<6):(evsH l)[i*6+k]?=(evH l[i])[k]?:=by
 have:=evsH_at l i h
 rw[←this,List.getElem?_take,if_pos hk,List.getElem?_drop]
def RdrAt (J:AHeap) (rid kl ko:Nat) (h:HSt):Prop:=
 J.get rid=some (.cells 57 [.str h.s,.slc kl h.l.length,.slc ko h.opens.length])∧J.get kl=some (.row 88 6 (evsH h.l))∧J.get ko=some (.row 9 1 (strsH h.opens))∧rid≠kl∧rid≠ko∧kl≠ko∧rid<J.next∧kl<J.next∧ko<J.next
def HKeep (J:AHeap) (rid kl ko:Nat) (J':AHeap) (kl' ko':Nat):Prop:=
 J.next≤J'.next∧(kl'=kl∨J.next≤kl')∧(ko'=ko∨J.next≤ko')∧∀j,j<J.next→j≠rid→j≠kl→j≠ko→J'.get j=J.get j
def hwrongA (e:Nat):AV := .iface 53 (.agg [.int .i64 e])
def RdPost (h:HSt) (J:AHeap) (rid kl ko:Nat) (o:Except Nat (Option HSt)) (r:ARes) (J':AHeap):Prop:=
 match o with
 | .error e=>r = .pan (hwrongA e)∧J.next≤J'.next∧∀j,j<J.next→j≠rid→j≠kl→j≠ko→J'.get j=J.get j
 | .ok none=>r = .ret (.bool false)∧RdrAt J' rid kl ko h∧HKeep J rid kl ko J' kl ko
 | .ok (some h')=>r = .ret (.bool true)∧∃kl' ko',RdrAt J' rid kl' ko' h'∧HKeep J rid kl ko J' kl' ko'
theorem RdrAt.keep {J J':AHeap} {rid kl ko:Nat} {h:HSt} (hr:RdrAt J rid kl ko h) (hk:Kept J J'):RdrAt J' rid kl ko h∧HKeep J rid kl ko J' kl ko:=by
 obtain⟨a1,a2,a3,a4,a5,a6,a7,a8,a9⟩:=hr
 have:=hk.1
 exact⟨⟨(hk.2 _ a7).trans a1,(hk.2 _ a8).trans a2,(hk.2 _ a9).trans a3,a4,a5,a6,by omega,by omega,by omega⟩,this,.inl rfl,.inl rfl,fun j hj _ _ _=>hk.2 j hj⟩
set_option maxHeartbeats 4000000 in
set_option maxRecDepth 100000 in
theorem h_add_ok (G:Nat→Option (List AV)) {H:AHeap} {rid kl ko:Nat} {h:HSt} (hr:RdrAt H rid kl ko h) {k:Nat} {name text:List UInt8} (hl:h.l.length<100000000) :
  ACalls Tryz.prog G 94 [.ptr rid 0,.int .i64 k,.str name,.str text] H fun r H'=>(∃v,r = .ret v)∧∃kl',RdrAt H' rid kl' ko { h with l:=h.l++[⟨k,name,text,[],0,0⟩] }∧HKeep H rid kl ko H' kl' ko:=by
 refine ACalls.of Tryz.func94 S94_eq R94 N94 rfl rfl ?_
 obtain⟨a1,a2,a3,a4,a5,a6,a7,a8,a9⟩:=hr
 have u1:(H.next==kl)=false:=by simp;omega
 have u2:(h.l.length+1≤maxApp)=True:=by simp[maxApp];omega
 have u3:(kl=H.next)=False:=by simp;omega
 have u5:(rid=H.next)=False:=by simp;omega
 have u6:(rid=H.next+1)=False:=by simp;omega
 have u7:(rid=kl)=False:=by simp;omega
 simp (maxSteps:=400000) only[wF,storeA,reduceCtorEq,Nat.reduceAdd,Nat.reduceSub,Nat.reduceEqDiff,Nat.reduceLeDiff,Int.reduceToNat,Int.reduceLE,Int.reduceLT,Int.reduceAdd,Int.reduceNeg,Nat.reduceMul,S94,N94,R94,T94,a1,a2,u1,u2,u3,u5,u6,u7,buildA,appendA,appSrc,AV.isSlc,sliceLit,fillA,zerosA,srcCells,AV.boxable,Nat.le_refl,Nat.reduceLT,evsH_len]
 generalize hX:AHeap.set _ rid _=X
 refine⟨⟨_,rfl⟩,H.next+1,⟨?_,?_,?_,by omega,a5,by omega,?_,?_,?_⟩,?_,.inr (by omega),.inl rfl,fun j j1 j2 j3 j4=>?_⟩
 all_goals rw[←hX]
 ·rw[AHeap.get_set_same]
  simp
 ·rw[AHeap.get_set_ne _ _ (by omega),AHeap.get_allocAt_same]
  simp only[evsH_app]
  rfl
 ·rw[AHeap.get_set_ne _ _ (by omega),AHeap.get_allocAt_ne _ _ (by omega),AHeap.get_del_ne _ (by omega),AHeap.get_allocAt_ne _ _ (by omega)]
  exact a3
 ·simp only[AHeap.next_set,AHeap.next_allocAt,AHeap.next_del];omega
 ·simp only[AHeap.next_set,AHeap.next_allocAt,AHeap.next_del];omega
 ·simp only[AHeap.next_set,AHeap.next_allocAt,AHeap.next_del];omega
 ·simp only[AHeap.next_set,AHeap.next_allocAt,AHeap.next_del];omega
 ·rw[AHeap.get_set_ne _ _ j2,AHeap.get_allocAt_ne _ _ (by omega),AHeap.get_del_ne _ j3,AHeap.get_allocAt_ne _ _ (by omega)]
theorem getLast_at {l:List Ev} {x:Ev} (h:l.getLast?=some x):∃i,l.length=i+1∧l[i]?=some x:=by
 cases l with
 | nil=>simp at h
 | cons a l=>
  refine⟨l.length,rfl,?_⟩
  rw[List.getLast?_eq_getElem?]at h
  simpa using h
def rawO (h:HSt):Except Nat (Option HSt):=
 if rawNow h=true then(if Lib.index h.s [60,47]<0 then .error 5 else .ok (some (h.add 2 [] (h.s.take (Lib.index h.s [60,47]).toNat) (h.s.drop (Lib.index h.s [60,47]).toNat))))else .ok none
set_option maxHeartbeats 4000000 in
set_option maxRecDepth 100000 in
theorem h_raw_ok {G:Nat→Option (List AV)} (E:Env G) {H:AHeap} {rid kl ko:Nat} {h:HSt} (hr:RdrAt H rid kl ko h) (hs:h.s.length≤900000000) (hl:h.l.length<100000000) (hnm:∀x∈h.l,x.name.length≤900000000) :
  ACalls Tryz.prog G 59 [.ptr rid 0] H (RdPost h H rid kl ko (rawO h)):=by
 refine ACalls.of Tryz.func59 S59_eq R59 N59 rfl rfl ?_
 have hr0:=hr
 obtain⟨a1,a2,a3,a4,a5,a6,a7,a8,a9⟩:=hr
 cases hla:h.l.getLast? with
 | none=>
  have hl0:h.l=[]:=by simpa using hla
  have hno:rawNow h=false:=by unfold rawNow;rw[hla]
  have e0:IntKind.i64.wrap (((h.l.length:Nat):Int)-1) = -1:=by rw[hl0];first | done | rfl
  have d0:decide ((-1:Int)<0)=true:=rfl
  simp (maxSteps:=400000) only[wF,storeA,reduceCtorEq,Nat.reduceAdd,Nat.reduceSub,Nat.reduceEqDiff,Nat.reduceLeDiff,Int.reduceToNat,Int.reduceLE,Int.reduceLT,Int.reduceAdd,Int.reduceNeg,Nat.reduceMul,S59,N59,R59,T59,a1,a2,e0,d0]
  rw[rawO,hno]
  exact⟨rfl,hr0.keep (Kept.refl H)⟩
 | some x=>
  obtain⟨i,hi,hx⟩:=getLast_at hla
  have e0:IntKind.i64.wrap (((h.l.length:Nat):Int)-1)=(i:Int):=by rw[hi,wrap64]<;>omega
  have d0:decide ((i:Int)<0)=false:=by simp
  have q0:((i:Int)<(h.l.length:Int))=True:=by simp;omega
  have q1:((0:Int)≤(i:Int))=True:=by simp
  have hlt:i<h.l.length:=by omega
  have hxi:h.l[i]=x:=by
   have:=List.getElem?_eq_getElem hlt
   rw[hx]at this
   exact(Option.some.inj this).symm
  have g0:=evsH_get h.l i 0 hlt (by omega)
  have g1:=evsH_get h.l i 1 hlt (by omega)
  rw[hxi]at g0 g1
  simp only[evH,List.getElem?_cons_zero,List.getElem?_cons_succ,Nat.add_zero]at g0 g1
  simp (maxSteps:=400000) only[wF,storeA,reduceCtorEq,Nat.reduceAdd,Nat.reduceSub,Nat.reduceEqDiff,Nat.reduceLeDiff,Int.reduceToNat,Int.reduceLE,Int.reduceLT,Int.reduceAdd,Int.reduceNeg,Nat.reduceMul,S59,N59,R59,T59,a1,a2,e0,d0,q0,q1,indexAddrA,g0,g1]
  have hrw:rawNow h=(x.kind==0&&isRawS x.name && !Lib.hasPrefix h.s [60,47]):=by unfold rawNow;rw[hla]
  by_cases hk:x.kind=0
  case neg=>
   have b0:((x.kind:Int) != 0)=true:=by simp;omega
   have hno:rawNow h=false:=by rw[hrw];simp[hk]
   simp (maxSteps:=400000) only[wF,storeA,reduceCtorEq,Nat.reduceAdd,Nat.reduceSub,Nat.reduceEqDiff,Nat.reduceLeDiff,Int.reduceToNat,Int.reduceLE,Int.reduceLT,Int.reduceAdd,Int.reduceNeg,Nat.reduceMul,T59,b0]
   rw[rawO,hno]
   exact⟨rfl,hr0.keep (Kept.refl H)⟩
  have b0:((x.kind:Int) != 0)=false:=by simp;omega
  simp (maxSteps:=400000) only[wF,storeA,reduceCtorEq,Nat.reduceAdd,Nat.reduceSub,Nat.reduceEqDiff,Nat.reduceLeDiff,Int.reduceToNat,Int.reduceLE,Int.reduceLT,Int.reduceAdd,Int.reduceNeg,Nat.reduceMul,T59,b0,a1,a2,q0,q1,indexAddrA,g1]
  refine AInv.pureK B92 (h_isRaw_ok G (by have:=hnm x (by rw[←hxi];exact List.getElem_mem hlt);omega)) fun H1 h1=>?_
  have c1:=(congrFun h1.2 _).trans a1
  cases hir:isRawS x.name with
  | false=>
   have hno:rawNow h=false:=by rw[hrw,hir];simp
   simp (maxSteps:=400000) only[wF,storeA,reduceCtorEq,Nat.reduceAdd,Nat.reduceSub,Nat.reduceEqDiff,Nat.reduceLeDiff,Int.reduceToNat,Int.reduceLE,Int.reduceLT,Int.reduceAdd,Int.reduceNeg,Nat.reduceMul,T59,Bool.not_false]
   rw[rawO,hno]
   exact⟨rfl,hr0.keep h1.kept⟩
  | true=>
   simp (maxSteps:=400000) only[wF,storeA,reduceCtorEq,Nat.reduceAdd,Nat.reduceSub,Nat.reduceEqDiff,Nat.reduceLeDiff,Int.reduceToNat,Int.reduceLE,Int.reduceLT,Int.reduceAdd,Int.reduceNeg,Nat.reduceMul,T59,Bool.not_true,c1]
   refine AInv.pureK E.hasPreB (E.hasPre _ _) fun H2 h2=>?_
   have h12:=h1.trans h2
   have c2:=(congrFun h2.2 _).trans c1
   cases hpp:Lib.hasPrefix h.s [60,47]with
   | true=>
    have hno:rawNow h=false:=by rw[hrw,hpp];simp
    simp (maxSteps:=400000) only[wF,storeA,reduceCtorEq,Nat.reduceAdd,Nat.reduceSub,Nat.reduceEqDiff,Nat.reduceLeDiff,Int.reduceToNat,Int.reduceLE,Int.reduceLT,Int.reduceAdd,Int.reduceNeg,Nat.reduceMul,T59]
    rw[rawO,hno]
    exact⟨rfl,hr0.keep h12.kept⟩
   | false=>
    have hyes:rawNow h=true:=by rw[hrw,hir,hpp];simp[hk]
    simp (maxSteps:=400000) only[wF,storeA,reduceCtorEq,Nat.reduceAdd,Nat.reduceSub,Nat.reduceEqDiff,Nat.reduceLeDiff,Int.reduceToNat,Int.reduceLE,Int.reduceLT,Int.reduceAdd,Int.reduceNeg,Nat.reduceMul,T59,c2]
    refine AInv.pureK E.indexB (E.index _ _ (by omega)) fun H3 h3=>?_
    have h13:=h12.trans h3
    have c3:=(congrFun h3.2 _).trans c2
    rw[rawO,if_pos hyes]
    by_cases hix:Lib.index h.s [60,47]<0
    ·have d1:decide (Lib.index h.s [60,47]<0)=true:=by simpa using hix
     rw[if_pos hix]
     simp (maxSteps:=400000) only[wF,storeA,reduceCtorEq,Nat.reduceAdd,Nat.reduceSub,Nat.reduceEqDiff,Nat.reduceLeDiff,Int.reduceToNat,Int.reduceLE,Int.reduceLT,Int.reduceAdd,Int.reduceNeg,Nat.reduceMul,T59,d1,buildA,fillA,ifaceA,AV.boxable]
     have:=h13.kept
     exact⟨rfl,this.1,fun j hj _ _ _=>this.2 j hj⟩
    ·have d1:decide (Lib.index h.s [60,47]<0)=false:=by simpa using hix
     rw[if_neg hix]
     have hrm:=Lib.index_room h.s [60,47] (by omega)
     obtain⟨m,hm⟩:∃m:Nat,Lib.index h.s [60,47]=m:=⟨(Lib.index h.s [60,47]).toNat,by omega⟩
     rw[hm]at hrm d1 ⊢
     have v1:((0:Int)≤(m:Int))=True:=by simp
     have v2:((m:Int)≤(h.s.length:Int))=True:=by simp;omega
     simp (maxSteps:=400000) only[wF,storeA,reduceCtorEq,Nat.reduceAdd,Nat.reduceSub,Nat.reduceEqDiff,Nat.reduceLeDiff,Int.reduceToNat,Int.reduceLE,Int.reduceLT,Int.reduceAdd,Int.reduceNeg,Nat.reduceMul,T59,d1,c3,v1,v2]
     obtain⟨r3,-⟩:=hr0.keep h13.kept
     refine AInv.call B94 (h_add_ok G r3 hl) fun r4 H4 h4=>?_
     obtain⟨⟨_,rfl⟩,kl',r4,k4⟩:=h4
     have hk13:=h13.kept.1
     obtain⟨e1,e2,e3,e4,e5,e6,e7,e8,e9⟩:=r4
     simp (maxSteps:=400000) only[wF,storeA,reduceCtorEq,Nat.reduceAdd,Nat.reduceSub,Nat.reduceEqDiff,Nat.reduceLeDiff,Int.reduceToNat,Int.reduceLE,Int.reduceLT,Int.reduceAdd,Int.reduceNeg,Nat.reduceMul,T59,e1,v1,v2,AV.boxable]
     refine⟨rfl,kl',ko,⟨?_,?_,?_,e4,e5,e6,?_,?_,?_⟩,?_,?_,.inl rfl,fun j j1 j2 j3 j4=>?_⟩
     ·simp only[HSt.add,AHeap.get_set_same]
     ·rw[AHeap.get_set_ne _ _ (by omega)];exact e2
     ·rw[AHeap.get_set_ne _ _ (by omega)];exact e3
     ·exact e7
     ·exact e8
     ·exact e9
     ·have:=k4.1;simp only[AHeap.next_set];omega
     ·rcases k4.2.1 with h | h
      ·exact .inl h
      ·exact .inr (by omega)
     ·rw[AHeap.get_set_ne _ _ j2,k4.2.2.2 j (by omega) j2 j3 j4]
      exact h13.kept.2 j j1
end Go.Ab
namespace Go.Ab
open Go Go.Lib Go.Proofs
theorem h_set_set (H:AHeap) (k:Nat) (o o':AObj):(H.set k o).set k o'=H.set k o':=by
 simp only[AHeap.set]
 congr 1
 funext j
 split<;>rfl
theorem RdrAt.setS {J:AHeap} {rid kl ko:Nat} {h:HSt} (hr:RdrAt J rid kl ko h) (s':List UInt8):RdrAt (J.set rid (.cells 57 [.str s',.slc kl h.l.length,.slc ko h.opens.length])) rid kl ko { h with s:=s' }∧HKeep J rid kl ko (J.set rid (.cells 57 [.str s',.slc kl h.l.length,.slc ko h.opens.length])) kl ko:=by
 obtain⟨a1,a2,a3,a4,a5,a6,a7,a8,a9⟩:=hr
 refine⟨⟨by rw[AHeap.get_set_same],?_,?_,a4,a5,a6,a7,a8,a9⟩,Nat.le_refl _,.inl rfl,.inl rfl,fun j _ j2 _ _=>AHeap.get_set_ne _ _ j2⟩
 ·rw[AHeap.get_set_ne _ _ (by omega)];exact a2
 ·rw[AHeap.get_set_ne _ _ (by omega)];exact a3
theorem HKeep.trans {A B C:AHeap} {rid kl ko kl1 ko1 kl2 ko2:Nat} (h:HKeep A rid kl ko B kl1 ko1) (h':HKeep B rid kl1 ko1 C kl2 ko2):HKeep A rid kl ko C kl2 ko2:=by
 obtain⟨a1,a2,a3,a4⟩:=h
 obtain⟨b1,b2,b3,b4⟩:=h'
 refine⟨by omega,?_,?_,fun j j1 j2 j3 j4=>?_⟩
 ·rcases b2 with h | h
  ·rw[h];exact a2
  ·exact .inr (by omega)
 ·rcases b3 with h | h
  ·rw[h];exact a3
  ·exact .inr (by omega)
 ·rw[b4 j (by omega) j2 (by rcases a2 with h | h<;>omega) (by rcases a3 with h | h<;>omega)]
  exact a4 j j1 j2 j3 j4
theorem HKeep.of {A B:AHeap} (rid kl ko:Nat) (h:Kept A B):HKeep A rid kl ko B kl ko:=⟨h.1,.inl rfl,.inl rfl,fun j hj _ _ _=>h.2 j hj⟩
def textO (h:HSt):Except Nat (Option HSt):=
 if h.s.getD 0 0≠60 then
  (if(unescS (Lib.cut h.s [60]).1).2=true then .ok (some (h.add 2 [] (unescS (Lib.cut h.s [60]).1).1 (h.s.drop (Lib.cut h.s [60]).1.length)))else .error 5)
 else .ok none
set_option maxHeartbeats 4000000 in
set_option maxRecDepth 100000 in
theorem h_text_ok {G:Nat→Option (List AV)} (E:Env G) (B:EnvB G) (P:EnvP G) {H:AHeap} {rid kl ko:Nat} {h:HSt} (hr:RdrAt H rid kl ko h) (hs:h.s.length≤900000000) (hne:h.s≠[]) (hl:h.l.length<100000000) :
  ACalls Tryz.prog G 60 [.ptr rid 0] H (RdPost h H rid kl ko (textO h)):=by
 refine ACalls.of Tryz.func60 S60_eq R60 N60 rfl rfl ?_
 have hr0:=hr
 obtain⟨a1,a2,a3,a4,a5,a6,a7,a8,a9⟩:=hr
 obtain⟨c,t,hct⟩:=cons_of hne
 have hg:h.s[0]?=some c:=by rw[hct];rfl
 have hgd:h.s.getD 0 0=c:=by rw[hct];rfl
 unfold textO
 rw[hgd]
 by_cases h60:c=60
 ·have b0:((c.toNat:Int)==60)=true:=by rw[h60];rfl
  rw[if_neg (by simp[h60])]
  simp (maxSteps:=400000) only[wF,storeA,reduceCtorEq,Nat.reduceAdd,Nat.reduceSub,Nat.reduceEqDiff,Nat.reduceLeDiff,Int.reduceToNat,Int.reduceLE,Int.reduceLT,Int.reduceAdd,Int.reduceNeg,Nat.reduceMul,S60,N60,R60,T60,a1,hg,b0]
  exact⟨rfl,hr0.keep (Kept.refl H)⟩
 ·have b0:((c.toNat:Int)==60)=false:=by
   have:=h_byte_ne (c:=c) (n:=60) (by omega)
   rw[beq_eq_false_iff_ne]
   intro e
   exact h60 (UInt8.toNat_inj.1 (by simpa using Int.ofNat_inj.1 e))
  rw[if_pos h60]
  simp (maxSteps:=400000) only[wF,storeA,reduceCtorEq,Nat.reduceAdd,Nat.reduceSub,Nat.reduceEqDiff,Nat.reduceLeDiff,Int.reduceToNat,Int.reduceLE,Int.reduceLT,Int.reduceAdd,Int.reduceNeg,Nat.reduceMul,S60,N60,R60,T60,a1,hg,b0]
  refine AInv.pureK E.cutB (E.cut _ _ (by omega)) fun H1 h1=>?_
  have c1:=(congrFun h1.2 _).trans a1
  have hcl:=cut_len h.s [60]
  generalize Lib.cut h.s [60]=x at hcl ⊢
  obtain⟨tx,rest,ok⟩:=x
  simp only at hcl ⊢
  have v1:((0:Int)≤(tx.length:Int))=True:=by simp
  have v2:((tx.length:Int)≤(h.s.length:Int))=True:=by simp;omega
  simp (maxSteps:=400000) only[wF,storeA,reduceCtorEq,Nat.reduceAdd,Nat.reduceSub,Nat.reduceEqDiff,Nat.reduceLeDiff,Int.reduceToNat,Int.reduceLE,Int.reduceLT,Int.reduceAdd,Int.reduceNeg,Nat.reduceMul,T60,c1,v1,v2,AV.boxable]
  obtain⟨r1,k1⟩:=hr0.keep h1.kept
  obtain⟨r2,k2⟩:=r1.setS (h.s.drop tx.length)
  generalize AHeap.set H1 rid _=X at r2 k2 ⊢
  refine AInv.retK B96 (h_unescape_ok E B P (by omega) X) (fun v H3 hq=>?_) (fun v H3 hq=>by cases hq.1)
  obtain⟨hq,h3⟩:=hq
  cases hq
  obtain⟨r3,k3⟩:=r2.keep h3
  have k13:=(k1.trans k2).trans k3
  cases hu:(unescS tx).2 with
  | false=>
   rw[if_neg (by simp)]
   simp (maxSteps:=400000) only[wF,storeA,reduceCtorEq,Nat.reduceAdd,Nat.reduceSub,Nat.reduceEqDiff,Nat.reduceLeDiff,Int.reduceToNat,Int.reduceLE,Int.reduceLT,Int.reduceAdd,Int.reduceNeg,Nat.reduceMul,T60,Bool.not_false,buildA,fillA,ifaceA,AV.boxable]
   exact⟨rfl,k13.1,k13.2.2.2⟩
  | true=>
   rw[if_pos rfl]
   simp (maxSteps:=400000) only[wF,storeA,reduceCtorEq,Nat.reduceAdd,Nat.reduceSub,Nat.reduceEqDiff,Nat.reduceLeDiff,Int.reduceToNat,Int.reduceLE,Int.reduceLT,Int.reduceAdd,Int.reduceNeg,Nat.reduceMul,T60,Bool.not_true]
   refine AInv.call B94 (h_add_ok G r3 hl) fun r4 H4 h4=>?_
   obtain⟨⟨_,rfl⟩,kl',r4,k4⟩:=h4
   simp (maxSteps:=400000) only[wF,storeA,reduceCtorEq,Nat.reduceAdd,Nat.reduceSub,Nat.reduceEqDiff,Nat.reduceLeDiff,Int.reduceToNat,Int.reduceLE,Int.reduceLT,Int.reduceAdd,Int.reduceNeg,Nat.reduceMul,T60]
   exact⟨rfl,kl',ko,r4,k13.trans k4⟩
theorem Weak.popRdr (G:Nat→Option (List AV)) {H:AHeap} {rid kl ko:Nat} {e re:TypeId} {cs:List AV} {k n:Nat} {x0:AV} (hpid:H.get rid=some (.cells e [x0,.slc kl n,.slc ko k])) (hrow:H.get ko=some (.row re 1 cs)) (hk:k≤cs.length) (hpn:rid<H.next) (hkn:ko<H.next) (a:List AV) :
  ∃H',Weak G a H a H'∧H'.get rid=some (.cells e [x0,.slc kl n,.slc H.next k])∧H'.get H.next=some (.row re 1 (cs.take k))∧H'.next=H.next+1∧∀j,j<H.next→j≠rid→j≠ko→H'.get j=H.get j:=by
 have hne:rid≠ko:=by
  intro h
  subst h
  rw[hpid]at hrow
  cases hrow
 refine⟨⟨H.next+1,fun j=>if j=H.next then some (.row re 1 (cs.take k))else if j=ko then none else if j=rid then some (.cells e [x0,.slc kl n,.slc H.next k])else H.get j⟩,
  Weak.rename hrow (by omega) H.next k (by omega) (Nat.le_refl _) (Nat.lt_succ_self _) ?_ (by simp) (fun j=>?_) (Tzs.refl _),?_,by simp,rfl,fun j h1 h2 h3=>?_⟩
 ·simp
  omega
 ·by_cases h1:j=H.next
  ·exact .inl h1
  ·by_cases h2:j=ko
   ·exact .inr (.inl (by subst h2;simp[h1]))
   ·by_cases h3:j=rid
    ·subst h3
     exact .inr (.inr ⟨_,.cells e [x0,.slc kl n,.slc H.next k],hpid,by simp[h1,h2],.cells _ _ _ (show Tzs _ _ _ _ _ from ⟨.same _,.same _,.slc _ _ (by simp),trivial⟩)⟩)
    ·cases hg:H.get j with
     | none=>exact .inr (.inl (by simp[h1,h2,h3,hg]))
     | some o=>exact .inr (.inr ⟨o,o,rfl,by simp[h1,h2,h3,hg],.same o⟩)
 ·have:rid≠H.next:=by omega
  simp[this,hne]
 ·have:j≠H.next:=by omega
  simp[this,h2,h3]
def endO (h:HSt):Except Nat (Option HSt):=
 match endHS h.s with
 | none => .ok none
 | some (name,rest)=>if h.opens.getLast?=some name then .ok (some { h.add 1 name [] rest with opens:=h.opens.dropLast })else .error 110
set_option maxHeartbeats 4000000 in
set_option maxRecDepth 100000 in
theorem h_end_ok {G:Nat→Option (List AV)} (E:Env G) {H:AHeap} {rid kl ko:Nat} {h:HSt} (hr:RdrAt H rid kl ko h) (hs:h.s.length≤900000000) (hl:h.l.length<100000000) (ho:h.opens.length<100000000) :
  ACalls Tryz.prog G 61 [.ptr rid 0] H (RdPost h H rid kl ko (endO h)):=by
 refine ACalls.of Tryz.func61 S61_eq R61 N61 rfl rfl ?_
 have hr0:=hr
 obtain⟨a1,a2,a3,a4,a5,a6,a7,a8,a9⟩:=hr
 have hE:endHS h.s=if Lib.hasPrefix h.s [60,47]=true∧(Lib.cut (Lib.trimPrefix h.s [60,47]) [62]).2.2=true∧isNameS (Lib.cut (Lib.trimPrefix h.s [60,47]) [62]).1=true then some ((Lib.cut (Lib.trimPrefix h.s [60,47]) [62]).1,(Lib.cut (Lib.trimPrefix h.s [60,47]) [62]).2.1)else none:=rfl
 have htl:=Lib.trimPrefix_le h.s [60,47]
 simp (maxSteps:=400000) only[wF,storeA,reduceCtorEq,Nat.reduceAdd,Nat.reduceSub,Nat.reduceEqDiff,Nat.reduceLeDiff,Int.reduceToNat,Int.reduceLE,Int.reduceLT,Int.reduceAdd,Int.reduceNeg,Nat.reduceMul,S61,N61,R61,T61,a1]
 refine AInv.pureK E.cutPreB (E.cutPre _ _) fun H1 h1=>?_
 simp (maxSteps:=400000) only[wF,storeA,reduceCtorEq,Nat.reduceAdd,Nat.reduceSub,Nat.reduceEqDiff,Nat.reduceLeDiff,Int.reduceToNat,Int.reduceLE,Int.reduceLT,Int.reduceAdd,Int.reduceNeg,Nat.reduceMul,T61]
 generalize Lib.trimPrefix h.s [60,47]=u at hE htl ⊢
 refine AInv.pureK E.cutB (E.cut _ _ (by omega)) fun H2 h2=>?_
 have h12:=h1.trans h2
 have hcl:=cut_len u [62]
 generalize Lib.cut u [62]=x at hE hcl ⊢
 obtain⟨name,rest,ok⟩:=x
 simp only at hE hcl ⊢
 unfold endO
 cases hp:Lib.hasPrefix h.s [60,47]with
 | false=>
  rw[hp,if_neg (by simp)]at hE
  simp (maxSteps:=400000) only[wF,storeA,reduceCtorEq,Nat.reduceAdd,Nat.reduceSub,Nat.reduceEqDiff,Nat.reduceLeDiff,Int.reduceToNat,Int.reduceLE,Int.reduceLT,Int.reduceAdd,Int.reduceNeg,Nat.reduceMul,T61,Bool.not_false]
  rw[hE]
  exact⟨rfl,hr0.keep h12.kept⟩
 | true=>
  cases ok with
  | false=>
   rw[if_neg (by simp)]at hE
   simp (maxSteps:=400000) only[wF,storeA,reduceCtorEq,Nat.reduceAdd,Nat.reduceSub,Nat.reduceEqDiff,Nat.reduceLeDiff,Int.reduceToNat,Int.reduceLE,Int.reduceLT,Int.reduceAdd,Int.reduceNeg,Nat.reduceMul,T61,Bool.not_false,Bool.not_true]
   rw[hE]
   exact⟨rfl,hr0.keep h12.kept⟩
  | true=>
   simp (maxSteps:=400000) only[wF,storeA,reduceCtorEq,Nat.reduceAdd,Nat.reduceSub,Nat.reduceEqDiff,Nat.reduceLeDiff,Int.reduceToNat,Int.reduceLE,Int.reduceLT,Int.reduceAdd,Int.reduceNeg,Nat.reduceMul,T61,Bool.not_true]
   refine AInv.pureK B80 (isName_ok E (by omega)) fun H3 h3=>?_
   have h13:=h12.trans h3
   cases hnm:isNameS name with
   | false=>
    rw[hnm,if_neg (by simp)]at hE
    simp (maxSteps:=400000) only[wF,storeA,reduceCtorEq,Nat.reduceAdd,Nat.reduceSub,Nat.reduceEqDiff,Nat.reduceLeDiff,Int.reduceToNat,Int.reduceLE,Int.reduceLT,Int.reduceAdd,Int.reduceNeg,Nat.reduceMul,T61,Bool.not_false]
    rw[hE]
    exact⟨rfl,hr0.keep h13.kept⟩
   | true=>
    rw[hp,hnm,if_pos ⟨rfl,rfl,rfl⟩]at hE
    rw[hE]
    simp only
    have c1:=(congrFun h13.2 _).trans a1
    have c3:=(congrFun h13.2 _).trans a3
    rcases List.eq_nil_or_concat h.opens with ho0 | ⟨init,last,ho1⟩
    ·have e0:IntKind.i64.wrap (((h.opens.length:Nat):Int)-1) = -1:=by rw[ho0];first | done | rfl
     have d0:decide ((-1:Int)<0)=true:=rfl
     rw[if_neg (by rw[ho0];simp)]
     simp (maxSteps:=400000) only[wF,storeA,reduceCtorEq,Nat.reduceAdd,Nat.reduceSub,Nat.reduceEqDiff,Nat.reduceLeDiff,Int.reduceToNat,Int.reduceLE,Int.reduceLT,Int.reduceAdd,Int.reduceNeg,Nat.reduceMul,T61,Bool.not_true,c1,e0,d0,buildA,fillA,ifaceA,AV.boxable]
     have:=h13.kept
     exact⟨rfl,this.1,fun j hj _ _ _=>this.2 j hj⟩
    ·rw[List.concat_eq_append]at ho1
     have hol:h.opens.length=init.length+1:=by rw[ho1];simp
     have e0:IntKind.i64.wrap (((h.opens.length:Nat):Int)-1)=(init.length:Int):=by rw[hol,wrap64]<;>omega
     have d0:decide ((init.length:Int)<0)=false:=by simp
     have q0:((0:Int)≤(init.length:Int))=True:=by simp
     have q1:((init.length:Int)<((h.opens.length:Nat):Int))=True:=by simp;omega
     have q2:((init.length:Int)≤((h.opens.length:Nat):Int))=True:=by simp;omega
     have hgl:(strsH h.opens)[init.length]?=some (.str last):=by rw[ho1];simp[strsH]
     cases hnx:(last==name)with
     | false=>
      have hg:¬h.opens.getLast?=some name:=by rw[ho1];simp at hnx ⊢;exact hnx
      rw[if_neg hg]
      simp (maxSteps:=400000) only[wF,storeA,reduceCtorEq,Nat.reduceAdd,Nat.reduceSub,Nat.reduceEqDiff,Nat.reduceLeDiff,Int.reduceToNat,Int.reduceLE,Int.reduceLT,Int.reduceAdd,Int.reduceNeg,Nat.reduceMul,T61,Bool.not_true,c1,c3,e0,d0,q0,q1,hgl,hnx,indexAddrA,Nat.mul_one,Bool.not_false,buildA,fillA,ifaceA,AV.boxable]
      have:=h13.kept
      exact⟨rfl,this.1,fun j hj _ _ _=>this.2 j hj⟩
     | true=>
      have hg:h.opens.getLast?=some name:=by rw[ho1];simp at hnx ⊢;exact hnx
      rw[if_pos hg]
      simp (maxSteps:=400000) only[wF,storeA,reduceCtorEq,Nat.reduceAdd,Nat.reduceSub,Nat.reduceEqDiff,Nat.reduceLeDiff,Int.reduceToNat,Int.reduceLE,Int.reduceLT,Int.reduceAdd,Int.reduceNeg,Nat.reduceMul,T61,Bool.not_true,c1,c3,e0,d0,q0,q1,q2,hgl,hnx,indexAddrA,Nat.mul_one,sliceA,boundA,AV.boxable,h_set_set]
      have m13:=h13.1
      generalize hX:AHeap.set H3 rid _=X
      have xn:X.next=H3.next:=by rw[←hX];rfl
      have xx:X.get rid=some (.cells 57 [.str rest,.slc kl h.l.length,.slc ko init.length]):=by rw[←hX,AHeap.get_set_same]
      have xo:∀j,j≠rid→X.get j=H3.get j:=fun j hj=>by rw[←hX,AHeap.get_set_ne _ _ hj]
      clear hX
      obtain⟨H4,hw,w1,w2,w3,w4⟩:=Weak.popRdr G xx ((xo _ (by omega)).trans c3) (k:=init.length) (by rw[strsH_len];omega) (by omega) (by omega) [.ptr rid 0,.int .i64 (1:Nat),.str name,.str []]
      have hdl:h.opens.dropLast=init:=by rw[ho1];simp
      have r4:RdrAt H4 rid kl X.next { s:=rest,l:=h.l,opens:=init }:=by
       refine⟨w1,?_,?_,a4,by omega,by omega,by omega,by omega,by omega⟩
       ·rw[w4 _ (by omega) (by omega) a6,xo _ (by omega),h13.2];exact a2
       ·rw[w2,ho1]
        simp[strsH]
      have k4:HKeep H rid kl ko H4 kl X.next:=⟨by omega,.inl rfl,.inr (by omega),fun j j1 j2 j3 j4=>by rw[w4 j (by omega) j2 j4,xo j j2,h13.2]⟩
      refine AInv.call B94 (ACalls.weak hw (h_add_ok G r4 hl)) fun r5 H5 h5=>?_
      obtain⟨⟨_,rfl⟩,kl',r5,k5⟩:=h5
      simp (maxSteps:=400000) only[wF,storeA,reduceCtorEq,Nat.reduceAdd,Nat.reduceSub,Nat.reduceEqDiff,Nat.reduceLeDiff,Int.reduceToNat,Int.reduceLE,Int.reduceLT,Int.reduceAdd,Int.reduceNeg,Nat.reduceMul,T61]
      rw[hdl]
      exact⟨rfl,kl',X.next,r5,k4.trans k5⟩
def commentO (h:HSt):Except Nat (Option HSt):=
 match commentHS h.s with
 | none => .ok none
 | some (text,rest) => .ok (some (h.add 3 [] text rest))
set_option maxHeartbeats 4000000 in
set_option maxRecDepth 100000 in
theorem h_comment_ok {G:Nat→Option (List AV)} (E:Env G) {H:AHeap} {rid kl ko:Nat} {h:HSt} (hr:RdrAt H rid kl ko h) (hs:h.s.length≤900000000) (hl:h.l.length<100000000) :
  ACalls Tryz.prog G 62 [.ptr rid 0] H (RdPost h H rid kl ko (commentO h)):=by
 refine ACalls.of Tryz.func62 S62_eq R62 N62 rfl rfl ?_
 have hr0:=hr
 obtain⟨a1,a2,a3,a4,a5,a6,a7,a8,a9⟩:=hr
 have hE:commentHS h.s=if Lib.hasPrefix h.s sCom=true∧(Lib.cut (Lib.trimPrefix h.s sCom) sDash).2.2=true∧Lib.hasPrefix (Lib.cut (Lib.trimPrefix h.s sCom) sDash).2.1 [62]=true then some ((Lib.cut (Lib.trimPrefix h.s sCom) sDash).1,(Lib.cut (Lib.trimPrefix h.s sCom) sDash).2.1.drop 1)else none:=rfl
 have htl:=Lib.trimPrefix_le h.s sCom
 unfold sCom sDash at hE
 unfold sCom at htl
 simp (maxSteps:=400000) only[wF,storeA,reduceCtorEq,Nat.reduceAdd,Nat.reduceSub,Nat.reduceEqDiff,Nat.reduceLeDiff,Int.reduceToNat,Int.reduceLE,Int.reduceLT,Int.reduceAdd,Int.reduceNeg,Nat.reduceMul,S62,N62,R62,T62,a1]
 refine AInv.pureK E.cutPreB (E.cutPre _ _) fun H1 h1=>?_
 simp (maxSteps:=400000) only[wF,storeA,reduceCtorEq,Nat.reduceAdd,Nat.reduceSub,Nat.reduceEqDiff,Nat.reduceLeDiff,Int.reduceToNat,Int.reduceLE,Int.reduceLT,Int.reduceAdd,Int.reduceNeg,Nat.reduceMul,T62]
 generalize Lib.trimPrefix h.s [60,33,45,45]=u at hE htl ⊢
 refine AInv.pureK E.cutB (E.cut _ _ (by omega)) fun H2 h2=>?_
 have h12:=h1.trans h2
 generalize Lib.cut u [45,45]=x at hE ⊢
 obtain⟨text,rest,ok⟩:=x
 simp only at hE ⊢
 unfold commentO
 cases hp:Lib.hasPrefix h.s [60,33,45,45]with
 | false=>
  rw[hp,if_neg (by simp)]at hE
  simp (maxSteps:=400000) only[wF,storeA,reduceCtorEq,Nat.reduceAdd,Nat.reduceSub,Nat.reduceEqDiff,Nat.reduceLeDiff,Int.reduceToNat,Int.reduceLE,Int.reduceLT,Int.reduceAdd,Int.reduceNeg,Nat.reduceMul,T62,Bool.not_false]
  rw[hE]
  exact⟨rfl,hr0.keep h12.kept⟩
 | true=>
  cases ok with
  | false=>
   rw[if_neg (by simp)]at hE
   simp (maxSteps:=400000) only[wF,storeA,reduceCtorEq,Nat.reduceAdd,Nat.reduceSub,Nat.reduceEqDiff,Nat.reduceLeDiff,Int.reduceToNat,Int.reduceLE,Int.reduceLT,Int.reduceAdd,Int.reduceNeg,Nat.reduceMul,T62,Bool.not_false,Bool.not_true]
   rw[hE]
   exact⟨rfl,hr0.keep h12.kept⟩
  | true=>
   simp (maxSteps:=400000) only[wF,storeA,reduceCtorEq,Nat.reduceAdd,Nat.reduceSub,Nat.reduceEqDiff,Nat.reduceLeDiff,Int.reduceToNat,Int.reduceLE,Int.reduceLT,Int.reduceAdd,Int.reduceNeg,Nat.reduceMul,T62,Bool.not_true]
   refine AInv.pureK E.hasPreB (E.hasPre _ _) fun H3 h3=>?_
   have h13:=h12.trans h3
   cases hg:Lib.hasPrefix rest [62]with
   | false=>
    rw[hg,if_neg (by simp)]at hE
    simp (maxSteps:=400000) only[wF,storeA,reduceCtorEq,Nat.reduceAdd,Nat.reduceSub,Nat.reduceEqDiff,Nat.reduceLeDiff,Int.reduceToNat,Int.reduceLE,Int.reduceLT,Int.reduceAdd,Int.reduceNeg,Nat.reduceMul,T62,Bool.not_false]
    rw[hE]
    exact⟨rfl,hr0.keep h13.kept⟩
   | true=>
    rw[hp,hg,if_pos ⟨rfl,rfl,rfl⟩]at hE
    have hgl:=hasPrefix_len hg
    simp only[List.length_cons,List.length_nil]at hgl
    have v2:((1:Int)≤(rest.length:Int))=True:=by simp;omega
    simp (maxSteps:=400000) only[wF,storeA,reduceCtorEq,Nat.reduceAdd,Nat.reduceSub,Nat.reduceEqDiff,Nat.reduceLeDiff,Int.reduceToNat,Int.reduceLE,Int.reduceLT,Int.reduceAdd,Int.reduceNeg,Nat.reduceMul,T62,Bool.not_true]
    obtain⟨r3,k3⟩:=hr0.keep h13.kept
    refine AInv.call B94 (h_add_ok G r3 hl) fun r4 H4 h4=>?_
    obtain⟨⟨_,rfl⟩,kl',r4,k4⟩:=h4
    obtain⟨r5,k5⟩:=r4.setS (rest.drop 1)
    obtain⟨e1,-⟩:=r4
    simp (maxSteps:=400000) only[wF,storeA,reduceCtorEq,Nat.reduceAdd,Nat.reduceSub,Nat.reduceEqDiff,Nat.reduceLeDiff,Int.reduceToNat,Int.reduceLE,Int.reduceLT,Int.reduceAdd,Int.reduceNeg,Nat.reduceMul,T62,e1,v2,AV.boxable]
    rw[hE]
    exact⟨rfl,kl',ko,r5,(k3.trans k4).trans k5⟩
def instrO (h:HSt):Except Nat (Option HSt):=
 match instrHS h.s with
 | none => .ok none
 | some (name,text,rest) => .ok (some (h.add 4 name text rest))
set_option maxHeartbeats 4000000 in
set_option maxRecDepth 100000 in
theorem h_instruction_ok {G:Nat→Option (List AV)} (E:Env G) {H:AHeap} {rid kl ko:Nat} {h:HSt} (hr:RdrAt H rid kl ko h) (hs:h.s.length≤900000000) (hl:h.l.length<100000000) :
  ACalls Tryz.prog G 63 [.ptr rid 0] H (RdPost h H rid kl ko (instrO h)):=by
 refine ACalls.of Tryz.func63 S63_eq R63 N63 rfl rfl ?_
 have hr0:=hr
 obtain⟨a1,a2,a3,a4,a5,a6,a7,a8,a9⟩:=hr
 have hE:instrHS h.s=if Lib.hasPrefix h.s [60,63]=true∧(Lib.cut (Lib.trimPrefix h.s [60,63]) [62]).2.2=true∧isNameS (Lib.cut (Lib.cut (Lib.trimPrefix h.s [60,63]) [62]).1 [32]).1=true∧lowS (Lib.cut (Lib.cut (Lib.trimPrefix h.s [60,63]) [62]).1 [32]).1≠[120,109,108]∧¬((Lib.cut (Lib.cut (Lib.trimPrefix h.s [60,63]) [62]).1 [32]).2.2=true∧((Lib.cut (Lib.cut (Lib.trimPrefix h.s [60,63]) [62]).1 [32]).2.1=[]∨0≤Lib.indexByte [32,9,10,13] ((Lib.cut (Lib.cut (Lib.trimPrefix h.s [60,63]) [62]).1 [32]).2.1.getD 0 0)))then some ((Lib.cut (Lib.cut (Lib.trimPrefix h.s [60,63]) [62]).1 [32]).1,(Lib.cut (Lib.cut (Lib.trimPrefix h.s [60,63]) [62]).1 [32]).2.1,(Lib.cut (Lib.trimPrefix h.s [60,63]) [62]).2.1)else none:=rfl
 have htl:=Lib.trimPrefix_le h.s [60,63]
 simp (maxSteps:=400000) only[wF,storeA,reduceCtorEq,Nat.reduceAdd,Nat.reduceSub,Nat.reduceEqDiff,Nat.reduceLeDiff,Int.reduceToNat,Int.reduceLE,Int.reduceLT,Int.reduceAdd,Int.reduceNeg,Nat.reduceMul,S63,N63,R63,T63,a1]
 refine AInv.pureK E.cutPreB (E.cutPre _ _) fun H1 h1=>?_
 simp (maxSteps:=400000) only[wF,storeA,reduceCtorEq,Nat.reduceAdd,Nat.reduceSub,Nat.reduceEqDiff,Nat.reduceLeDiff,Int.reduceToNat,Int.reduceLE,Int.reduceLT,Int.reduceAdd,Int.reduceNeg,Nat.reduceMul,T63]
 generalize Lib.trimPrefix h.s [60,63]=u at hE htl ⊢
 refine AInv.pureK E.cutB (E.cut _ _ (by omega)) fun H2 h2=>?_
 have hcl:=cut_len u [62]
 generalize Lib.cut u [62]=x at hE hcl ⊢
 obtain⟨ins,rest,ok⟩:=x
 simp only at hE hcl ⊢
 simp (maxSteps:=400000) only[wF,storeA,reduceCtorEq,Nat.reduceAdd,Nat.reduceSub,Nat.reduceEqDiff,Nat.reduceLeDiff,Int.reduceToNat,Int.reduceLE,Int.reduceLT,Int.reduceAdd,Int.reduceNeg,Nat.reduceMul,T63]
 refine AInv.pureK E.cutB (E.cut _ _ (by omega)) fun H3 h3=>?_
 have h13:=(h1.trans h2).trans h3
 have hcl2:=cut_len ins [32]
 generalize Lib.cut ins [32]=y at hE hcl2 ⊢
 obtain⟨name,text,has⟩:=y
 simp only at hE hcl2 ⊢
 unfold instrO
 cases hp:Lib.hasPrefix h.s [60,63]with
 | false=>
  rw[hp,if_neg (by simp)]at hE
  simp (maxSteps:=400000) only[wF,storeA,reduceCtorEq,Nat.reduceAdd,Nat.reduceSub,Nat.reduceEqDiff,Nat.reduceLeDiff,Int.reduceToNat,Int.reduceLE,Int.reduceLT,Int.reduceAdd,Int.reduceNeg,Nat.reduceMul,T63,Bool.not_false]
  rw[hE]
  exact⟨rfl,hr0.keep h13.kept⟩
 | true=>
  cases ok with
  | false=>
   rw[if_neg (by simp)]at hE
   simp (maxSteps:=400000) only[wF,storeA,reduceCtorEq,Nat.reduceAdd,Nat.reduceSub,Nat.reduceEqDiff,Nat.reduceLeDiff,Int.reduceToNat,Int.reduceLE,Int.reduceLT,Int.reduceAdd,Int.reduceNeg,Nat.reduceMul,T63,Bool.not_false,Bool.not_true]
   rw[hE]
   exact⟨rfl,hr0.keep h13.kept⟩
  | true=>
   simp (maxSteps:=400000) only[wF,storeA,reduceCtorEq,Nat.reduceAdd,Nat.reduceSub,Nat.reduceEqDiff,Nat.reduceLeDiff,Int.reduceToNat,Int.reduceLE,Int.reduceLT,Int.reduceAdd,Int.reduceNeg,Nat.reduceMul,T63,Bool.not_true]
   refine AInv.pureK B80 (isName_ok E (by omega)) fun H4 h4=>?_
   have h14:=h13.trans h4
   cases hnm:isNameS name with
   | false=>
    rw[hnm,if_neg (by simp)]at hE
    simp (maxSteps:=400000) only[wF,storeA,reduceCtorEq,Nat.reduceAdd,Nat.reduceSub,Nat.reduceEqDiff,Nat.reduceLeDiff,Int.reduceToNat,Int.reduceLE,Int.reduceLT,Int.reduceAdd,Int.reduceNeg,Nat.reduceMul,T63,Bool.not_false]
    rw[hE]
    exact⟨rfl,hr0.keep h14.kept⟩
   | true=>
    simp (maxSteps:=400000) only[wF,storeA,reduceCtorEq,Nat.reduceAdd,Nat.reduceSub,Nat.reduceEqDiff,Nat.reduceLeDiff,Int.reduceToNat,Int.reduceLE,Int.reduceLT,Int.reduceAdd,Int.reduceNeg,Nat.reduceMul,T63,Bool.not_true]
    refine AInv.pureK B98 (h_lower_ok G (by omega)) fun H5 h5=>?_
    have h15:=h14.trans h5
    cases hx:(lowS name==[120,109,108])with
    | true=>
     rw[if_neg (by simp at hx;simp[hx])]at hE
     simp (maxSteps:=400000) only[wF,storeA,reduceCtorEq,Nat.reduceAdd,Nat.reduceSub,Nat.reduceEqDiff,Nat.reduceLeDiff,Int.reduceToNat,Int.reduceLE,Int.reduceLT,Int.reduceAdd,Int.reduceNeg,Nat.reduceMul,T63,hx]
     rw[hE]
     exact⟨rfl,hr0.keep h15.kept⟩
    | false=>
     have hx2:lowS name≠[120,109,108]:=by simpa using hx
     have good:∀(H6:AHeap),Keeps H H6→instrHS h.s=some (name,text,rest)→True:=fun _ _ _=>trivial
     rw[hp,hnm]at hE
     cases has with
     | false=>
      rw[if_pos ⟨rfl,rfl,rfl,hx2,by simp⟩]at hE
      simp (maxSteps:=400000) only[wF,storeA,reduceCtorEq,Nat.reduceAdd,Nat.reduceSub,Nat.reduceEqDiff,Nat.reduceLeDiff,Int.reduceToNat,Int.reduceLE,Int.reduceLT,Int.reduceAdd,Int.reduceNeg,Nat.reduceMul,T63,hx]
      obtain⟨r3,k3⟩:=hr0.keep h15.kept
      refine AInv.call B94 (h_add_ok G r3 hl) fun r4 H4 h4=>?_
      obtain⟨⟨_,rfl⟩,kl',r4,k4⟩:=h4
      obtain⟨r5,k5⟩:=r4.setS rest
      obtain⟨e1,-⟩:=r4
      simp (maxSteps:=400000) only[wF,storeA,reduceCtorEq,Nat.reduceAdd,Nat.reduceSub,Nat.reduceEqDiff,Nat.reduceLeDiff,Int.reduceToNat,Int.reduceLE,Int.reduceLT,Int.reduceAdd,Int.reduceNeg,Nat.reduceMul,T63,e1,AV.boxable]
      rw[hE]
      exact⟨rfl,kl',ko,r5,(k3.trans k4).trans k5⟩
     | true=>
      cases text with
      | nil=>
       rw[if_neg (by simp)]at hE
       have z:(([]:List UInt8)==[])=true:=rfl
       simp (maxSteps:=400000) only[wF,storeA,reduceCtorEq,Nat.reduceAdd,Nat.reduceSub,Nat.reduceEqDiff,Nat.reduceLeDiff,Int.reduceToNat,Int.reduceLE,Int.reduceLT,Int.reduceAdd,Int.reduceNeg,Nat.reduceMul,T63,hx,z]
       rw[hE]
       exact⟨rfl,hr0.keep h15.kept⟩
      | cons c tx=>
       have z:((c::tx)==([]:List UInt8))=false:=rfl
       have hg:(c::tx)[0]?=some c:=rfl
       simp (maxSteps:=400000) only[wF,storeA,reduceCtorEq,Nat.reduceAdd,Nat.reduceSub,Nat.reduceEqDiff,Nat.reduceLeDiff,Int.reduceToNat,Int.reduceLE,Int.reduceLT,Int.reduceAdd,Int.reduceNeg,Nat.reduceMul,T63,hx,z,hg]
       refine AInv.pureK E.indexByteB (E.indexByte _ _) fun H6 h6=>?_
       have h16:=h15.trans h6
       have hgd:(c::tx).getD 0 0=c:=rfl
       rw[hgd]at hE
       by_cases hib:0≤Lib.indexByte [32,9,10,13] c
       ·have d1:decide (Lib.indexByte [32,9,10,13] c≥0)=true:=by simpa using hib
        rw[if_neg (by simp[hib])]at hE
        simp (maxSteps:=400000) only[wF,storeA,reduceCtorEq,Nat.reduceAdd,Nat.reduceSub,Nat.reduceEqDiff,Nat.reduceLeDiff,Int.reduceToNat,Int.reduceLE,Int.reduceLT,Int.reduceAdd,Int.reduceNeg,Nat.reduceMul,T63,d1]
        rw[hE]
        exact⟨rfl,hr0.keep h16.kept⟩
       ·have d1:decide (Lib.indexByte [32,9,10,13] c≥0)=false:=by simpa using hib
        rw[if_pos ⟨rfl,rfl,rfl,hx2,by simp[hib]⟩]at hE
        simp (maxSteps:=400000) only[wF,storeA,reduceCtorEq,Nat.reduceAdd,Nat.reduceSub,Nat.reduceEqDiff,Nat.reduceLeDiff,Int.reduceToNat,Int.reduceLE,Int.reduceLT,Int.reduceAdd,Int.reduceNeg,Nat.reduceMul,T63,d1]
        obtain⟨r3,k3⟩:=hr0.keep h16.kept
        refine AInv.call B94 (h_add_ok G r3 hl) fun r4 H4 h4=>?_
        obtain⟨⟨_,rfl⟩,kl',r4,k4⟩:=h4
        obtain⟨r5,k5⟩:=r4.setS rest
        obtain⟨e1,-⟩:=r4
        simp (maxSteps:=400000) only[wF,storeA,reduceCtorEq,Nat.reduceAdd,Nat.reduceSub,Nat.reduceEqDiff,Nat.reduceLeDiff,Int.reduceToNat,Int.reduceLE,Int.reduceLT,Int.reduceAdd,Int.reduceNeg,Nat.reduceMul,T63,e1,AV.boxable]
        rw[hE]
        exact⟨rfl,kl',ko,r5,(k3.trans k4).trans k5⟩
end Go.Ab
