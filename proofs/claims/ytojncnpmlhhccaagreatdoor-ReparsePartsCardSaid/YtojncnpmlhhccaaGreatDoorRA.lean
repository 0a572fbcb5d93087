/- The reference's small functions, walked. The reference's find, blanks, Ends, Place: walked. The reference's Ends and next: walked. The reference's decoder is Go's, on characters of texts. Texts and names of the reference: walked, and that they are the program's. Names of the reference are the program's: the plain law; and what a text is, in parts. -/
import Derived.Test.YtojncnpmlhhccaaGreatDoorWD
import Derived.Test.YtojncnpmlhhccaaGreatDoorCodes5
import Derived.Test.YtojncnpmlhhccaaGreatDoorWC
set_option linter.all false
namespace Go.Ab
open Go Go.Lib Go.Proofs
theorem r_isChar_ok (G:Nat→Option (List AV)) (c:Int):PureCall Tryz.prog G 103 [.int .i64 c] (.bool (isCharS c)):=by
 intro H
 refine ACalls.keep (ACalls.of Tryz.func103 S103_eq R103 N103 rfl rfl ?_)
 have h:c<9∨c=9∨c=10∨c=13∨(c=11∨c=12∨(13<c∧c<32))∨(32≤c∧c≤55295)∨(55295<c∧c<57344)∨(57344≤c∧c≤65533)∨(65533<c∧c<65536)∨(65536≤c∧c≤1114111)∨1114111<c:=by omega
 rcases h with h | h | h | h | h | h | h | h | h | h | h<;>
  simp (maxSteps:=400000) (disch:=omega) only[dT,dF,eT,eF,nT,nF,wE,stepW,footA,makesA,ptrId,pairsOk,footApart,opS,opA,ev,putA,setC,ofConst,ofFlat,List.replicate,List.set,binA,intA,strA,unA,extractA,nilCheckA,bodyA,resultsA,oneOrTup,builtinA,lenA,indexA,minA,loadA,partA,storeA,setCells,fieldA,ptrAdd,AV.cellsOf,AV.one,reduceCtorEq,Nat.reduceAdd,Nat.reduceSub,Nat.reduceEqDiff,Nat.reduceLeDiff,Array.toList,Int.reduceToNat,Int.reduceLE,Int.reduceLT,Int.reduceAdd,Int.reduceNeg,Nat.reduceMul,S103,N103,R103,T103,isCharS,Bool.or_true,Bool.or_false,Bool.true_or,Bool.false_or,Bool.and_false,Bool.false_and]<;>
  simp
theorem r_letter_ok (G:Nat→Option (List AV)) (c:Int):PureCall Tryz.prog G 138 [.int .i64 c] (.bool (isLetterS c)):=by
 intro H
 refine ACalls.keep (ACalls.of Tryz.func138 S138_eq R138 N138 rfl rfl ?_)
 have h:c<65∨(65≤c∧c≤90)∨(90<c∧c<95)∨c=95∨c=96∨(97≤c∧c≤122)∨(122<c∧c<192)∨c=215∨c=247∨(192≤c∧¬c=215∧¬c=247):=by omega
 rcases h with h | h | h | h | h | h | h | h | h | h<;>
  simp (maxSteps:=400000) (disch:=omega) only[dT,dF,eT,eF,nT,nF,wE,stepW,footA,makesA,ptrId,pairsOk,footApart,opS,opA,ev,putA,setC,ofConst,ofFlat,List.replicate,List.set,binA,intA,strA,unA,extractA,nilCheckA,bodyA,resultsA,oneOrTup,builtinA,lenA,indexA,minA,loadA,partA,storeA,setCells,fieldA,ptrAdd,AV.cellsOf,AV.one,reduceCtorEq,Nat.reduceAdd,Nat.reduceSub,Nat.reduceEqDiff,Nat.reduceLeDiff,Array.toList,Int.reduceToNat,Int.reduceLE,Int.reduceLT,Int.reduceAdd,Int.reduceNeg,Nat.reduceMul,S138,N138,R138,T138,isLetterS,Bool.or_true,Bool.or_false,Bool.true_or,Bool.false_or,Bool.and_false,Bool.false_and]<;>
  simp
theorem r_letterB:bodyT Tryz.prog 138=true:=B138
theorem r_inName_ok (G:Nat→Option (List AV)) (c:Int):PureCall Tryz.prog G 139 [.int .i64 c] (.bool (partChar false c)):=by
 intro H
 refine ACalls.keep (ACalls.of Tryz.func139 S139_eq R139 N139 rfl rfl ?_)
 simp (maxSteps:=400000) only[wF,storeA,reduceCtorEq,Nat.reduceAdd,Nat.reduceSub,Nat.reduceEqDiff,Nat.reduceLeDiff,Int.reduceToNat,Int.reduceLE,Int.reduceLT,Int.reduceAdd,Int.reduceNeg,Nat.reduceMul,S139,N139,R139,T139]
 refine AInv.pureK B138 (r_letter_ok G c) fun H1 h1=>?_
 cases hl:isLetterS c with
 | true=>
  simp (maxSteps:=400000) only[wF,storeA,reduceCtorEq,Nat.reduceAdd,Nat.reduceSub,Nat.reduceEqDiff,Nat.reduceLeDiff,Int.reduceToNat,Int.reduceLE,Int.reduceLT,Int.reduceAdd,Int.reduceNeg,Nat.reduceMul,T139]
  exact⟨by simp[partChar,hl],h1.post⟩
 | false=>
  have h:c<45∨c=45∨c=46∨c=47∨(48≤c∧c≤57)∨(57<c∧c<183)∨c=183∨183<c:=by omega
  rcases h with h | h | h | h | h | h | h | h<;>
   simp (maxSteps:=400000) (disch:=omega) only[dT,dF,eT,eF,nT,nF,wE,stepW,footA,makesA,ptrId,pairsOk,footApart,opS,opA,ev,putA,setC,ofConst,ofFlat,List.replicate,List.set,binA,intA,strA,unA,extractA,nilCheckA,bodyA,resultsA,oneOrTup,builtinA,lenA,indexA,minA,loadA,partA,storeA,setCells,fieldA,ptrAdd,AV.cellsOf,AV.one,reduceCtorEq,Nat.reduceAdd,Nat.reduceSub,Nat.reduceEqDiff,Nat.reduceLeDiff,Array.toList,Int.reduceToNat,Int.reduceLE,Int.reduceLT,Int.reduceAdd,Int.reduceNeg,Nat.reduceMul,T139]<;>
   exact⟨by simp (disch:=omega) [partChar,hl,dT,dF,eT,eF]<;>omega,h1.post⟩
def digR (c:UInt8):Nat:=
 if 48≤c.toNat∧c.toNat≤57 then c.toNat-48 else if 97≤c.toNat∧c.toNat≤102 then c.toNat-87 else if 65≤c.toNat∧c.toNat≤70 then c.toNat-55 else 99
theorem r_digit_ok (G:Nat→Option (List AV)) (c:UInt8):PureCall Tryz.prog G 160 [.int .u8 c.toNat] (.int .i64 (digR c)):=by
 intro H
 refine ACalls.keep (ACalls.of Tryz.func160 S160_eq R160 N160 rfl rfl ?_)
 have h255:=c.toNat_lt
 unfold digR
 generalize c.toNat=n at h255
 have h:n<48∨(48≤n∧n≤57)∨(57<n∧n<65)∨(65≤n∧n≤70)∨(70<n∧n<97)∨(97≤n∧n≤102)∨102<n:=by omega
 rcases h with h | h | h | h | h | h | h<;>
  simp (maxSteps:=400000) (disch:=omega) only[dT,dF,eT,eF,nT,nF,wE,stepW,footA,makesA,ptrId,pairsOk,footApart,opS,opA,ev,putA,setC,ofConst,ofFlat,List.replicate,List.set,binA,intA,strA,unA,extractA,nilCheckA,bodyA,resultsA,oneOrTup,builtinA,lenA,indexA,minA,loadA,partA,storeA,setCells,fieldA,ptrAdd,AV.cellsOf,AV.one,reduceCtorEq,Nat.reduceAdd,Nat.reduceSub,Nat.reduceEqDiff,Nat.reduceLeDiff,Array.toList,Int.reduceToNat,Int.reduceLE,Int.reduceLT,Int.reduceAdd,Int.reduceNeg,Nat.reduceMul,S160,N160,R160,T160,convA,wrapu8,wrap64]<;>
  (simp;repeat' split)<;>omega
theorem r_begins_ok (G:Nat→Option (List AV)) {s t:List UInt8} {i:Nat} (hi:i≤s.length) (hs:s.length≤1000000000) (ht:t.length≤1000000000):PureCall Tryz.prog G 159 [.str s,.int .i64 i,.str t] (.bool (Lib.hasPrefix (s.drop i) t)):=by
 intro H
 refine ACalls.keep (ACalls.of Tryz.func159 S159_eq R159 N159 rfl rfl ?_)
 have e1:IntKind.i64.wrap ((i:Int)+(t.length:Int))=((i+t.length:Nat):Int):=by rw[wrap64]<;>omega
 by_cases h:i+t.length≤s.length
 ·have d1:decide (((i+t.length:Nat):Int)≤(s.length:Int))=true:=by simp;omega
  have q1:((i:Int)≤((i+t.length:Nat):Int))=True:=by simp;omega
  have q2:(((i+t.length:Nat):Int)≤(s.length:Int))=True:=by simp;omega
  have hp:Lib.hasPrefix (s.drop i) t=((s.take (i+t.length)).drop i==t):=by
   unfold Lib.hasPrefix
   rw[Bool.eq_iff_iff,List.isPrefixOf_iff_prefix,beq_iff_eq,List.prefix_iff_eq_take,List.drop_take,Nat.add_sub_cancel_left]
   exact eq_comm
  simp (maxSteps:=400000) only[wF,storeA,reduceCtorEq,Nat.reduceAdd,Nat.reduceSub,Nat.reduceEqDiff,Nat.reduceLeDiff,Int.reduceToNat,Int.reduceLE,Int.reduceLT,Int.reduceAdd,Int.reduceNeg,Nat.reduceMul,S159,N159,R159,T159,e1,d1,q1,q2]
  exact⟨by rw[hp],Nat.le_refl _,fun _ _=>trivial⟩
 ·have d1:decide (((i+t.length:Nat):Int)≤(s.length:Int))=false:=by simp;omega
  have hp:Lib.hasPrefix (s.drop i) t=false:=by
   cases hh:Lib.hasPrefix (s.drop i) t with
   | false=>rfl
   | true=>
    have:=hasPrefix_len hh
    simp only[List.length_drop]at this
    omega
  simp (maxSteps:=400000) only[wF,storeA,reduceCtorEq,Nat.reduceAdd,Nat.reduceSub,Nat.reduceEqDiff,Nat.reduceLeDiff,Int.reduceToNat,Int.reduceLE,Int.reduceLT,Int.reduceAdd,Int.reduceNeg,Nat.reduceMul,S159,N159,R159,T159,e1,d1]
  exact⟨by rw[hp],Nat.le_refl _,fun _ _=>trivial⟩
end Go.Ab
namespace Go.Ab
open Go Go.Lib Go.Proofs
def findR (s:List UInt8) (i:Nat) (t:List UInt8):Int:=if Lib.index (s.drop i) t<0 then -1 else(i:Int)+Lib.index (s.drop i) t
theorem findR_hit {s t:List UInt8} {k:Nat} (h:Lib.hasPrefix (s.drop k) t=true) (ht:1≤t.length):findR s k t=(k:Int):=by
 have hi:Lib.index (s.drop k) t=0:=by
  cases hd:s.drop k with
  | nil=>
   rw[hd]at h
   have:=hasPrefix_len h
   simp only[List.length_nil]at this
   omega
  | cons b l=>
   rw[hd]at h
   unfold Lib.hasPrefix at h
   simp[Lib.index,h]
 unfold findR
 rw[hi]
 simp
theorem findR_miss {s t:List UInt8} {k:Nat} (hk:k<s.length) (h:Lib.hasPrefix (s.drop k) t=false):findR s k t=findR s (k+1) t:=by
 unfold Lib.hasPrefix at h
 have hd:=List.drop_eq_getElem_cons hk
 rw[hd]at h
 unfold findR
 rw[hd]
 have hge:=Lib.index_ge (s.drop (k+1)) t
 simp only[Lib.index,h,Bool.false_eq_true,if_false,beq_iff_eq]
 by_cases h1:Lib.index (s.drop (k+1)) t = -1
 ·rw[if_pos h1,h1]
  rfl
 ·rw[if_neg h1,if_neg (by omega),if_neg (by omega)]
  omega
theorem findR_short {s t:List UInt8} {k:Nat} (h:s.length<k+t.length) (ht:1≤t.length):findR s k t = -1:=by
 have hge:=Lib.index_ge (s.drop k) t
 unfold findR
 rw[if_pos]
 have:Lib.index (s.drop k) t = -1:=by
  rcases Nat.lt_or_ge 0 1 with _ | _
  ·by_cases hm:Lib.index (s.drop k) t = -1
   ·exact hm
   ·have:=Lib.index_room (s.drop k) t (by omega)
    simp only[List.length_drop]at this
    omega
  ·omega
 omega
def placeS (s:List UInt8):Nat→Nat × Nat
 | 0=>(1,1)
 | n+1=>if s.getD n 0=10 then((placeS s n).1+1,1)else if s.length≤n+1∨(s.getD (n+1) 0).toNat<128∨192≤(s.getD (n+1) 0).toNat then((placeS s n).1,(placeS s n).2+1)else placeS s n
theorem placeS_le (s:List UInt8):∀n,(placeS s n).1≤n+1∧(placeS s n).2≤n+1
 | 0=>⟨Nat.le_refl _,Nat.le_refl _⟩
 | n+1=>by
  have:=placeS_le s n
  unfold placeS
  split
  ·simp only;omega
  split
  ·simp only;omega
  ·omega
end Go.Ab
namespace Go.Ab
open Go Go.Lib Go.Proofs
theorem endsS_ne {c:UInt8} (t:List UInt8) (h:c≠13):endsS (c::t)=c::endsS t:=by
 rw[←linesS_ends,←linesS_ends,linesS_cons _ _ (by simp[List.isPrefixOf,Ne.symm h]),if_neg h]
theorem endsS_two (t:List UInt8):endsS (13::10::t)=endsS (10::t):=by
 rw[endsS_ne t (by decide)]
 rfl
theorem endsS_one {t:List UInt8} (h:t.head?≠some 10):endsS (13::t)=10::endsS t:=by
 rw[←linesS_ends,←linesS_ends,linesS_cons]
 ·rfl
 ·cases t with
  | nil=>rfl
  | cons c t=>
   have:c≠10:=by simpa using h
   simp[List.isPrefixOf,Ne.symm this]
theorem bytesOfA_bytesA (l:List UInt8):bytesOfA (bytesA l)=some l:=bytesOfA_map l
def EndsAt (s:List UInt8) (H:AHeap) (x:Nat × Nat × List UInt8 × AHeap):Prop:=
 x.1≤s.length∧x.2.2.1++endsS (s.drop x.1)=endsS s∧x.2.2.1.length≤x.1∧x.2.2.2.get x.2.1=some (.row 5 1 (bytesA x.2.2.1))∧H.next≤x.2.1∧x.2.1<x.2.2.2.next∧H.next≤x.2.2.2.next∧∀j,j<H.next→x.2.2.2.get j=H.get j
/-! The reference's decoder. -/
def contF:Nat→List UInt8→Nat→Option Nat
 | 0,_,c=>some c
 | _+1,[],_=>none
 | n+1,b::l,c=>if 128≤b.toNat∧b.toNat<192 then contF n l (c*64+(b.toNat-128))else none
def leadR (b:Nat):Option (Nat × Nat × Nat):=
 if 192≤b∧b<224 then some (2,b-192,128)else if 224≤b∧b<240 then some (3,b-224,2048)else if 240≤b∧b<248 then some (4,b-240,65536)else none
def nextR (l:List UInt8):Nat × Nat:=
 match l with
 | []=>(0,0)
 | b::t=>if b.toNat<128 then(b.toNat,1)else match leadR b.toNat with
  | none=>(0,0)
  | some (n,c,least)=>if t.length+1<n then(0,0)else match contF (n-1) t c with
   | none=>(0,0)
   | some c=>if c<least then(0,0)else(c,n)
def ContAt (s:List UInt8) (H:AHeap) (i n c0:Nat) (x:Nat × Nat × AHeap):Prop:=
 1≤x.1∧x.1≤n∧contF (n-x.1) (s.drop (i+x.1)) x.2.1=contF (n-1) (s.drop (i+1)) c0∧x.2.1<32*64 ^ (x.1-1)∧Keeps H x.2.2
set_option maxHeartbeats 4000000 in
theorem r_next_ok (G:Nat→Option (List AV)) {s:List UInt8} {i:Nat} (hi:i<s.length) (hs:s.length≤1000000000):PureCall Tryz.prog G 102 [.str s,.int .i64 i] (.tup [.int .i64 (nextR (s.drop i)).1,.int .i64 (nextR (s.drop i)).2]):=by
 intro H
 refine ACalls.keep (ACalls.of Tryz.func102 S102_eq R102 N102 rfl rfl ?_)
 have hd:=List.drop_eq_getElem_cons hi
 rw[hd]
 have hgi:s[i]?=some s[i]:=List.getElem?_eq_getElem hi
 have h255:=s[i].toNat_lt
 generalize hb:s[i]=b at h255 hgi
 have ew:IntKind.i64.wrap (b.toNat:Int)=(b.toNat:Int):=by rw[wrap64]<;>omega
 by_cases h128:b.toNat<128
 ·have d1:decide ((b.toNat:Int)<128)=true:=by simp;omega
  simp (maxSteps:=400000) only[wF,storeA,reduceCtorEq,Nat.reduceAdd,Nat.reduceSub,Nat.reduceEqDiff,Nat.reduceLeDiff,Int.reduceToNat,Int.reduceLE,Int.reduceLT,Int.reduceAdd,Int.reduceNeg,Nat.reduceMul,S102,N102,R102,T102,hgi,convA,ew,d1]
  simp[nextR,h128]
 have d1:decide ((b.toNat:Int)<128)=false:=by simp;omega
 have hN:nextR (b::s.drop (i+1))=match leadR b.toNat with
  | none=>(0,0)
  | some (n,c,least)=>if s.length-(i+1)+1<n then(0,0)else match contF (n-1) (s.drop (i+1)) c with
   | none=>(0,0)
   | some c=>if c<least then(0,0)else(c,n):=by
  simp only[nextR,h128,if_false,List.length_drop]
 have hc:(b.toNat<192)∨(192≤b.toNat∧b.toNat<224)∨(224≤b.toNat∧b.toNat<240)∨(240≤b.toNat∧b.toNat<248)∨248≤b.toNat:=by omega
 rcases hc with hc | hc | hc | hc | hc
 ·have hl:leadR b.toNat=none:=by unfold leadR;rw[if_neg (by omega),if_neg (by omega),if_neg (by omega)]
  rw[hN,hl]
  have d2:decide ((b.toNat:Int)≥192)=false:=by simp;omega
  have d3:decide ((b.toNat:Int)≥224)=false:=by simp;omega
  have d4:decide ((b.toNat:Int)≥240)=false:=by simp;omega
  simp (maxSteps:=400000) only[wF,storeA,reduceCtorEq,Nat.reduceAdd,Nat.reduceSub,Nat.reduceEqDiff,Nat.reduceLeDiff,Int.reduceToNat,Int.reduceLE,Int.reduceLT,Int.reduceAdd,Int.reduceNeg,Nat.reduceMul,S102,N102,R102,T102,hgi,convA,ew,d1,d2,d3,d4]
  simp
 ·have hl:leadR b.toNat=some (2,b.toNat-192,128):=by unfold leadR;rw[if_pos hc]
  rw[hl]at hN
  simp only at hN
  have d2:decide ((b.toNat:Int)≥192)=true:=by simp;omega
  have e2:decide ((b.toNat:Int)<224)=true:=by simp;omega
  have d3:decide ((b.toNat:Int)≥224)=false:=by simp;omega
  have e3:decide ((b.toNat:Int)<240)=true:=by simp;omega
  have d4:decide ((b.toNat:Int)≥240)=false:=by simp;omega
  have e4:decide ((b.toNat:Int)<248)=true:=by simp;omega
  have ec:IntKind.i64.wrap ((b.toNat:Int)-192)=((b.toNat-192:Nat):Int):=by rw[wrap64]<;>omega
  have en:IntKind.i64.wrap ((i:Int)+2)=((i+2:Nat):Int):=by rw[wrap64]<;>omega
  have hc0:b.toNat-192<32:=by omega
  generalize b.toNat-192=c0 at hN ec hc0 hl
  by_cases hlen:s.length<i+2
  ·have d5:decide (((i+2:Nat):Int)>(s.length:Int))=true:=by simp;omega
   rw[hN,if_pos (by omega)]
   simp (maxSteps:=400000) only[wF,storeA,reduceCtorEq,Nat.reduceAdd,Nat.reduceSub,Nat.reduceEqDiff,Nat.reduceLeDiff,Int.reduceToNat,Int.reduceLE,Int.reduceLT,Int.reduceAdd,Int.reduceNeg,Nat.reduceMul,S102,N102,R102,T102,hgi,convA,ew,d1,d2,e2,ec,en,d5]
   simp
  ·have d5:decide (((i+2:Nat):Int)>(s.length:Int))=false:=by simp;omega
   rw[if_neg (by omega)]at hN
   simp (maxSteps:=400000) only[wF,storeA,reduceCtorEq,Nat.reduceAdd,Nat.reduceSub,Nat.reduceEqDiff,Nat.reduceLeDiff,Int.reduceToNat,Int.reduceLE,Int.reduceLT,Int.reduceAdd,Int.reduceNeg,Nat.reduceMul,S102,N102,R102,T102,hgi,convA,ew,d1,d2,e2,ec,en,d5]
   refine ATrS.loopK (κ:=Nat × Nat × AHeap) (fun x=>[.str s,.int .i64 i,.und,.und,.int .i64 0,.int .i64 0,.int .i64 x.2.1,.int .i64 2,.int .i64 128,.int .i64 x.1]++List.replicate 65 .und) (fun x=>x.2.2)
    (ContAt s H i 2 c0) (fun x=>2-x.1) ⟨(1,c0,H),⟨Nat.le_refl _,by simp,rfl,by simpa using hc0,Keeps.refl H⟩,by simp[Fg],HW.refl H⟩ ?_
   rintro⟨k,c,J⟩ ⟨k1,k2,k3,k4,hH⟩
   simp only at k1 k2 k3 k4 hH
   by_cases hk:k<2
   ·have hks:i+k<s.length:=by omega
    have f0:decide ((k:Int)<2)=true:=by simp;omega
    have f1:IntKind.i64.wrap ((i:Int)+(k:Int))=((i+k:Nat):Int):=by rw[wrap64]<;>omega
    have hgk:s[i+k]?=some s[i+k]:=List.getElem?_eq_getElem hks
    have hdk:=List.drop_eq_getElem_cons hks
    have hx:=s[i+k].toNat_lt
    generalize s[i+k]=x at hgk hdk hx
    have fx:IntKind.i64.wrap (x.toNat:Int)=(x.toNat:Int):=by rw[wrap64]<;>omega
    have en1:2-k=(2-(k+1))+1:=by omega
    have hc8:c<131072:=by
     have:k=1∨k=2∨k=3:=by omega
     rcases this with rfl | rfl | rfl<;>simp at k4<;>omega
    by_cases hcont:128≤x.toNat∧x.toNat<192
    ·have f2:decide ((x.toNat:Int)<128)=false:=by simp;omega
     have f3:decide ((x.toNat:Int)≥192)=false:=by simp;omega
     have f4:IntKind.i64.wrap ((c:Int)*64)=((c*64:Nat):Int):=by rw[wrap64]<;>omega
     have f5:IntKind.i64.wrap (((c*64:Nat):Int)+(x.toNat:Int))=((c*64+x.toNat:Nat):Int):=by rw[wrap64]<;>omega
     have f6:IntKind.i64.wrap (((c*64+x.toNat:Nat):Int)-128)=((c*64+(x.toNat-128):Nat):Int):=by rw[wrap64]<;>omega
     have f7:IntKind.i64.wrap ((k:Int)+1)=((k+1:Nat):Int):=by rw[wrap64]<;>omega
     simp (maxSteps:=400000) only[wF,storeA,reduceCtorEq,Nat.reduceAdd,Nat.reduceSub,Nat.reduceEqDiff,Nat.reduceLeDiff,Int.reduceToNat,Int.reduceLE,Int.reduceLT,Int.reduceAdd,Int.reduceNeg,Nat.reduceMul,T102,f0,f1,hgk,convA,fx,f2,f3,f4,f5,f6,f7]
     refine⟨(k+1,c*64+(x.toNat-128),J),⟨by simp only;omega,by simp only;omega,?_,?_,hH⟩,by simp only;omega,by simp[Fg],HW.refl _⟩
     ·simp only
      rw[←k3,en1,hdk,contF,if_pos hcont]
      rfl
     ·simp only[Nat.add_sub_cancel]
      have:k=1∨k=2∨k=3:=by omega
      rcases this with rfl | rfl | rfl<;>simp at k4 ⊢<;>omega
    ·have hnone:contF (2-1) (s.drop (i+1)) c0=none:=by
      rw[←k3,en1,hdk,contF,if_neg hcont]
     rw[hnone]at hN
     simp only at hN
     rw[hN]
     by_cases hx1:x.toNat<128
     ·have f2:decide ((x.toNat:Int)<128)=true:=by simp;omega
      simp (maxSteps:=400000) only[wF,storeA,reduceCtorEq,Nat.reduceAdd,Nat.reduceSub,Nat.reduceEqDiff,Nat.reduceLeDiff,Int.reduceToNat,Int.reduceLE,Int.reduceLT,Int.reduceAdd,Int.reduceNeg,Nat.reduceMul,T102,f0,f1,hgk,convA,fx,f2]
      exact⟨by simp,hH.post⟩
     ·have f2:decide ((x.toNat:Int)<128)=false:=by simp;omega
      have f3:decide ((x.toNat:Int)≥192)=true:=by simp;omega
      simp (maxSteps:=400000) only[wF,storeA,reduceCtorEq,Nat.reduceAdd,Nat.reduceSub,Nat.reduceEqDiff,Nat.reduceLeDiff,Int.reduceToNat,Int.reduceLE,Int.reduceLT,Int.reduceAdd,Int.reduceNeg,Nat.reduceMul,T102,f0,f1,hgk,convA,fx,f2,f3]
      exact⟨by simp,hH.post⟩
   ·have f0:decide ((k:Int)<2)=false:=by simp;omega
    have hk2:k=2:=by omega
    subst hk2
    have hsome:contF (2-1) (s.drop (i+1)) c0=some c:=by rw[←k3];rfl
    rw[hsome]at hN
    simp only at hN
    rw[hN]
    by_cases hlt:c<128
    ·have f2:decide ((c:Int)<128)=true:=by simp;omega
     simp (maxSteps:=400000) only[wF,storeA,reduceCtorEq,Nat.reduceAdd,Nat.reduceSub,Nat.reduceEqDiff,Nat.reduceLeDiff,Int.reduceToNat,Int.reduceLE,Int.reduceLT,Int.reduceAdd,Int.reduceNeg,Nat.reduceMul,T102,f0,f2]
     exact⟨by simp[hlt],hH.post⟩
    ·have f2:decide ((c:Int)<128)=false:=by simp;omega
     simp (maxSteps:=400000) only[wF,storeA,reduceCtorEq,Nat.reduceAdd,Nat.reduceSub,Nat.reduceEqDiff,Nat.reduceLeDiff,Int.reduceToNat,Int.reduceLE,Int.reduceLT,Int.reduceAdd,Int.reduceNeg,Nat.reduceMul,T102,f0,f2]
     exact⟨by simp[hlt],hH.post⟩
 ·have hl:leadR b.toNat=some (3,b.toNat-224,2048):=by unfold leadR;rw[if_neg (by omega),if_pos hc]
  rw[hl]at hN
  simp only at hN
  have d2:decide ((b.toNat:Int)≥192)=true:=by simp;omega
  have e2:decide ((b.toNat:Int)<224)=false:=by simp;omega
  have d3:decide ((b.toNat:Int)≥224)=true:=by simp;omega
  have e3:decide ((b.toNat:Int)<240)=true:=by simp;omega
  have d4:decide ((b.toNat:Int)≥240)=false:=by simp;omega
  have e4:decide ((b.toNat:Int)<248)=true:=by simp;omega
  have ec:IntKind.i64.wrap ((b.toNat:Int)-224)=((b.toNat-224:Nat):Int):=by rw[wrap64]<;>omega
  have en:IntKind.i64.wrap ((i:Int)+3)=((i+3:Nat):Int):=by rw[wrap64]<;>omega
  have hc0:b.toNat-224<32:=by omega
  generalize b.toNat-224=c0 at hN ec hc0 hl
  by_cases hlen:s.length<i+3
  ·have d5:decide (((i+3:Nat):Int)>(s.length:Int))=true:=by simp;omega
   rw[hN,if_pos (by omega)]
   simp (maxSteps:=400000) only[wF,storeA,reduceCtorEq,Nat.reduceAdd,Nat.reduceSub,Nat.reduceEqDiff,Nat.reduceLeDiff,Int.reduceToNat,Int.reduceLE,Int.reduceLT,Int.reduceAdd,Int.reduceNeg,Nat.reduceMul,S102,N102,R102,T102,hgi,convA,ew,d1,d2,e2,d3,e3,ec,en,d5]
   simp
  ·have d5:decide (((i+3:Nat):Int)>(s.length:Int))=false:=by simp;omega
   rw[if_neg (by omega)]at hN
   simp (maxSteps:=400000) only[wF,storeA,reduceCtorEq,Nat.reduceAdd,Nat.reduceSub,Nat.reduceEqDiff,Nat.reduceLeDiff,Int.reduceToNat,Int.reduceLE,Int.reduceLT,Int.reduceAdd,Int.reduceNeg,Nat.reduceMul,S102,N102,R102,T102,hgi,convA,ew,d1,d2,e2,d3,e3,ec,en,d5]
   refine ATrS.loopK (κ:=Nat × Nat × AHeap) (fun x=>[.str s,.int .i64 i,.und,.und,.int .i64 0,.int .i64 0,.int .i64 x.2.1,.int .i64 3,.int .i64 2048,.int .i64 x.1]++List.replicate 65 .und) (fun x=>x.2.2)
    (ContAt s H i 3 c0) (fun x=>3-x.1) ⟨(1,c0,H),⟨Nat.le_refl _,by simp,rfl,by simpa using hc0,Keeps.refl H⟩,by simp[Fg],HW.refl H⟩ ?_
   rintro⟨k,c,J⟩ ⟨k1,k2,k3,k4,hH⟩
   simp only at k1 k2 k3 k4 hH
   by_cases hk:k<3
   ·have hks:i+k<s.length:=by omega
    have f0:decide ((k:Int)<3)=true:=by simp;omega
    have f1:IntKind.i64.wrap ((i:Int)+(k:Int))=((i+k:Nat):Int):=by rw[wrap64]<;>omega
    have hgk:s[i+k]?=some s[i+k]:=List.getElem?_eq_getElem hks
    have hdk:=List.drop_eq_getElem_cons hks
    have hx:=s[i+k].toNat_lt
    generalize s[i+k]=x at hgk hdk hx
    have fx:IntKind.i64.wrap (x.toNat:Int)=(x.toNat:Int):=by rw[wrap64]<;>omega
    have en1:3-k=(3-(k+1))+1:=by omega
    have hc8:c<131072:=by
     have:k=1∨k=2∨k=3:=by omega
     rcases this with rfl | rfl | rfl<;>simp at k4<;>omega
    by_cases hcont:128≤x.toNat∧x.toNat<192
    ·have f2:decide ((x.toNat:Int)<128)=false:=by simp;omega
     have f3:decide ((x.toNat:Int)≥192)=false:=by simp;omega
     have f4:IntKind.i64.wrap ((c:Int)*64)=((c*64:Nat):Int):=by rw[wrap64]<;>omega
     have f5:IntKind.i64.wrap (((c*64:Nat):Int)+(x.toNat:Int))=((c*64+x.toNat:Nat):Int):=by rw[wrap64]<;>omega
     have f6:IntKind.i64.wrap (((c*64+x.toNat:Nat):Int)-128)=((c*64+(x.toNat-128):Nat):Int):=by rw[wrap64]<;>omega
     have f7:IntKind.i64.wrap ((k:Int)+1)=((k+1:Nat):Int):=by rw[wrap64]<;>omega
     simp (maxSteps:=400000) only[wF,storeA,reduceCtorEq,Nat.reduceAdd,Nat.reduceSub,Nat.reduceEqDiff,Nat.reduceLeDiff,Int.reduceToNat,Int.reduceLE,Int.reduceLT,Int.reduceAdd,Int.reduceNeg,Nat.reduceMul,T102,f0,f1,hgk,convA,fx,f2,f3,f4,f5,f6,f7]
     refine⟨(k+1,c*64+(x.toNat-128),J),⟨by simp only;omega,by simp only;omega,?_,?_,hH⟩,by simp only;omega,by simp[Fg],HW.refl _⟩
     ·simp only
      rw[←k3,en1,hdk,contF,if_pos hcont]
      rfl
     ·simp only[Nat.add_sub_cancel]
      have:k=1∨k=2∨k=3:=by omega
      rcases this with rfl | rfl | rfl<;>simp at k4 ⊢<;>omega
    ·have hnone:contF (3-1) (s.drop (i+1)) c0=none:=by
      rw[←k3,en1,hdk,contF,if_neg hcont]
     rw[hnone]at hN
     simp only at hN
     rw[hN]
     by_cases hx1:x.toNat<128
     ·have f2:decide ((x.toNat:Int)<128)=true:=by simp;omega
      simp (maxSteps:=400000) only[wF,storeA,reduceCtorEq,Nat.reduceAdd,Nat.reduceSub,Nat.reduceEqDiff,Nat.reduceLeDiff,Int.reduceToNat,Int.reduceLE,Int.reduceLT,Int.reduceAdd,Int.reduceNeg,Nat.reduceMul,T102,f0,f1,hgk,convA,fx,f2]
      exact⟨by simp,hH.post⟩
     ·have f2:decide ((x.toNat:Int)<128)=false:=by simp;omega
      have f3:decide ((x.toNat:Int)≥192)=true:=by simp;omega
      simp (maxSteps:=400000) only[wF,storeA,reduceCtorEq,Nat.reduceAdd,Nat.reduceSub,Nat.reduceEqDiff,Nat.reduceLeDiff,Int.reduceToNat,Int.reduceLE,Int.reduceLT,Int.reduceAdd,Int.reduceNeg,Nat.reduceMul,T102,f0,f1,hgk,convA,fx,f2,f3]
      exact⟨by simp,hH.post⟩
   ·have f0:decide ((k:Int)<3)=false:=by simp;omega
    have hk2:k=3:=by omega
    subst hk2
    have hsome:contF (3-1) (s.drop (i+1)) c0=some c:=by rw[←k3];rfl
    rw[hsome]at hN
    simp only at hN
    rw[hN]
    by_cases hlt:c<2048
    ·have f2:decide ((c:Int)<2048)=true:=by simp;omega
     simp (maxSteps:=400000) only[wF,storeA,reduceCtorEq,Nat.reduceAdd,Nat.reduceSub,Nat.reduceEqDiff,Nat.reduceLeDiff,Int.reduceToNat,Int.reduceLE,Int.reduceLT,Int.reduceAdd,Int.reduceNeg,Nat.reduceMul,T102,f0,f2]
     exact⟨by simp[hlt],hH.post⟩
    ·have f2:decide ((c:Int)<2048)=false:=by simp;omega
     simp (maxSteps:=400000) only[wF,storeA,reduceCtorEq,Nat.reduceAdd,Nat.reduceSub,Nat.reduceEqDiff,Nat.reduceLeDiff,Int.reduceToNat,Int.reduceLE,Int.reduceLT,Int.reduceAdd,Int.reduceNeg,Nat.reduceMul,T102,f0,f2]
     exact⟨by simp[hlt],hH.post⟩
 ·have hl:leadR b.toNat=some (4,b.toNat-240,65536):=by unfold leadR;rw[if_neg (by omega),if_neg (by omega),if_pos hc]
  rw[hl]at hN
  simp only at hN
  have d2:decide ((b.toNat:Int)≥192)=true:=by simp;omega
  have e2:decide ((b.toNat:Int)<224)=false:=by simp;omega
  have d3:decide ((b.toNat:Int)≥224)=true:=by simp;omega
  have e3:decide ((b.toNat:Int)<240)=false:=by simp;omega
  have d4:decide ((b.toNat:Int)≥240)=true:=by simp;omega
  have e4:decide ((b.toNat:Int)<248)=true:=by simp;omega
  have ec:IntKind.i64.wrap ((b.toNat:Int)-240)=((b.toNat-240:Nat):Int):=by rw[wrap64]<;>omega
  have en:IntKind.i64.wrap ((i:Int)+4)=((i+4:Nat):Int):=by rw[wrap64]<;>omega
  have hc0:b.toNat-240<32:=by omega
  generalize b.toNat-240=c0 at hN ec hc0 hl
  by_cases hlen:s.length<i+4
  ·have d5:decide (((i+4:Nat):Int)>(s.length:Int))=true:=by simp;omega
   rw[hN,if_pos (by omega)]
   simp (maxSteps:=400000) only[wF,storeA,reduceCtorEq,Nat.reduceAdd,Nat.reduceSub,Nat.reduceEqDiff,Nat.reduceLeDiff,Int.reduceToNat,Int.reduceLE,Int.reduceLT,Int.reduceAdd,Int.reduceNeg,Nat.reduceMul,S102,N102,R102,T102,hgi,convA,ew,d1,d2,e2,d3,e3,d4,e4,ec,en,d5]
   simp
  ·have d5:decide (((i+4:Nat):Int)>(s.length:Int))=false:=by simp;omega
   rw[if_neg (by omega)]at hN
   simp (maxSteps:=400000) only[wF,storeA,reduceCtorEq,Nat.reduceAdd,Nat.reduceSub,Nat.reduceEqDiff,Nat.reduceLeDiff,Int.reduceToNat,Int.reduceLE,Int.reduceLT,Int.reduceAdd,Int.reduceNeg,Nat.reduceMul,S102,N102,R102,T102,hgi,convA,ew,d1,d2,e2,d3,e3,d4,e4,ec,en,d5]
   refine ATrS.loopK (κ:=Nat × Nat × AHeap) (fun x=>[.str s,.int .i64 i,.und,.und,.int .i64 0,.int .i64 0,.int .i64 x.2.1,.int .i64 4,.int .i64 65536,.int .i64 x.1]++List.replicate 65 .und) (fun x=>x.2.2)
    (ContAt s H i 4 c0) (fun x=>4-x.1) ⟨(1,c0,H),⟨Nat.le_refl _,by simp,rfl,by simpa using hc0,Keeps.refl H⟩,by simp[Fg],HW.refl H⟩ ?_
   rintro⟨k,c,J⟩ ⟨k1,k2,k3,k4,hH⟩
   simp only at k1 k2 k3 k4 hH
   by_cases hk:k<4
   ·have hks:i+k<s.length:=by omega
    have f0:decide ((k:Int)<4)=true:=by simp;omega
    have f1:IntKind.i64.wrap ((i:Int)+(k:Int))=((i+k:Nat):Int):=by rw[wrap64]<;>omega
    have hgk:s[i+k]?=some s[i+k]:=List.getElem?_eq_getElem hks
    have hdk:=List.drop_eq_getElem_cons hks
    have hx:=s[i+k].toNat_lt
    generalize s[i+k]=x at hgk hdk hx
    have fx:IntKind.i64.wrap (x.toNat:Int)=(x.toNat:Int):=by rw[wrap64]<;>omega
    have en1:4-k=(4-(k+1))+1:=by omega
    have hc8:c<131072:=by
     have:k=1∨k=2∨k=3:=by omega
     rcases this with rfl | rfl | rfl<;>simp at k4<;>omega
    by_cases hcont:128≤x.toNat∧x.toNat<192
    ·have f2:decide ((x.toNat:Int)<128)=false:=by simp;omega
     have f3:decide ((x.toNat:Int)≥192)=false:=by simp;omega
     have f4:IntKind.i64.wrap ((c:Int)*64)=((c*64:Nat):Int):=by rw[wrap64]<;>omega
     have f5:IntKind.i64.wrap (((c*64:Nat):Int)+(x.toNat:Int))=((c*64+x.toNat:Nat):Int):=by rw[wrap64]<;>omega
     have f6:IntKind.i64.wrap (((c*64+x.toNat:Nat):Int)-128)=((c*64+(x.toNat-128):Nat):Int):=by rw[wrap64]<;>omega
     have f7:IntKind.i64.wrap ((k:Int)+1)=((k+1:Nat):Int):=by rw[wrap64]<;>omega
     simp (maxSteps:=400000) only[wF,storeA,reduceCtorEq,Nat.reduceAdd,Nat.reduceSub,Nat.reduceEqDiff,Nat.reduceLeDiff,Int.reduceToNat,Int.reduceLE,Int.reduceLT,Int.reduceAdd,Int.reduceNeg,Nat.reduceMul,T102,f0,f1,hgk,convA,fx,f2,f3,f4,f5,f6,f7]
     refine⟨(k+1,c*64+(x.toNat-128),J),⟨by simp only;omega,by simp only;omega,?_,?_,hH⟩,by simp only;omega,by simp[Fg],HW.refl _⟩
     ·simp only
      rw[←k3,en1,hdk,contF,if_pos hcont]
      rfl
     ·simp only[Nat.add_sub_cancel]
      have:k=1∨k=2∨k=3:=by omega
      rcases this with rfl | rfl | rfl<;>simp at k4 ⊢<;>omega
    ·have hnone:contF (4-1) (s.drop (i+1)) c0=none:=by
      rw[←k3,en1,hdk,contF,if_neg hcont]
     rw[hnone]at hN
     simp only at hN
     rw[hN]
     by_cases hx1:x.toNat<128
     ·have f2:decide ((x.toNat:Int)<128)=true:=by simp;omega
      simp (maxSteps:=400000) only[wF,storeA,reduceCtorEq,Nat.reduceAdd,Nat.reduceSub,Nat.reduceEqDiff,Nat.reduceLeDiff,Int.reduceToNat,Int.reduceLE,Int.reduceLT,Int.reduceAdd,Int.reduceNeg,Nat.reduceMul,T102,f0,f1,hgk,convA,fx,f2]
      exact⟨by simp,hH.post⟩
     ·have f2:decide ((x.toNat:Int)<128)=false:=by simp;omega
      have f3:decide ((x.toNat:Int)≥192)=true:=by simp;omega
      simp (maxSteps:=400000) only[wF,storeA,reduceCtorEq,Nat.reduceAdd,Nat.reduceSub,Nat.reduceEqDiff,Nat.reduceLeDiff,Int.reduceToNat,Int.reduceLE,Int.reduceLT,Int.reduceAdd,Int.reduceNeg,Nat.reduceMul,T102,f0,f1,hgk,convA,fx,f2,f3]
      exact⟨by simp,hH.post⟩
   ·have f0:decide ((k:Int)<4)=false:=by simp;omega
    have hk2:k=4:=by omega
    subst hk2
    have hsome:contF (4-1) (s.drop (i+1)) c0=some c:=by rw[←k3];rfl
    rw[hsome]at hN
    simp only at hN
    rw[hN]
    by_cases hlt:c<65536
    ·have f2:decide ((c:Int)<65536)=true:=by simp;omega
     simp (maxSteps:=400000) only[wF,storeA,reduceCtorEq,Nat.reduceAdd,Nat.reduceSub,Nat.reduceEqDiff,Nat.reduceLeDiff,Int.reduceToNat,Int.reduceLE,Int.reduceLT,Int.reduceAdd,Int.reduceNeg,Nat.reduceMul,T102,f0,f2]
     exact⟨by simp[hlt],hH.post⟩
    ·have f2:decide ((c:Int)<65536)=false:=by simp;omega
     simp (maxSteps:=400000) only[wF,storeA,reduceCtorEq,Nat.reduceAdd,Nat.reduceSub,Nat.reduceEqDiff,Nat.reduceLeDiff,Int.reduceToNat,Int.reduceLE,Int.reduceLT,Int.reduceAdd,Int.reduceNeg,Nat.reduceMul,T102,f0,f2]
     exact⟨by simp[hlt],hH.post⟩
 ·have hl:leadR b.toNat=none:=by unfold leadR;rw[if_neg (by omega),if_neg (by omega),if_neg (by omega)]
  rw[hN,hl]
  have d2:decide ((b.toNat:Int)≥192)=true:=by simp;omega
  have d3:decide ((b.toNat:Int)≥224)=true:=by simp;omega
  have d4:decide ((b.toNat:Int)≥240)=true:=by simp;omega
  have e2:decide ((b.toNat:Int)<224)=false:=by simp;omega
  have e3:decide ((b.toNat:Int)<240)=false:=by simp;omega
  have e4:decide ((b.toNat:Int)<248)=false:=by simp;omega
  simp (maxSteps:=400000) only[wF,storeA,reduceCtorEq,Nat.reduceAdd,Nat.reduceSub,Nat.reduceEqDiff,Nat.reduceLeDiff,Int.reduceToNat,Int.reduceLE,Int.reduceLT,Int.reduceAdd,Int.reduceNeg,Nat.reduceMul,S102,N102,R102,T102,hgi,convA,ew,d1,d2,d3,d4,e2,e3,e4]
  simp
end Go.Ab
namespace Go.Ab
open Go Go.Lib Go.Proofs
theorem isCharS_iff (c:Nat):isCharS (c:Int)=true↔(c=9∨c=10∨c=13∨(32≤c∧c≤55295)∨(57344≤c∧c≤65533)∨(65536≤c∧c≤1114111)):=by
 simp[isCharS]
 omega
theorem nextR_prefix {l:List UInt8} (h:Lib.hasPrefix l [239,191,189]=true):nextR l=(65533,3):=by
 unfold Lib.hasPrefix at h
 rw[List.isPrefixOf_iff_prefix]at h
 obtain⟨m,rfl⟩:=h
 simp[nextR,leadR,contF]
theorem getD0 (l:List UInt8):l.getD 0 0=l.headD 0:=by cases l<;>rfl
set_option maxHeartbeats 4000000 in
theorem nextR_high {b:UInt8} (t:List UInt8) (h:128≤b.toNat) :
  ((nextR (b::t)).2=0∨isCharS ((nextR (b::t)).1:Int)=false→dec (b::t)=(65533,1)∨isCharS ((dec (b::t)).1:Int)=false) ∧
  ((nextR (b::t)).2≠0→isCharS ((nextR (b::t)).1:Int)=true→dec (b::t)=nextR (b::t)∧((nextR (b::t)).1=65533→Lib.hasPrefix (b::t) [239,191,189]=true)):=by
 have hN:dec (b::t)=_:=Lib.decodeL_N (b::t)
 simp only[List.getD_cons_zero,List.getD_cons_succ,List.length_cons]at hN
 have hb:=b.toNat_lt
 have hif:∀c:Nat,isCharS (c:Int)=false↔¬(c=9∨c=10∨c=13∨(32≤c∧c≤55295)∨(57344≤c∧c≤65533)∨(65536≤c∧c≤1114111)):=fun c=>by rw[←isCharS_iff];simp
 have hnx:nextR (b::t)=match leadR b.toNat with
  | none=>(0,0)
  | some (n,c,least)=>if t.length+1<n then(0,0)else match contF (n-1) t c with
   | none=>(0,0)
   | some c=>if c<least then(0,0)else(c,n):=by
  simp only[nextR]
  rw[if_neg (by omega)]
  try rfl
 have bad:nextR (b::t)=(0,0)→dec (b::t)=(65533,1)→((nextR (b::t)).2=0∨isCharS ((nextR (b::t)).1:Int)=false→dec (b::t)=(65533,1)∨isCharS ((dec (b::t)).1:Int)=false) ∧
  ((nextR (b::t)).2≠0→isCharS ((nextR (b::t)).1:Int)=true→dec (b::t)=nextR (b::t)∧((nextR (b::t)).1=65533→Lib.hasPrefix (b::t) [239,191,189]=true)):=fun h1 h2=>⟨fun _ => .inl h2,fun h3=>absurd (by rw[h1]) h3⟩
 have hc:(b.toNat<192)∨(192≤b.toNat∧b.toNat<224)∨(224≤b.toNat∧b.toNat<240)∨(240≤b.toNat∧b.toNat<248)∨248≤b.toNat:=by omega
 rcases hc with hc | hc | hc | hc | hc
 ·have hl:leadR b.toNat=none:=by unfold leadR;rw[if_neg (by omega),if_neg (by omega),if_neg (by omega)]
  refine bad (by rw[hnx,hl]) ?_
  rw[hN]
  unfold Lib.decodeN
  rw[if_neg (by omega),if_neg (by omega),if_neg (by omega),if_neg (by omega)]
 ·have hl:leadR b.toNat=some (2,b.toNat-192,128):=by unfold leadR;rw[if_pos hc]
  rw[hl]at hnx
  simp only at hnx
  cases t with
  | nil=>
   refine bad (by rw[hnx];simp) ?_
   rw[hN]
   unfold Lib.decodeN
   rw[if_neg (by omega),if_neg (by simp),if_neg (by simp),if_neg (by simp)]
  | cons x r=>
   simp only[List.length_cons,List.getD_cons_zero,contF,Nat.add_one_sub_one]at hnx hN
   rw[if_neg (by omega)]at hnx
   have hx:=x.toNat_lt
   by_cases h1:128≤x.toNat∧x.toNat<192
   ·rw[if_pos h1]at hnx
    simp only at hnx
    have hd:Lib.decodeN (r.length+1+1) b.toNat x.toNat ((x::r).getD 1 0).toNat ((x::r).getD 2 0).toNat=if(b.toNat-192)*64+(x.toNat-128)<128 then(65533,1)else((b.toNat-192)*64+(x.toNat-128),2):=by
     unfold Lib.decodeN
     rw[if_neg (by omega),if_pos ⟨by omega,by omega,by omega⟩]
     have e:b.toNat % 32*64+x.toNat % 64=(b.toNat-192)*64+(x.toNat-128):=by omega
     rw[e]
     by_cases h2:(b.toNat-192)*64+(x.toNat-128)<128
     ·rw[if_neg (by omega),if_pos h2]
     ·rw[if_pos (by omega),if_neg h2]
    rw[hd]at hN
    by_cases h2:(b.toNat-192)*64+(x.toNat-128)<128
    ·rw[if_pos h2]at hN hnx
     exact bad hnx hN
    ·rw[if_neg h2]at hN hnx
     rw[hN,hnx]
     refine⟨fun h3=>?_,fun _ _=>⟨rfl,fun h4=>?_⟩⟩
     ·rcases h3 with h3 | h3
      ·simp at h3
      ·exact .inr h3
     ·simp only at h4
      omega
   ·rw[if_neg h1]at hnx
    refine bad hnx ?_
    rw[hN]
    unfold Lib.decodeN
    rw[if_neg (by omega),if_neg (by omega),if_neg (by omega),if_neg (by omega)]
 ·have hl:leadR b.toNat=some (3,b.toNat-224,2048):=by unfold leadR;rw[if_neg (by omega),if_pos hc]
  rw[hl]at hnx
  simp only at hnx
  cases t with
  | nil=>
   refine bad (by rw[hnx];simp) ?_
   rw[hN]
   unfold Lib.decodeN
   rw[if_neg (by omega),if_neg (by simp),if_neg (by simp),if_neg (by simp)]
  | cons x t=>
  cases t with
  | nil=>
   refine bad (by rw[hnx];simp) ?_
   rw[hN]
   unfold Lib.decodeN
   rw[if_neg (by omega),if_neg (by omega),if_neg (by simp),if_neg (by simp)]
  | cons y r=>
   simp only[List.length_cons,List.getD_cons_zero,List.getD_cons_succ,contF,Nat.add_one_sub_one]at hnx hN
   rw[if_neg (by omega)]at hnx
   have hx:=x.toNat_lt
   have hy:=y.toNat_lt
   by_cases h1:(128≤x.toNat∧x.toNat<192)∧(128≤y.toNat∧y.toNat<192)
   ·rw[if_pos h1.1,if_pos h1.2]at hnx
    simp only at hnx
    have e:b.toNat % 16*4096+x.toNat % 64*64+y.toNat % 64=((b.toNat-224)*64+(x.toNat-128))*64+(y.toNat-128):=by omega
    have hd:Lib.decodeN (r.length+1+1+1) b.toNat x.toNat y.toNat ((r).getD 0 0).toNat=if b.toNat % 16*4096+x.toNat % 64*64+y.toNat % 64≥2048∧(b.toNat % 16*4096+x.toNat % 64*64+y.toNat % 64<55296∨(57344≤b.toNat % 16*4096+x.toNat % 64*64+y.toNat % 64∧b.toNat % 16*4096+x.toNat % 64*64+y.toNat % 64≤1114111))then(b.toNat % 16*4096+x.toNat % 64*64+y.toNat % 64,3)else(65533,1):=by
     unfold Lib.decodeN
     rw[if_neg (by omega),if_neg (by omega),if_pos ⟨by omega,⟨by omega,by omega⟩,by omega,by omega⟩]
    rw[hd,e]at hN
    have hpre:((b.toNat-224)*64+(x.toNat-128))*64+(y.toNat-128)=65533→Lib.hasPrefix (b::x::y::r) [239,191,189]=true:=fun h4=>by
     have q1:b.toNat=239:=by omega
     have q2:x.toNat=191:=by omega
     have q3:y.toNat=189:=by omega
     have r1:b=239:=UInt8.toNat_inj.1 q1
     have r2:x=191:=UInt8.toNat_inj.1 q2
     have r3:y=189:=UInt8.toNat_inj.1 q3
     subst r1;subst r2;subst r3
     simp[Lib.hasPrefix,List.isPrefixOf]
    generalize ((b.toNat-224)*64+(x.toNat-128))*64+(y.toNat-128)=v at hN hnx hpre
    by_cases h2:v<2048
    ·rw[if_pos h2]at hnx
     rw[if_neg (by omega)]at hN
     exact bad hnx hN
    ·rw[if_neg h2]at hnx
     by_cases h3:55296≤v∧v<57344∨1114111<v
     ·rw[if_neg (by omega)]at hN
      refine⟨fun _ => .inl hN,fun _ h4=>?_⟩
      rw[hnx]at h4
      have:=(isCharS_iff v).1 h4
      omega
     ·rw[if_pos (by omega)]at hN
      rw[hN,hnx]
      refine⟨fun h3=>?_,fun _ _=>⟨rfl,hpre⟩⟩
      rcases h3 with h3 | h3
      ·simp at h3
      ·exact .inr h3
   ·have hnx:nextR (b::x::y::r)=(0,0):=by
     by_cases hx1:128≤x.toNat∧x.toNat<192
     ·rw[if_pos hx1,if_neg (fun h=>h1 ⟨hx1,h⟩)]at hnx
      exact hnx
     ·rw[if_neg hx1]at hnx
      exact hnx
    refine bad hnx ?_
    rw[hN]
    unfold Lib.decodeN
    rw[if_neg (by omega),if_neg (by omega),if_neg (by omega),if_neg (by omega)]
 ·have hl:leadR b.toNat=some (4,b.toNat-240,65536):=by unfold leadR;rw[if_neg (by omega),if_neg (by omega),if_pos hc]
  rw[hl]at hnx
  simp only at hnx
  cases t with
  | nil=>
   refine bad (by rw[hnx];simp) ?_
   rw[hN]
   unfold Lib.decodeN
   rw[if_neg (by omega),if_neg (by simp),if_neg (by simp),if_neg (by simp)]
  | cons x t=>
  cases t with
  | nil=>
   refine bad (by rw[hnx];simp) ?_
   rw[hN]
   unfold Lib.decodeN
   rw[if_neg (by omega),if_neg (by omega),if_neg (by simp),if_neg (by simp)]
  | cons y t=>
  cases t with
  | nil=>
   refine bad (by rw[hnx];simp) ?_
   rw[hN]
   unfold Lib.decodeN
   rw[if_neg (by omega),if_neg (by omega),if_neg (by omega),if_neg (by simp)]
  | cons z r=>
   simp only[List.length_cons,List.getD_cons_zero,List.getD_cons_succ,contF,Nat.add_one_sub_one]at hnx hN
   rw[if_neg (by omega)]at hnx
   have hx:=x.toNat_lt
   have hy:=y.toNat_lt
   have hz:=z.toNat_lt
   by_cases h1:(128≤x.toNat∧x.toNat<192)∧(128≤y.toNat∧y.toNat<192)∧(128≤z.toNat∧z.toNat<192)
   ·rw[if_pos h1.1,if_pos h1.2.1,if_pos h1.2.2]at hnx
    simp only at hnx
    have e:b.toNat % 8*262144+x.toNat % 64*4096+y.toNat % 64*64+z.toNat % 64=(((b.toNat-240)*64+(x.toNat-128))*64+(y.toNat-128))*64+(z.toNat-128):=by omega
    have hd:Lib.decodeN (r.length+1+1+1+1) b.toNat x.toNat y.toNat z.toNat=if b.toNat % 8*262144+x.toNat % 64*4096+y.toNat % 64*64+z.toNat % 64≥65536∧(b.toNat % 8*262144+x.toNat % 64*4096+y.toNat % 64*64+z.toNat % 64<55296∨(57344≤b.toNat % 8*262144+x.toNat % 64*4096+y.toNat % 64*64+z.toNat % 64∧b.toNat % 8*262144+x.toNat % 64*4096+y.toNat % 64*64+z.toNat % 64≤1114111))then(b.toNat % 8*262144+x.toNat % 64*4096+y.toNat % 64*64+z.toNat % 64,4)else(65533,1):=by
     unfold Lib.decodeN
     rw[if_neg (by omega),if_neg (by omega),if_neg (by omega),if_pos ⟨by omega,⟨by omega,by omega⟩,⟨by omega,by omega⟩,by omega,by omega⟩]
    rw[hd,e]at hN
    generalize (((b.toNat-240)*64+(x.toNat-128))*64+(y.toNat-128))*64+(z.toNat-128)=v at hN hnx
    by_cases h2:v<65536
    ·rw[if_pos h2]at hnx
     rw[if_neg (by omega)]at hN
     exact bad hnx hN
    ·rw[if_neg h2]at hnx
     by_cases h3:1114111<v
     ·rw[if_neg (by omega)]at hN
      refine⟨fun _ => .inl hN,fun _ h4=>?_⟩
      rw[hnx]at h4
      have:=(isCharS_iff v).1 h4
      omega
     ·rw[if_pos (by omega)]at hN
      rw[hN,hnx]
      refine⟨fun h3=>?_,fun _ _=>⟨rfl,fun h4=>?_⟩⟩
      ·rcases h3 with h3 | h3
       ·simp at h3
       ·exact .inr h3
      ·simp only at h4
       omega
   ·have hnx:nextR (b::x::y::z::r)=(0,0):=by
     by_cases hx1:128≤x.toNat∧x.toNat<192
     ·by_cases hy1:128≤y.toNat∧y.toNat<192
      ·rw[if_pos hx1,if_pos hy1,if_neg (fun h=>h1 ⟨hx1,hy1,h⟩)]at hnx
       exact hnx
      ·rw[if_pos hx1,if_neg hy1]at hnx
       exact hnx
     ·rw[if_neg hx1]at hnx
      exact hnx
    refine bad hnx ?_
    rw[hN]
    unfold Lib.decodeN
    rw[if_neg (by omega),if_neg (by omega),if_neg (by omega),if_neg (by omega)]
 ·have hl:leadR b.toNat=none:=by unfold leadR;rw[if_neg (by omega),if_neg (by omega),if_neg (by omega)]
  refine bad (by rw[hnx,hl]) ?_
  rw[hN]
  unfold Lib.decodeN
  rw[if_neg (by omega),if_neg (by omega),if_neg (by omega),if_neg (by omega)]
theorem nextR_ok {l:List UInt8} (hl:l≠[]):if(nextR l).2=0∨isCharS ((nextR l).1:Int)=false then headTextS l=false else headTextS l=true∧dec l=nextR l:=by
 cases l with
 | nil=>exact absurd rfl hl
 | cons b t=>
  by_cases h:b.toNat<128
  ·have hn:nextR (b::t)=(b.toNat,1):=by simp[nextR,h]
   have e:((b.toNat==65533):Bool)=false:=by rw[beq_eq_false_iff_ne];omega
   have hh:headTextS (b::t)=isCharS (b.toNat:Int):=by
    unfold headTextS
    rw[dec_ascii h]
    simp[e]
   rw[hn,hh,dec_ascii h]
   cases hc:isCharS (b.toNat:Int)<;>simp
  ·obtain⟨h1,h2⟩:=nextR_high t (b:=b) (by omega)
   split
   ·rename_i hb
    have hp:Lib.hasPrefix (b::t) [239,191,189]=false:=by
     cases hh:Lib.hasPrefix (b::t) [239,191,189]with
     | false=>rfl
     | true=>
      rw[nextR_prefix hh]at hb
      simp[isCharS]at hb
    rcases h1 hb with h3 | h3
    ·simp[headTextS,h3,hp]
    ·simp[headTextS,h3]
   ·rename_i hb
    simp only[not_or,Bool.not_eq_false]at hb
    obtain⟨h3,h4⟩:=h2 hb.1 hb.2
    refine⟨?_,h3⟩
    unfold headTextS
    rw[h3,hb.2]
    by_cases h5:(nextR (b::t)).1=65533
    ·simp[h4 h5]
    ·simp[h5]
end Go.Ab
namespace Go.Ab
open Go Go.Lib Go.Proofs
def ptsF:Nat→List UInt8→List Nat
 | 0,_=>[]
 | _+1,[]=>[]
 | f+1,b::l=>(dec (b::l)).1::ptsF f ((b::l).drop (dec (b::l)).2)
def ptsS (s:List UInt8):List Nat:=ptsF s.length s
theorem ptsF_fuel:∀(f g:Nat) (l:List UInt8),l.length≤f→l.length≤g→ptsF f l=ptsF g l
 | 0,0,_,_,_=>rfl
 | 0,g+1,[],_,_=>rfl
 | f+1,0,[],_,_=>rfl
 | f+1,g+1,[],_,_=>rfl
 | 0,_,b::l,h,_=>absurd h (by simp)
 | _,0,b::l,_,h=>absurd h (by simp)
 | f+1,g+1,b::l,hf,hg=>by
  simp only[ptsF]
  have:=dec_pos (l:=b::l) (by simp)
  simp only[List.length_cons]at hf hg
  rw[ptsF_fuel f g _ (by simp only[List.length_drop,List.length_cons];omega) (by simp only[List.length_drop,List.length_cons];omega)]
theorem ptsS_nil:ptsS []=[]:=rfl
theorem ptsS_step {l:List UInt8} (h:l≠[]):ptsS l=(dec l).1::ptsS (l.drop (dec l).2):=by
 cases l with
 | nil=>exact absurd rfl h
 | cons b l=>
  have:=dec_pos (l:=b::l) (by simp)
  unfold ptsS
  simp only[List.length_cons,ptsF]
  rw[ptsF_fuel l.length _ _ (by simp only[List.length_drop,List.length_cons];omega) (Nat.le_refl _)]
theorem ptsF_len:∀(f:Nat) (l:List UInt8),(ptsF f l).length≤l.length
 | 0,_=>by simp[ptsF]
 | f+1,[]=>by simp[ptsF]
 | f+1,b::l=>by
  have:=dec_pos (l:=b::l) (by simp)
  have ih:=ptsF_len f ((b::l).drop (dec (b::l)).2)
  simp only[ptsF,List.length_cons,List.length_drop]at ih ⊢
  omega
theorem ptsS_len (l:List UInt8):(ptsS l).length≤l.length:=ptsF_len _ l
theorem countF_pts:∀(f:Nat) (l:List UInt8),countF f l=(ptsF f l).length
 | 0,_=>rfl
 | _+1,[]=>rfl
 | f+1,b::l=>by
  simp only[countF,ptsF,List.length_cons,countF_pts f]
  omega
theorem countS_pts (l:List UInt8):countS l=(ptsS l).length:=countF_pts _ l
def intsA (l:List Nat):List AV:=l.map fun(n:Nat)=>AV.int .i64 (n:Int)
theorem intsA_len (l:List Nat):(intsA l).length=l.length:=by simp[intsA]
def PointsAt (s:List UInt8) (H:AHeap) (x:Nat × Nat × List Nat × AHeap):Prop:=
 x.1≤s.length∧x.2.2.1++ptsS (s.drop x.1)=ptsS s∧isTextS (s.drop x.1)=isTextS s∧x.2.2.1.length≤x.1∧x.2.2.2.get x.2.1=some (.row 3 1 (intsA x.2.2.1))∧H.next≤x.2.1∧x.2.1<x.2.2.2.next∧H.next≤x.2.2.2.next∧∀j,j<H.next→x.2.2.2.get j=H.get j
def pointsA (s:List UInt8):AV:=if isTextS s=true then .tup [.lst (ptsS s).length (intsA (ptsS s)),.int .i64 0]else .tup [.lst 0 [],.int .i64 10]
set_option maxHeartbeats 1000000 in
theorem r_points_ok (G:Nat→Option (List AV)) {s:List UInt8} (hs:s.length≤1000000000):PureCall Tryz.prog G 65 [.str s] (pointsA s):=by
 intro H
 refine ACalls.keep (ACalls.ret (ACalls.of Tryz.func65 S65_eq R65 N65 rfl rfl ?_))
 simp (maxSteps:=400000) only[wF,storeA,reduceCtorEq,Nat.reduceAdd,Nat.reduceSub,Nat.reduceEqDiff,Nat.reduceLeDiff,Int.reduceToNat,Int.reduceLE,Int.reduceLT,Int.reduceAdd,Int.reduceNeg,Nat.reduceMul,S65,N65,R65,T65]
 have hw:Weak G ([.str s,.und,.und,.int .i64 0,.nils,.int .i64 0]++List.replicate 27 .und) H ([.str s,.und,.und,.int .i64 0,.slc H.next 0,.int .i64 0]++List.replicate 27 .und) ⟨H.next+1,fun j=>if j=H.next then some (.row 3 1 [])else H.get j⟩:=by
  refine Weak.nilRow H.next 3 1 (Nat.le_refl _) (Nat.lt_succ_self _) (by simp) (fun j=>?_) (show Tzs _ _ _ _ _ from ⟨.same _,.und _,.und _,.same _,.nil _ rfl,Tzs.refl _⟩)
  by_cases h1:j=H.next
  ·exact .inl h1
  ·cases hg:H.get j with
   | none=>exact .inr (.inl (by simp[h1,hg]))
   | some o=>exact .inr (.inr ⟨o,o,rfl,by simp[h1,hg],.same o⟩)
 refine ATrS.weak ((Weak.of (by simp[Fg]) (HW.refl _)).trans hw) (ATrS.loopK (κ:=Nat × Nat × List Nat × AHeap) (fun x=>[.str s,.und,.und,.int .i64 0,.slc x.2.1 x.2.2.1.length,.int .i64 x.1]++List.replicate 27 .und) (fun x=>x.2.2.2)
  (PointsAt s H) (fun x=>s.length-x.1) ⟨(0,H.next,[],_),⟨Nat.zero_le _,rfl,rfl,Nat.le_refl _,by simp[intsA],by simp only;omega,by simp only;omega,by simp only;omega,fun j hj=>by simp only[show ¬j=H.next by omega,if_false]⟩,by simp[Fg],HW.refl _⟩ ?_)
 clear hw
 rintro⟨k,m,acc,J⟩ ⟨hk,hacc,htx,hal,hrow,g1,g2,g3,g4⟩
 simp only at hk hacc htx hal hrow g1 g2 g3 g4
 by_cases hlt:k<s.length
 ·have d1:decide ((k:Int)<(s.length:Int))=true:=by simp;omega
  have hne:s.drop k≠[]:=drop_ne hlt
  have hok:=nextR_ok hne
  have hdd:=dec_drop hlt
  simp (maxSteps:=400000) only[wF,storeA,reduceCtorEq,Nat.reduceAdd,Nat.reduceSub,Nat.reduceEqDiff,Nat.reduceLeDiff,Int.reduceToNat,Int.reduceLE,Int.reduceLT,Int.reduceAdd,Int.reduceNeg,Nat.reduceMul,T65,d1]
  refine AInv.pureK B102 (r_next_ok G hlt hs) fun J1 h1=>?_
  have n1:=h1.1
  have row1:J1.get m=some (.row 3 1 (intsA acc)):=by rw[h1.2];exact hrow
  by_cases h0:(nextR (s.drop k)).2=0
  ·have z1:(((nextR (s.drop k)).2:Int)==0)=true:=by rw[h0];rfl
   rw[if_pos (.inl h0)]at hok
   have hF:isTextS s=false:=by rw[←htx,isTextS_step hne,hok];rfl
   simp (maxSteps:=400000) only[wF,storeA,reduceCtorEq,Nat.reduceAdd,Nat.reduceSub,Nat.reduceEqDiff,Nat.reduceLeDiff,Int.reduceToNat,Int.reduceLE,Int.reduceLT,Int.reduceAdd,Int.reduceNeg,Nat.reduceMul,T65,z1]
   refine⟨_,_,Weak.nilLst (a':=[.tup [.lst 0 [],.int .i64 10]]) ⟨.tup' ⟨.nil _ rfl,.same _,trivial⟩,trivial⟩,?_,by omega,fun j hj=>by rw[h1.2];exact g4 j hj⟩
   simp[pointsA,hF]
  ·have z1:(((nextR (s.drop k)).2:Int)==0)=false:=by rw[beq_eq_false_iff_ne];omega
   simp (maxSteps:=400000) only[wF,storeA,reduceCtorEq,Nat.reduceAdd,Nat.reduceSub,Nat.reduceEqDiff,Nat.reduceLeDiff,Int.reduceToNat,Int.reduceLE,Int.reduceLT,Int.reduceAdd,Int.reduceNeg,Nat.reduceMul,T65,z1]
   refine AInv.pureK B103 (r_isChar_ok G _) fun J2 h2=>?_
   have n2:=h2.1
   have row2:J2.get m=some (.row 3 1 (intsA acc)):=by rw[h2.2];exact row1
   have o2:∀j,j<H.next→J2.get j=H.get j:=fun j hj=>by rw[h2.2,h1.2];exact g4 j hj
   cases hc:isCharS ((nextR (s.drop k)).1:Int)with
   | false=>
    rw[if_pos (.inr hc)]at hok
    have hF:isTextS s=false:=by rw[←htx,isTextS_step hne,hok];rfl
    simp (maxSteps:=400000) only[wF,storeA,reduceCtorEq,Nat.reduceAdd,Nat.reduceSub,Nat.reduceEqDiff,Nat.reduceLeDiff,Int.reduceToNat,Int.reduceLE,Int.reduceLT,Int.reduceAdd,Int.reduceNeg,Nat.reduceMul,T65]
    refine⟨_,_,Weak.nilLst (a':=[.tup [.lst 0 [],.int .i64 10]]) ⟨.tup' ⟨.nil _ rfl,.same _,trivial⟩,trivial⟩,?_,by omega,o2⟩
    simp[pointsA,hF]
   | true=>
    rw[if_neg (by simp[h0,hc])]at hok
    obtain⟨hh,hde⟩:=hok
    rw[hde]at hdd
    have u1:(J2.next==m)=false:=by simp;omega
    have u2:(acc.length+1≤maxApp)=True:=by simp[maxApp];omega
    have u3:(m=J2.next)=False:=by simp;omega
    have bl:=intsA_len acc
    have ew:IntKind.i64.wrap ((k:Int)+((nextR (s.drop k)).2:Int))=((k+(nextR (s.drop k)).2:Nat):Int):=by rw[wrap64]<;>omega
    simp (maxSteps:=400000) only[wF,storeA,reduceCtorEq,Nat.reduceAdd,Nat.reduceSub,Nat.reduceEqDiff,Nat.reduceLeDiff,Int.reduceToNat,Int.reduceLE,Int.reduceLT,Int.reduceAdd,Int.reduceNeg,Nat.reduceMul,T65,row2,u1,u2,u3,bl,ew,appendA,appSrc,AV.isSlc,sliceLit,fillA,zerosA,srcCells,AV.boxable,Nat.le_refl,Nat.reduceLT]
    refine⟨(k+(nextR (s.drop k)).2,J2.next+1,acc++[(nextR (s.drop k)).1],_),⟨by simp only;omega,?_,?_,by simp;omega,?_,by simp only;omega,?_,?_,fun j hj=>?_⟩,by simp only;omega,by simp[Fg],HW.refl _⟩
    ·simp only
     rw[←hacc,ptsS_step hne,hde,List.drop_drop]
     simp
    ·simp only
     rw[←htx,isTextS_step hne,hh,hde,List.drop_drop]
     rfl
    ·simp only[AHeap.get_allocAt_same]
     simp[intsA]
    ·simp only[AHeap.next_allocAt,AHeap.next_del];omega
    ·simp only[AHeap.next_allocAt,AHeap.next_del];omega
    ·show(AHeap.allocAt _ _ _).get j=_
     rw[AHeap.get_allocAt_ne _ _ (by omega),AHeap.get_del_ne _ (by omega),AHeap.get_allocAt_ne _ _ (by omega)]
     exact o2 j hj
 ·have d1:decide ((k:Int)<(s.length:Int))=false:=by simp;omega
  rw[List.drop_eq_nil_of_le (by omega)]at hacc htx
  have hacc:acc=ptsS s:=by simpa[ptsS_nil]using hacc
  have hT:isTextS s=true:=by rw[←htx];rfl
  simp (maxSteps:=400000) only[wF,storeA,reduceCtorEq,Nat.reduceAdd,Nat.reduceSub,Nat.reduceEqDiff,Nat.reduceLeDiff,Int.reduceToNat,Int.reduceLE,Int.reduceLT,Int.reduceAdd,Int.reduceNeg,Nat.reduceMul,T65,d1]
  refine⟨_,_,Weak.freezeVal G (j:=m) hrow (by omega) (v' := .tup [.lst acc.length (intsA acc),.int .i64 0]) (.tup' ⟨.slc _ _ rfl,.same _,trivial⟩),?_,g3,fun j hj=>?_⟩
  ·simp[pointsA,hT,hacc]
  ·rw[AHeap.get_del_ne _ (by omega)]
   exact g4 j hj
theorem r_isText_ok (G:Nat→Option (List AV)) {s:List UInt8} (hs:s.length≤1000000000):PureCall Tryz.prog G 26 [.str s] (.bool (isTextS s)):=by
 intro H
 refine ACalls.keep (ACalls.of Tryz.func26 S26_eq R26 N26 rfl rfl ?_)
 simp (maxSteps:=400000) only[wF,storeA,reduceCtorEq,Nat.reduceAdd,Nat.reduceSub,Nat.reduceEqDiff,Nat.reduceLeDiff,Int.reduceToNat,Int.reduceLE,Int.reduceLT,Int.reduceAdd,Int.reduceNeg,Nat.reduceMul,S26,N26,R26,T26]
 refine AInv.pureK B65 (r_points_ok G hs) fun J1 h1=>?_
 cases hT:isTextS s with
 | true=>
  have z:((0:Int)==0)=true:=rfl
  simp only[pointsA,hT,if_true]
  simp (maxSteps:=400000) only[wF,storeA,reduceCtorEq,Nat.reduceAdd,Nat.reduceSub,Nat.reduceEqDiff,Nat.reduceLeDiff,Int.reduceToNat,Int.reduceLE,Int.reduceLT,Int.reduceAdd,Int.reduceNeg,Nat.reduceMul,T26,z]
  exact h1.post
 | false=>
  have z:((10:Int)==0)=false:=rfl
  simp only[pointsA,hT,Bool.false_eq_true,if_false]
  simp (maxSteps:=400000) only[wF,storeA,reduceCtorEq,Nat.reduceAdd,Nat.reduceSub,Nat.reduceEqDiff,Nat.reduceLeDiff,Int.reduceToNat,Int.reduceLE,Int.reduceLT,Int.reduceAdd,Int.reduceNeg,Nat.reduceMul,T26,z]
  exact h1.post
/-! Names. -/
def nameL:List Nat→Nat→Bool→Bool
 | [],colons,first => !first&&decide (colons≤1)
 | c::l,colons,first=>if c=58∧first=false then nameL l (colons+1) true else if partChar first c=true then nameL l colons false else false
def isNameR (s:List UInt8):Bool:=isTextS s&&decide (1≤(ptsS s).length)&&decide ((ptsS s).length≤100)&&nameL (ptsS s) 0 true
theorem r_isName_ok (G:Nat→Option (List AV)) {s:List UInt8} (hs:s.length≤1000000000):PureCall Tryz.prog G 112 [.str s] (.bool (isNameR s)):=by
 intro H
 refine ACalls.keep (ACalls.of Tryz.func112 S112_eq R112 N112 rfl rfl ?_)
 simp (maxSteps:=400000) only[wF,storeA,reduceCtorEq,Nat.reduceAdd,Nat.reduceSub,Nat.reduceEqDiff,Nat.reduceLeDiff,Int.reduceToNat,Int.reduceLE,Int.reduceLT,Int.reduceAdd,Int.reduceNeg,Nat.reduceMul,S112,N112,R112,T112]
 refine AInv.pureK B65 (r_points_ok G hs) fun J1 h1=>?_
 cases hT:isTextS s with
 | false=>
  have z:((10:Int) != 0)=true:=rfl
  simp only[pointsA,hT,Bool.false_eq_true,if_false]
  simp (maxSteps:=400000) only[wF,storeA,reduceCtorEq,Nat.reduceAdd,Nat.reduceSub,Nat.reduceEqDiff,Nat.reduceLeDiff,Int.reduceToNat,Int.reduceLE,Int.reduceLT,Int.reduceAdd,Int.reduceNeg,Nat.reduceMul,T112,z]
  exact⟨by simp[isNameR,hT],h1.post⟩
 | true=>
  have z:((0:Int) != 0)=false:=rfl
  have hl:=ptsS_len s
  simp only[pointsA,hT,if_true]
  have hR:isNameR s=(decide (1≤(ptsS s).length)&&decide ((ptsS s).length≤100)&&nameL (ptsS s) 0 true):=by simp[isNameR,hT]
  generalize ptsS s=P at hl hR
  by_cases h1l:1≤P.length
  case neg=>
   have d1:decide ((P.length:Int)<1)=true:=by simp;omega
   simp (maxSteps:=400000) only[wF,storeA,reduceCtorEq,Nat.reduceAdd,Nat.reduceSub,Nat.reduceEqDiff,Nat.reduceLeDiff,Int.reduceToNat,Int.reduceLE,Int.reduceLT,Int.reduceAdd,Int.reduceNeg,Nat.reduceMul,T112,z,d1]
   exact⟨by rw[hR];simp[h1l],h1.post⟩
  have d1:decide ((P.length:Int)<1)=false:=by simp;omega
  by_cases h2l:P.length≤100
  case neg=>
   have d2:decide ((P.length:Int)>100)=true:=by simp;omega
   simp (maxSteps:=400000) only[wF,storeA,reduceCtorEq,Nat.reduceAdd,Nat.reduceSub,Nat.reduceEqDiff,Nat.reduceLeDiff,Int.reduceToNat,Int.reduceLE,Int.reduceLT,Int.reduceAdd,Int.reduceNeg,Nat.reduceMul,T112,z,d1,d2]
   exact⟨by rw[hR];simp[h2l],h1.post⟩
  have d2:decide ((P.length:Int)>100)=false:=by simp;omega
  have hR:isNameR s=nameL P 0 true:=by rw[hR];simp[h1l,h2l]
  simp (maxSteps:=400000) only[wF,storeA,reduceCtorEq,Nat.reduceAdd,Nat.reduceSub,Nat.reduceEqDiff,Nat.reduceLeDiff,Int.reduceToNat,Int.reduceLE,Int.reduceLT,Int.reduceAdd,Int.reduceNeg,Nat.reduceMul,T112,z,d1,d2]
  refine ATrS.loopK (κ:=Nat × Nat × Bool × AHeap) (fun x=>[.str s,.und,.bool false,.lst P.length (intsA P),.int .i64 0,.int .i64 x.2.1,.bool x.2.2.1,.int .i64 x.1]++List.replicate 59 .und) (fun x=>x.2.2.2)
   (fun x=>x.1≤P.length∧x.2.1≤x.1∧nameL (P.drop x.1) x.2.1 x.2.2.1=isNameR s∧Keeps H x.2.2.2) (fun x=>P.length-x.1) ⟨(0,0,true,J1),⟨Nat.zero_le _,Nat.le_refl _,hR.symm,h1⟩,by simp[Fg],HW.refl _⟩ ?_
  rintro⟨k,co,fi,J⟩ ⟨hk,hco,hn,hH⟩
  simp only at hk hco hn hH
  by_cases hlt:k<P.length
  ·have d0:decide ((k:Int)<(P.length:Int))=true:=by simp;omega
   have q0:((k:Int)<(P.length:Int))=True:=by simp;omega
   have hg:(intsA P)[k]?=some (.int .i64 (P[k]:Int)):=by simp[intsA,List.getElem?_eq_getElem hlt]
   have ew:IntKind.i64.wrap ((k:Int)+1)=((k+1:Nat):Int):=by rw[wrap64]<;>omega
   have ec:IntKind.i64.wrap ((co:Int)+1)=((co+1:Nat):Int):=by rw[wrap64]<;>omega
   rw[List.drop_eq_getElem_cons hlt]at hn
   generalize P[k]=c at hg hn
   by_cases h58:c=58
   ·have b1:((c:Int)==58)=true:=by rw[h58];rfl
    cases fi with
    | false=>
     rw[nameL,if_pos ⟨h58,rfl⟩]at hn
     simp (maxSteps:=400000) only[wF,storeA,reduceCtorEq,Nat.reduceAdd,Nat.reduceSub,Nat.reduceEqDiff,Nat.reduceLeDiff,Int.reduceToNat,Int.reduceLE,Int.reduceLT,Int.reduceAdd,Int.reduceNeg,Nat.reduceMul,T112,d0,q0,hg,indexAddrA,b1,ec,ew]
     exact⟨(k+1,co+1,true,J),⟨hlt,by simp only;omega,hn,hH⟩,by simp only;omega,by simp[Fg],HW.refl _⟩
    | true=>
     rw[nameL,if_neg (by simp)]at hn
     have hp:partChar true (c:Int)=isLetterS (c:Int):=by simp[partChar]
     rw[hp]at hn
     simp (maxSteps:=400000) only[wF,storeA,reduceCtorEq,Nat.reduceAdd,Nat.reduceSub,Nat.reduceEqDiff,Nat.reduceLeDiff,Int.reduceToNat,Int.reduceLE,Int.reduceLT,Int.reduceAdd,Int.reduceNeg,Nat.reduceMul,T112,d0,q0,hg,indexAddrA,b1,ew]
     refine AInv.pureK B138 (r_letter_ok G _) fun J2 h2=>?_
     cases hlt2:isLetterS (c:Int)with
     | true=>
      rw[hlt2,if_pos rfl]at hn
      simp (maxSteps:=400000) only[wF,storeA,reduceCtorEq,Nat.reduceAdd,Nat.reduceSub,Nat.reduceEqDiff,Nat.reduceLeDiff,Int.reduceToNat,Int.reduceLE,Int.reduceLT,Int.reduceAdd,Int.reduceNeg,Nat.reduceMul,T112,ew]
      exact⟨(k+1,co,false,J2),⟨hlt,by simp only;omega,hn,hH.trans h2⟩,by simp only;omega,by simp[Fg],HW.refl _⟩
     | false=>
      rw[hlt2,if_neg (by simp)]at hn
      simp (maxSteps:=400000) only[wF,storeA,reduceCtorEq,Nat.reduceAdd,Nat.reduceSub,Nat.reduceEqDiff,Nat.reduceLeDiff,Int.reduceToNat,Int.reduceLE,Int.reduceLT,Int.reduceAdd,Int.reduceNeg,Nat.reduceMul,T112,ew]
      exact⟨by rw[←hn],(hH.trans h2).post⟩
   ·have b1:((c:Int)==58)=false:=by rw[beq_eq_false_iff_ne];omega
    rw[nameL,if_neg (fun h=>h58 h.1)]at hn
    cases fi with
    | true=>
     have hp:partChar true (c:Int)=isLetterS (c:Int):=by simp[partChar]
     rw[hp]at hn
     simp (maxSteps:=400000) only[wF,storeA,reduceCtorEq,Nat.reduceAdd,Nat.reduceSub,Nat.reduceEqDiff,Nat.reduceLeDiff,Int.reduceToNat,Int.reduceLE,Int.reduceLT,Int.reduceAdd,Int.reduceNeg,Nat.reduceMul,T112,d0,q0,hg,indexAddrA,b1,ew]
     refine AInv.pureK B138 (r_letter_ok G _) fun J2 h2=>?_
     cases hlt2:isLetterS (c:Int)with
     | true=>
      rw[hlt2,if_pos rfl]at hn
      simp (maxSteps:=400000) only[wF,storeA,reduceCtorEq,Nat.reduceAdd,Nat.reduceSub,Nat.reduceEqDiff,Nat.reduceLeDiff,Int.reduceToNat,Int.reduceLE,Int.reduceLT,Int.reduceAdd,Int.reduceNeg,Nat.reduceMul,T112,ew]
      exact⟨(k+1,co,false,J2),⟨hlt,by simp only;omega,hn,hH.trans h2⟩,by simp only;omega,by simp[Fg],HW.refl _⟩
     | false=>
      rw[hlt2,if_neg (by simp)]at hn
      simp (maxSteps:=400000) only[wF,storeA,reduceCtorEq,Nat.reduceAdd,Nat.reduceSub,Nat.reduceEqDiff,Nat.reduceLeDiff,Int.reduceToNat,Int.reduceLE,Int.reduceLT,Int.reduceAdd,Int.reduceNeg,Nat.reduceMul,T112,ew]
      exact⟨by rw[←hn],(hH.trans h2).post⟩
    | false=>
     simp (maxSteps:=400000) only[wF,storeA,reduceCtorEq,Nat.reduceAdd,Nat.reduceSub,Nat.reduceEqDiff,Nat.reduceLeDiff,Int.reduceToNat,Int.reduceLE,Int.reduceLT,Int.reduceAdd,Int.reduceNeg,Nat.reduceMul,T112,d0,q0,hg,indexAddrA,b1,ew]
     refine AInv.pureK B139 (r_inName_ok G _) fun J2 h2=>?_
     cases hlt2:partChar false (c:Int)with
     | true=>
      rw[hlt2,if_pos rfl]at hn
      simp (maxSteps:=400000) only[wF,storeA,reduceCtorEq,Nat.reduceAdd,Nat.reduceSub,Nat.reduceEqDiff,Nat.reduceLeDiff,Int.reduceToNat,Int.reduceLE,Int.reduceLT,Int.reduceAdd,Int.reduceNeg,Nat.reduceMul,T112,ew]
      exact⟨(k+1,co,false,J2),⟨hlt,by simp only;omega,hn,hH.trans h2⟩,by simp only;omega,by simp[Fg],HW.refl _⟩
     | false=>
      rw[hlt2,if_neg (by simp)]at hn
      simp (maxSteps:=400000) only[wF,storeA,reduceCtorEq,Nat.reduceAdd,Nat.reduceSub,Nat.reduceEqDiff,Nat.reduceLeDiff,Int.reduceToNat,Int.reduceLE,Int.reduceLT,Int.reduceAdd,Int.reduceNeg,Nat.reduceMul,T112,ew]
      exact⟨by rw[←hn],(hH.trans h2).post⟩
  ·have d0:decide ((k:Int)<(P.length:Int))=false:=by simp;omega
   rw[List.drop_eq_nil_of_le (by omega),nameL]at hn
   have d3:decide ((co:Int)≤1)=decide (co≤1):=by simp;omega
   cases fi with
   | true=>
    simp (maxSteps:=400000) only[wF,storeA,reduceCtorEq,Nat.reduceAdd,Nat.reduceSub,Nat.reduceEqDiff,Nat.reduceLeDiff,Int.reduceToNat,Int.reduceLE,Int.reduceLT,Int.reduceAdd,Int.reduceNeg,Nat.reduceMul,T112,d0]
    exact⟨by rw[←hn];simp,hH.post⟩
   | false=>
    simp (maxSteps:=400000) only[wF,storeA,reduceCtorEq,Nat.reduceAdd,Nat.reduceSub,Nat.reduceEqDiff,Nat.reduceLeDiff,Int.reduceToNat,Int.reduceLE,Int.reduceLT,Int.reduceAdd,Int.reduceNeg,Nat.reduceMul,T112,d0,d3]
    exact⟨by rw[←hn];simp,hH.post⟩
end Go.Ab
namespace Go.Ab
open Go Go.Lib Go.Proofs
theorem dec_app {h:UInt8} (t b:List UInt8) {x:UInt8} (hx:x.toNat<128):dec (h::(t++x::b))=dec (h::t):=by
 by_cases hh:h.toNat<128
 ·rw[dec_ascii hh,dec_ascii hh]
 ·rcases dec_split t (b:=h) (by omega)with h1 | ⟨c,m,rfl,_,_,_,h3⟩
  ·rcases dec_split (t++x::b) (b:=h) (by omega)with h2 | ⟨c,m,h4,h5,hc,h6,h3⟩
   ·rw[h1,h2]
   ·have hl:c.length≤t.length:=by
     rcases Nat.lt_or_ge t.length c.length with hlt | hge
     ·exfalso
      have hg:=congrArg (fun l=>l[t.length]?) h4
      simp only[List.getElem?_append_right (Nat.le_refl _),Nat.sub_self,List.getElem?_cons_zero,List.getElem?_append_left hlt]at hg
      have hm:x∈c:=List.mem_of_getElem? hg.symm
      have:=hc x hm
      omega
     ·exact hge
    have hct:t=c++t.drop c.length:=by
     have:=congrArg (List.take c.length) h4
     rw[List.take_append_of_le_length hl,List.take_left]at this
     conv=>lhs;rw[←List.take_append_drop c.length t,this]
    rw[←h3 (t.drop c.length),←hct]
  ·rw[List.append_assoc,h3]
theorem dec_app' {l:List UInt8} (hl:l≠[]) (b:List UInt8) {x:UInt8} (hx:x.toNat<128):dec (l++x::b)=dec l:=by
 cases l with
 | nil=>exact absurd rfl hl
 | cons h t=>exact dec_app t b hx
theorem headTextS_app {l:List UInt8} (hl:l≠[]) (b:List UInt8) {x:UInt8} (hx:x.toNat<128):headTextS (l++x::b)=headTextS l:=by
 have hp:Lib.hasPrefix (l++x::b) [239,191,189]=Lib.hasPrefix l [239,191,189]:=by
  unfold Lib.hasPrefix
  match l,hl with
  | [a],_=>
   by_cases h:x=191
   ·rw[h]at hx;exact absurd hx (by decide)
   ·simp[List.isPrefixOf,Ne.symm h]
  | [a,c],_=>
   by_cases h:x=189
   ·rw[h]at hx;exact absurd hx (by decide)
   ·simp[List.isPrefixOf,Ne.symm h]
  | a::c::d::e,_=>simp[List.isPrefixOf]
 unfold headTextS
 rw[dec_app' hl b hx,hp]
theorem drop_app {l:List UInt8} (hl:l≠[]) (b:List UInt8) (x:UInt8):(l++x::b).drop (dec l).2=l.drop (dec l).2++x::b:=List.drop_append_of_le_length (dec_le hl)
theorem isTextS_app {x:UInt8} (hx:x.toNat<128) (b:List UInt8):∀(n:Nat) (l:List UInt8),l.length≤n→isTextS (l++x::b)=(isTextS l&&isCharS (x.toNat:Int)&&isTextS b)
 | _,[],_=>by
  rw[List.nil_append,isTextS_ascii b hx]
  simp[isTextS_nil]
 | 0,b::l,h=>absurd h (by simp)
 | n+1,h::t,hn=>by
  have hne:h::t≠[]:=by simp
  have hp:=dec_pos hne
  rw[isTextS_step (l:=(h::t)++x::b) (by simp),headTextS_app hne b hx,dec_app' hne b hx,drop_app hne,isTextS_app hx b n _ (by simp only[List.length_drop,List.length_cons]at hn ⊢;omega),isTextS_step hne]
  simp only[Bool.and_assoc]
theorem ptsS_app {x:UInt8} (hx:x.toNat<128) (b:List UInt8):∀(n:Nat) (l:List UInt8),l.length≤n→ptsS (l++x::b)=ptsS l++x.toNat::ptsS b
 | _,[],_=>by
  rw[List.nil_append,ptsS_step (by simp),dec_ascii hx]
  rfl
 | 0,b::l,h=>absurd h (by simp)
 | n+1,h::t,hn=>by
  have hne:h::t≠[]:=by simp
  have hp:=dec_pos hne
  rw[ptsS_step (l:=(h::t)++x::b) (by simp),dec_app' hne b hx,drop_app hne,ptsS_app hx b n _ (by simp only[List.length_drop,List.length_cons]at hn ⊢;omega),ptsS_step hne]
  rfl
theorem ptsS_mem {c:Nat} (hc:c<128):∀(n:Nat) (l:List UInt8),l.length≤n→c∈ptsS l→∃x∈l,x.toNat=c
 | _,[],_,h=>by simp[ptsS_nil]at h
 | 0,b::l,h,_=>absurd h (by simp)
 | n+1,h::t,hn,hm=>by
  have hne:h::t≠[]:=by simp
  have hp:=dec_pos hne
  rw[ptsS_step hne,List.mem_cons]at hm
  rcases hm with hm | hm
  ·by_cases hh:h.toNat<128
   ·rw[dec_ascii hh]at hm
    exact⟨h,by simp,hm.symm⟩
   ·have:=dec_high (t:=t) (b:=h) (by omega)
    omega
  ·obtain⟨x,hx,he⟩:=ptsS_mem hc n _ (by simp only[List.length_drop,List.length_cons]at hn ⊢;omega) hm
   exact⟨x,List.mem_of_mem_drop hx,he⟩
theorem ptsS_ne {l:List UInt8}:ptsS l=[]↔l=[]:=by
 constructor
 ·intro h
  cases l with
  | nil=>rfl
  | cons b l=>rw[ptsS_step (by simp)]at h;cases h
 ·rintro rfl
  rfl
/-! A name, by its points. -/
def partP:Bool→List Nat→Bool
 | _,[]=>true
 | first,c::l=>partChar first (c:Int)&&partP false l
theorem partF_pts:∀(f:Nat) (first:Bool) (l:List UInt8),partF f first l=partP first (ptsF f l)
 | 0,_,_=>by simp[partF,ptsF,partP]
 | _+1,_,[]=>by simp[partF,ptsF,partP]
 | f+1,first,b::l=>by simp only[partF,ptsF,partP,partF_pts f]
theorem isPartS_pts (l:List UInt8):isPartS l=(partP true (ptsS l)&&(l != [])):=by
 unfold isPartS ptsS
 rw[partF_pts]
theorem part58 (first:Bool):partChar first ((58:Nat):Int)=false:=by cases first<;>rfl
theorem nameL_two:∀(l:List Nat) (co:Nat) (first:Bool),2≤co→nameL l co first=false
 | [],co,first,h=>by simp[nameL];omega
 | c::l,co,first,h=>by
  rw[nameL]
  split
  ·exact nameL_two l _ _ (by omega)
  split
  ·exact nameL_two l _ _ h
  ·rfl
theorem nameL_one:∀(l:List Nat) (first:Bool),nameL l 1 first=(partP first l && !(first&&l==[]))
 | [],first=>by cases first<;>simp[nameL,partP]
 | c::l,first=>by
  rw[nameL,partP]
  by_cases h:c=58∧first=false
  ·rw[if_pos h,nameL_two l 2 true (Nat.le_refl _),h.1,h.2,part58]
   rfl
  ·rw[if_neg h]
   cases hp:partChar first (c:Int)with
   | false=>rfl
   | true=>
    rw[if_pos rfl,nameL_one l false]
    simp
theorem nameL_plain:∀(l:List Nat) (first:Bool),58 ∉ l→nameL l 0 first=(partP first l && !(first&&l==[]))
 | [],first,_=>by cases first<;>simp[nameL,partP]
 | c::l,first,h=>by
  have hc:c≠58:=fun e=>h (by simp[e])
  rw[nameL,partP,if_neg (fun h=>hc h.1)]
  cases hp:partChar first (c:Int)with
  | false=>rfl
  | true=>
   rw[if_pos rfl,nameL_plain l false (fun hm=>h (by simp[hm]))]
   simp
theorem nameL_colon (R:List Nat):∀(l:List Nat) (first:Bool),58 ∉ l→nameL (l++58::R) 0 first=(partP first l && !(first&&l==[])&&nameL R 1 true)
 | [],first,_=>by
  cases first
  ·simp[nameL,partP]
  ·rw[List.nil_append,nameL,if_neg (by simp)]
   have:=part58 true
   rw[this]
   simp[partP]
 | c::l,first,h=>by
  have hc:c≠58:=fun e=>h (by simp[e])
  rw[List.cons_append,nameL,partP,if_neg (fun h=>hc h.1)]
  cases hp:partChar first (c:Int)with
  | false=>rfl
  | true=>
   rw[if_pos rfl,nameL_colon R l false (fun hm=>h (by simp[hm]))]
   simp
theorem cut_colon (s:List UInt8):(∃a b,s=a++58::b∧(∀x∈a,x≠58)∧Lib.cut s [58]=(a,b,true))∨((∀x∈s,x≠58)∧Lib.cut s [58]=(s,[],false)):=by
 induction s with
 | nil=>exact .inr ⟨by simp,by simp[Lib.cut,Lib.index]⟩
 | cons c s ih=>
  by_cases hc:c=58
  ·subst hc
   left
   refine⟨[],s,rfl,by simp,?_⟩
   simp[Lib.cut,Lib.index,List.isPrefixOf]
  ·have hp:([58]:List UInt8).isPrefixOf (c::s)=false:=by simp[List.isPrefixOf,Ne.symm hc]
   have hge:=Lib.index_ge s [58]
   rcases ih with ⟨a,b,h1,h2,h3⟩ | ⟨h1,h2⟩
   ·left
    have hi:0≤Lib.index s [58]:=by
     unfold Lib.cut at h3
     split at h3
     ·assumption
     ·cases h3
    refine⟨c::a,b,by rw[h1];rfl,?_,?_⟩
    ·intro x hx
     rcases List.mem_cons.1 hx with rfl | hx
     ·exact hc
     ·exact h2 x hx
    ·unfold Lib.cut at h3 ⊢
     rw[if_pos hi]at h3
     have hix:Lib.index (c::s) [58]=Lib.index s [58]+1:=by
      simp only[Lib.index,hp,Bool.false_eq_true,if_false,beq_iff_eq]
      rw[if_neg (by omega)]
     rw[hix,if_pos (by omega)]
     obtain⟨n,hn⟩:∃n:Nat,Lib.index s [58]=n:=⟨(Lib.index s [58]).toNat,by omega⟩
     rw[hn]at h3 ⊢
     simp only[Int.toNat_natCast,Prod.mk.injEq,and_true,List.length_singleton]at h3
     have e:((n:Int)+1).toNat=n+1:=by omega
     rw[e,List.take_succ_cons,show n+1+([58]:List UInt8).length=(n+1)+1 by rfl,List.drop_succ_cons,h3.1,h3.2]
   ·right
    have hi:¬0≤Lib.index s [58]:=by
     intro hi
     unfold Lib.cut at h2
     rw[if_pos hi]at h2
     simp at h2
    refine⟨?_,?_⟩
    ·intro x hx
     rcases List.mem_cons.1 hx with rfl | hx
     ·exact hc
     ·exact h1 x hx
    ·have hix:Lib.index (c::s) [58] = -1:=by
      simp only[Lib.index,hp,Bool.false_eq_true,if_false,beq_iff_eq]
      rw[if_pos (by omega)]
     unfold Lib.cut
     rw[hix,if_neg (by omega)]
theorem isNameR_eq (s:List UInt8):isNameR s=isNameS s:=by
 unfold isNameR isNameS
 rw[countS_pts]
 have h58:∀l:List UInt8,(∀x∈l,x≠58)→58 ∉ ptsS l:=fun l h hm=>by
  obtain⟨x,hx,he⟩:=ptsS_mem (by omega) _ l (Nat.le_refl _) hm
  exact h x hx (UInt8.toNat_inj.1 he)
 rcases cut_colon s with ⟨a,b,rfl,h2,h3⟩ | ⟨h1,h2⟩
 ·rw[h3,ptsS_app (by decide) b _ a (Nat.le_refl _),isPartS_pts,isPartS_pts]
  have e58:(58:UInt8).toNat=58:=rfl
  rw[e58,nameL_colon _ _ _ (h58 a h2),nameL_one]
  have ha:((ptsS a==[]):Bool)=(a==[]):=by rw[Bool.eq_iff_iff];simp[ptsS_ne]
  have hb:((ptsS b==[]):Bool)=(b==[]):=by rw[Bool.eq_iff_iff];simp[ptsS_ne]
  have hl:decide (1≤(ptsS a++58::ptsS b).length)=true:=by simp;omega
  rw[ha,hb,hl]
  simp[bne,Bool.and_assoc]
 ·rw[h2,isPartS_pts,nameL_plain _ _ (h58 s h1)]
  have ha:((ptsS s==[]):Bool)=(s==[]):=by rw[Bool.eq_iff_iff];simp[ptsS_ne]
  rw[ha]
  cases s with
  | nil=>simp[ptsS_nil,isTextS_nil]
  | cons c s=>
   have hl:decide (1≤(ptsS (c::s)).length)=true:=by rw[ptsS_step (by simp)];simp
   rw[hl]
   simp[bne]
end Go.Ab
