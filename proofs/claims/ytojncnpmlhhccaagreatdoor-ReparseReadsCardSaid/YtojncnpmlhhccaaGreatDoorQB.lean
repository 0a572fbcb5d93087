/- The reference of reparse: two attributes of one name, walked. The reference of reparse: white space; a comment, an instruction and an end tag, walked. The reference of reparse: an instruction and an end tag, walked. The reference of reparse: a start tag; the piece at '<', walked. The reference of reparse: how far its pieces reach. -/
import Derived.Test.YtojncnpmlhhccaaGreatDoorQA
import Derived.Test.YtojncnpmlhhccaaGreatDoorHW5
import Derived.Test.YtojncnpmlhhccaaGreatDoorCodesQ3
import Derived.Test.YtojncnpmlhhccaaGreatDoorHWC
set_option linter.all false
namespace Go.Ab
open Go Go.Lib Go.Proofs
theorem names_nodup (l:List (List UInt8 × List UInt8)):(l.map (·.1)).Nodup↔∀i j (hi:i<l.length) (hj:j<i),l[i].1≠l[j].1:=by
 unfold List.Nodup
 rw[List.pairwise_iff_getElem]
 constructor
 ·intro h i j hi hj e
  exact h j i (by simp;omega) (by simpa using hi) hj (by simpa using e.symm)
 ·intro h i j hi hj hij e
  simp only[List.length_map]at hi hj
  refine h j i hj hij ?_
  simpa using e.symm
theorem attrsQ_at:∀(l:List (List UInt8 × List UInt8)) (i:Nat) (h:i<l.length),(attrsH l)[i*2]?=some (.str l[i].1)
 | a::l,0,_=>rfl
 | a::l,i+1,h=>by
  have:=attrsQ_at l i (by simpa using h)
  simp only[attrsH,List.flatMap_cons]at this ⊢
  rw[show(i+1)*2=i*2+1+1 by omega]
  simpa using this
set_option maxHeartbeats 4000000 in
set_option maxRecDepth 100000 in
theorem q_twice_ok (G:Nat→Option (List AV)) {l:List (List UInt8 × List UInt8)} (hl:l.length≤1000000000):PureCall Tryz.prog G 69 [atH l] (.bool (decide (¬(l.map (·.1)).Nodup))):=by
 intro H
 refine ACalls.keep (ACalls.of Tryz.func69 S69_eq R69 N69 rfl rfl ?_)
 by_cases hnil:l=[]
 ·subst hnil
  rw[show atH [] = .nils from rfl]
  simp (maxSteps:=400000) only[wF,storeA,reduceCtorEq,Nat.reduceAdd,Nat.reduceSub,Nat.reduceEqDiff,Nat.reduceLeDiff,Int.reduceToNat,Int.reduceLE,Int.reduceLT,Int.reduceAdd,Int.reduceNeg,Nat.reduceMul,S69,N69,R69,T69]
  refine ATrS.loopK (κ:=Nat) (fun x=>[.nils,.und,.und,.int .i64 x]++List.replicate 23 .und) (fun _=>H) (fun x=>x=0) (fun _=>0) ⟨0,rfl,by simp[Fg],HW.refl _⟩ ?_
  rintro _ rfl
  have d0:decide (((0:Nat):Int)<0)=false:=rfl
  simp (maxSteps:=400000) only[wF,storeA,reduceCtorEq,Nat.reduceAdd,Nat.reduceSub,Nat.reduceEqDiff,Nat.reduceLeDiff,Int.reduceToNat,Int.reduceLE,Int.reduceLT,Int.reduceAdd,Int.reduceNeg,Nat.reduceMul,T69,d0]
  exact⟨rfl,Nat.le_refl _,fun _ _=>by trivial⟩
 rw[show atH l = .lst l.length (attrsH l)from if_neg hnil]
 simp (maxSteps:=400000) only[wF,storeA,reduceCtorEq,Nat.reduceAdd,Nat.reduceSub,Nat.reduceEqDiff,Nat.reduceLeDiff,Int.reduceToNat,Int.reduceLE,Int.reduceLT,Int.reduceAdd,Int.reduceNeg,Nat.reduceMul,S69,N69,R69,T69]
 refine ATrS.loopK (κ:=Nat) (fun x=>[.lst l.length (attrsH l),.und,.und,.int .i64 x]++List.replicate 23 .und) (fun _=>H)
  (fun x=>x≤l.length∧∀i j (hi:i<x) (hil:i<l.length) (hj:j<i),l[i].1≠l[j].1) (fun x=>l.length-x) ⟨0,⟨Nat.zero_le _,fun i j hi=>absurd hi (by omega)⟩,by simp[Fg],HW.refl _⟩ ?_
 rintro k ⟨k1,k2⟩
 by_cases hlt:k<l.length
 case neg=>
  have d1:decide ((k:Int)<(l.length:Int))=false:=by simp;omega
  have hR:decide (¬(l.map (·.1)).Nodup)=false:=by
   rw[decide_eq_false_iff_not,Classical.not_not,names_nodup]
   exact fun i j hi hj=>k2 i j (by omega) hi hj
  simp (maxSteps:=400000) only[wF,storeA,reduceCtorEq,Nat.reduceAdd,Nat.reduceSub,Nat.reduceEqDiff,Nat.reduceLeDiff,Int.reduceToNat,Int.reduceLE,Int.reduceLT,Int.reduceAdd,Int.reduceNeg,Nat.reduceMul,T69,d1]
  exact⟨by rw[hR],Nat.le_refl _,fun _ _=>by trivial⟩
 have d1:decide ((k:Int)<(l.length:Int))=true:=by simp;omega
 simp (maxSteps:=400000) only[wF,storeA,reduceCtorEq,Nat.reduceAdd,Nat.reduceSub,Nat.reduceEqDiff,Nat.reduceLeDiff,Int.reduceToNat,Int.reduceLE,Int.reduceLT,Int.reduceAdd,Int.reduceNeg,Nat.reduceMul,T69,d1]
 refine ATrS.loopK (κ:=Nat) (fun x=>[.lst l.length (attrsH l),.und,.und,.int .i64 k,.int .i64 x]++List.replicate 22 .und) (fun _=>H)
  (fun x=>x≤k∧∀j (hj:j<x) (hk:x≤k),l[k].1≠l[j].1) (fun x=>k-x) ⟨0,⟨Nat.zero_le _,fun j hj=>absurd hj (by omega)⟩,by simp[Fg],HW.refl _⟩ ?_
 rintro m ⟨m1,m2⟩
 by_cases hm:m<k
 case neg=>
  have d2:decide ((m:Int)<(k:Int))=false:=by simp;omega
  have ek:IntKind.i64.wrap ((k:Int)+1)=((k+1:Nat):Int):=by rw[wrap64]<;>omega
  simp (maxSteps:=400000) only[wF,storeA,reduceCtorEq,Nat.reduceAdd,Nat.reduceSub,Nat.reduceEqDiff,Nat.reduceLeDiff,Int.reduceToNat,Int.reduceLE,Int.reduceLT,Int.reduceAdd,Int.reduceNeg,Nat.reduceMul,T69,d2,ek]
  refine⟨k+1,⟨hlt,fun i j hi hil hj=>?_⟩,by omega,by simp[Fg],HW.refl _⟩
  by_cases e:i=k
  ·subst e
   exact m2 j (by omega) m1
  ·exact k2 i j (by omega) hil hj
 have d2:decide ((m:Int)<(k:Int))=true:=by simp;omega
 simp (maxSteps:=400000) only[wF,storeA,reduceCtorEq,Nat.reduceAdd,Nat.reduceSub,Nat.reduceEqDiff,Nat.reduceLeDiff,Int.reduceToNat,Int.reduceLE,Int.reduceLT,Int.reduceAdd,Int.reduceNeg,Nat.reduceMul,T69,d2]
 have ga:=attrsQ_at l k hlt
 have gm:=attrsQ_at l m (by omega)
 have rk:(0≤(k:Int)∧(k:Int)<(l.length:Int))=True:=by simp;omega
 have rm:(0≤(m:Int)∧(m:Int)<(l.length:Int))=True:=by simp;omega
 refine drawW_fixed mixedOrders L69_7_eq P69_7_eq ?_
 simp (maxSteps:=400000) only[wF,storeA,reduceCtorEq,Nat.reduceAdd,Nat.reduceSub,Nat.reduceEqDiff,Nat.reduceLeDiff,Int.reduceToNat,Int.reduceLE,Int.reduceLT,Int.reduceAdd,Int.reduceNeg,Nat.reduceMul,L69_7,T69,ga,gm,rk,rm,indexAddrA,Int.toNat_natCast,Nat.add_zero]
 refine⟨by omega,by omega,?_⟩
 by_cases e:l[k].1=l[m].1
 ·have z:(l[k].1==l[m].1)=true:=by simpa using e
  have hR:decide (¬(l.map (·.1)).Nodup)=true:=by
   rw[decide_eq_true_eq,names_nodup]
   exact fun h=>h k m hlt hm e
  simp (maxSteps:=400000) only[wF,storeA,reduceCtorEq,Nat.reduceAdd,Nat.reduceSub,Nat.reduceEqDiff,Nat.reduceLeDiff,Int.reduceToNat,Int.reduceLE,Int.reduceLT,Int.reduceAdd,Int.reduceNeg,Nat.reduceMul,z]
  exact⟨by rw[hR],Nat.le_refl _,fun _ _=>by trivial⟩
 ·have z:(l[k].1==l[m].1)=false:=by simpa using e
  have em:IntKind.i64.wrap ((m:Int)+1)=((m+1:Nat):Int):=by rw[wrap64]<;>omega
  simp (maxSteps:=400000) only[wF,storeA,reduceCtorEq,Nat.reduceAdd,Nat.reduceSub,Nat.reduceEqDiff,Nat.reduceLeDiff,Int.reduceToNat,Int.reduceLE,Int.reduceLT,Int.reduceAdd,Int.reduceNeg,Nat.reduceMul,z,T69,em]
  refine⟨m+1,⟨hm,fun j hj hk=>?_⟩,by omega,by simp[Fg],HW.refl _⟩
  by_cases e2:j=m
  ·subst e2;exact e
  ·exact m2 j (by omega) m1
end Go.Ab
namespace Go.Ab
open Go Go.Lib Go.Proofs
set_option maxRecDepth 100000 in
theorem spaceR_int (c:UInt8):spaceR c=(((c.toNat:Int)==9)||((c.toNat:Int)==10)||((c.toNat:Int)==13)||((c.toNat:Int)==32)):=by
 have key:∀c:UInt8,spaceR c=(((c.toNat:Int)==9)||((c.toNat:Int)==10)||((c.toNat:Int)==13)||((c.toNat:Int)==32)):=by
  have:∀n,n<256→spaceR (UInt8.ofNat n)=((((UInt8.ofNat n).toNat:Int)==9)||(((UInt8.ofNat n).toNat:Int)==10)||(((UInt8.ofNat n).toNat:Int)==13)||(((UInt8.ofNat n).toNat:Int)==32)):=by decide
  intro c
  have h:=this c.toNat c.toNat_lt
  rwa[UInt8.ofNat_toNat]at h
 exact key c
set_option maxHeartbeats 2000000 in
theorem q_space_ok (G:Nat→Option (List AV)) (c:UInt8):PureCall Tryz.prog G 136 [.int .u8 c.toNat] (.bool (spaceR c)):=by
 intro H
 refine ACalls.keep (ACalls.of Tryz.func136 S136_eq R136 N136 rfl rfl ?_)
 rw[spaceR_int]
 generalize h1:((c.toNat:Int)==9)=b1
 generalize h2:((c.toNat:Int)==10)=b2
 generalize h3:((c.toNat:Int)==13)=b3
 generalize h4:((c.toNat:Int)==32)=b4
 cases b1<;>cases b2<;>cases b3<;>cases b4<;>simp (maxSteps:=400000) only[wF,storeA,reduceCtorEq,Nat.reduceAdd,Nat.reduceSub,Nat.reduceEqDiff,Nat.reduceLeDiff,Int.reduceToNat,Int.reduceLE,Int.reduceLT,Int.reduceAdd,Int.reduceNeg,Nat.reduceMul,S136,N136,R136,h1,h2,h3,h4]<;>exact⟨rfl,Nat.le_refl _,fun _ _=>by trivial⟩
set_option maxHeartbeats 4000000 in
set_option maxRecDepth 100000 in
theorem q_isSpace_ok (G:Nat→Option (List AV)) {s:List UInt8} (hs:s.length≤1000000000):PureCall Tryz.prog G 108 [.str s] (.bool (s.all spaceR)):=by
 intro H
 refine ACalls.keep (ACalls.of Tryz.func108 S108_eq R108 N108 rfl rfl ?_)
 simp (maxSteps:=400000) only[wF,storeA,reduceCtorEq,Nat.reduceAdd,Nat.reduceSub,Nat.reduceEqDiff,Nat.reduceLeDiff,Int.reduceToNat,Int.reduceLE,Int.reduceLT,Int.reduceAdd,Int.reduceNeg,Nat.reduceMul,S108,N108,R108,T108]
 refine ATrS.loopK (κ:=Nat × AHeap) (fun x=>[.str s,.und,.und,.int .i64 x.1]++List.replicate 11 .und) (fun x=>x.2)
  (fun x=>x.1≤s.length∧(s.drop x.1).all spaceR=s.all spaceR∧Keeps H x.2) (fun x=>s.length-x.1) ⟨(0,H),⟨Nat.zero_le _,rfl,Keeps.refl H⟩,by simp[Fg],HW.refl _⟩ ?_
 rintro⟨k,J⟩ ⟨hk,hin,hJ⟩
 simp only at hk hin hJ
 by_cases hlt:k<s.length
 ·have d0:decide ((k:Int)<(s.length:Int))=true:=by simp;omega
  have ew:IntKind.i64.wrap ((k:Int)+1)=((k+1:Nat):Int):=by rw[wrap64]<;>omega
  have hg:s[k]?=some s[k]:=List.getElem?_eq_getElem hlt
  rw[List.drop_eq_getElem_cons hlt,List.all_cons]at hin
  generalize s[k]=c at hg hin
  simp (maxSteps:=400000) only[wF,storeA,reduceCtorEq,Nat.reduceAdd,Nat.reduceSub,Nat.reduceEqDiff,Nat.reduceLeDiff,Int.reduceToNat,Int.reduceLE,Int.reduceLT,Int.reduceAdd,Int.reduceNeg,Nat.reduceMul,T108,d0,hg]
  refine AInv.pureK B136 (q_space_ok G c) fun J1 j1=>?_
  cases hc:spaceR c with
  | true=>
   rw[hc,Bool.true_and]at hin
   simp (maxSteps:=400000) only[wF,storeA,reduceCtorEq,Nat.reduceAdd,Nat.reduceSub,Nat.reduceEqDiff,Nat.reduceLeDiff,Int.reduceToNat,Int.reduceLE,Int.reduceLT,Int.reduceAdd,Int.reduceNeg,Nat.reduceMul,T108,Bool.not_true,ew]
   exact⟨(k+1,J1),⟨hlt,hin,hJ.trans j1⟩,by simp only;omega,by simp[Fg],HW.refl _⟩
  | false=>
   rw[hc,Bool.false_and]at hin
   simp (maxSteps:=400000) only[wF,storeA,reduceCtorEq,Nat.reduceAdd,Nat.reduceSub,Nat.reduceEqDiff,Nat.reduceLeDiff,Int.reduceToNat,Int.reduceLE,Int.reduceLT,Int.reduceAdd,Int.reduceNeg,Nat.reduceMul,T108,Bool.not_false]
   exact⟨by rw[←hin],(hJ.trans j1).post⟩
 ·have d0:decide ((k:Int)<(s.length:Int))=false:=by simp;omega
  rw[List.drop_eq_nil_of_le (by omega)]at hin
  simp (maxSteps:=400000) only[wF,storeA,reduceCtorEq,Nat.reduceAdd,Nat.reduceSub,Nat.reduceEqDiff,Nat.reduceLeDiff,Int.reduceToNat,Int.reduceLE,Int.reduceLT,Int.reduceAdd,Int.reduceNeg,Nat.reduceMul,T108,d0]
  exact⟨by rw[←hin];rfl,hJ.post⟩
/-! Pieces. -/
def pieceV:Option (Ev × Nat)→AV
 | none => .tup [.agg (evH ⟨0,[],[],[],0,0⟩),.int .i64 (-1)]
 | some x => .tup [.agg (evH x.1),.int .i64 x.2]
set_option maxHeartbeats 4000000 in
set_option maxRecDepth 100000 in
theorem q_comment_ok (G:Nat→Option (List AV)) {s:List UInt8} {i:Nat} (hs:s.length≤100000000) (hp:Lib.hasPrefix (s.drop i) sCom=true) (H:AHeap) :
  ACalls Tryz.prog G 68 [.str s,.int .i64 i] H fun r H'=>r = .ret (pieceV ((commentRS s i).map fun x=>(⟨3,[],x.1,[],0,0⟩,x.2)))∧Kept H H':=by
 refine ACalls.ret (ACalls.of Tryz.func68 S68_eq R68 N68 rfl rfl ?_)
 have hpl:=hasPrefix_len hp
 simp only[List.length_drop,sCom,List.length_cons,List.length_nil]at hpl
 have ew:IntKind.i64.wrap ((i:Int)+4)=((i+4:Nat):Int):=by rw[wrap64]<;>omega
 simp (maxSteps:=400000) only[wF,storeA,reduceCtorEq,Nat.reduceAdd,Nat.reduceSub,Nat.reduceEqDiff,Nat.reduceLeDiff,Int.reduceToNat,Int.reduceLE,Int.reduceLT,Int.reduceAdd,Int.reduceNeg,Nat.reduceMul,S68,N68,R68,T68,AV.boxable]
 refine AInv.pureK B66 (q_begins_ok G (by omega) (by omega) (by simp)) fun H1 h1=>?_
 rw[show Lib.hasPrefix (s.drop i) [60,33,45,45]=true from hp]
 simp (maxSteps:=400000) only[wF,storeA,reduceCtorEq,Nat.reduceAdd,Nat.reduceSub,Nat.reduceEqDiff,Nat.reduceLeDiff,Int.reduceToNat,Int.reduceLE,Int.reduceLT,Int.reduceAdd,Int.reduceNeg,Nat.reduceMul,T68,ew]
 refine AInv.pureK B104 (q_find_ok G (by omega) (by omega) (by simp) (by simp)) fun H2 h2=>?_
 have n1:=h1.1
 have n2:=h2.1
 simp only[AHeap.next_allocAt]at n1
 have x0:H2.get H.next=some (.cells 88 (evH ⟨0,[],[],[],0,0⟩)):=by rw[h2.2,h1.2,AHeap.get_allocAt_same];rfl
 have xo:∀j,j<H.next→H2.get j=H.get j:=fun j hj=>by rw[h2.2,h1.2,AHeap.get_allocAt_ne _ _ (by omega)]
 unfold commentRS
 have hf:=findR_nat s sDash (i+4) (by simp[sDash])
 rw[show([45,45]:List UInt8)=sDash from rfl]
 generalize findR s (i+4) sDash=f at hf
 have x0':=x0
 simp only[evH,show atH [] = .nils from rfl]at x0'
 have fin:∀(J:AHeap) (o:AObj),H.next≤J.next→(∀j,j<H.next→J.get j=H.get j)→Kept H (J.set H.next o):=fun J o a b=>⟨a,fun j hj=>by rw[AHeap.get_set_ne _ _ (by omega)];exact b j hj⟩
 rcases hf with rfl | ⟨n,rfl,hn1,hn2⟩
 ·have d0:decide ((-1:Int)<0)=true:=rfl
  rw[if_pos (.inl (by decide))]
  simp (maxSteps:=400000) only[wF,storeA,reduceCtorEq,Nat.reduceAdd,Nat.reduceSub,Nat.reduceEqDiff,Nat.reduceLeDiff,Int.reduceToNat,Int.reduceLE,Int.reduceLT,Int.reduceAdd,Int.reduceNeg,Nat.reduceMul,T68,d0,x0',buildA,fillA,AV.boxable]
  exact⟨_,_,Weak.refl G _ _,rfl,fin H2 _ (by omega) xo⟩
 have d0:decide ((n:Int)<0)=false:=by simp
 simp only[sDash,List.length_cons,List.length_nil]at hn2
 rw[Int.toNat_natCast]
 simp (maxSteps:=400000) only[wF,storeA,reduceCtorEq,Nat.reduceAdd,Nat.reduceSub,Nat.reduceEqDiff,Nat.reduceLeDiff,Int.reduceToNat,Int.reduceLE,Int.reduceLT,Int.reduceAdd,Int.reduceNeg,Nat.reduceMul,T68,d0]
 refine AInv.pureK B66 (q_begins_ok G (by omega) (by omega) (by simp)) fun H3 h3=>?_
 have n3:=h3.1
 have x3:=(congrFun h3.2 _).trans x0'
 have xo3:∀j,j<H.next→H3.get j=H.get j:=fun j hj=>(congrFun h3.2 _).trans (xo j hj)
 cases hb:Lib.hasPrefix (s.drop n) [45,45,62]with
 | false=>
  rw[if_pos (.inr rfl)]
  simp (maxSteps:=400000) only[wF,storeA,reduceCtorEq,Nat.reduceAdd,Nat.reduceSub,Nat.reduceEqDiff,Nat.reduceLeDiff,Int.reduceToNat,Int.reduceLE,Int.reduceLT,Int.reduceAdd,Int.reduceNeg,Nat.reduceMul,T68,Bool.not_false,x3,buildA,fillA,AV.boxable]
  exact⟨_,_,Weak.refl G _ _,rfl,fin H3 _ (by omega) xo3⟩
 | true=>
  have hbl:=hasPrefix_len hb
  simp only[List.length_drop,List.length_cons,List.length_nil]at hbl
  rw[if_neg (by simp)]
  have q1:(((i+4:Nat):Int)≤(n:Int))=True:=by simp;omega
  have q2:((n:Int)≤(s.length:Int))=True:=by simp;omega
  have q3:((0:Int)≤((i+4:Nat):Int))=True:=by simp;omega
  have ew3:IntKind.i64.wrap ((n:Int)+3)=((n+3:Nat):Int):=by rw[wrap64]<;>omega
  simp (maxSteps:=400000) only[wF,storeA,reduceCtorEq,Nat.reduceAdd,Nat.reduceSub,Nat.reduceEqDiff,Nat.reduceLeDiff,Int.reduceToNat,Int.reduceLE,Int.reduceLT,Int.reduceAdd,Int.reduceNeg,Nat.reduceMul,T68,Bool.not_true,x3,ew,ew3,q1,q2,q3,w_sliceBoth,Int.toNat_natCast,buildA,fillA,AV.boxable]
  exact⟨_,_,Weak.refl G _ _,rfl,fin H3 _ (by omega) xo3⟩
end Go.Ab
namespace Go.Ab
open Go Go.Lib Go.Proofs
set_option maxHeartbeats 4000000 in
set_option maxRecDepth 100000 in
theorem q_end_ok (G:Nat→Option (List AV)) {s:List UInt8} {i:Nat} (hs:s.length≤100000000) (hp1:Lib.hasPrefix (s.drop i) sCom=false) (hp2:Lib.hasPrefix (s.drop i) [60,63]=false) (hp:Lib.hasPrefix (s.drop i) [60,47]=true) (H:AHeap) :
  ACalls Tryz.prog G 68 [.str s,.int .i64 i] H fun r H'=>r = .ret (pieceV ((endRS s i).map fun x=>(⟨1,x.1,[],[],0,0⟩,x.2)))∧Kept H H':=by
 refine ACalls.ret (ACalls.of Tryz.func68 S68_eq R68 N68 rfl rfl ?_)
 have hpl:=hasPrefix_len hp
 simp only[List.length_drop,List.length_cons,List.length_nil]at hpl
 have ew:IntKind.i64.wrap ((i:Int)+2)=((i+2:Nat):Int):=by rw[wrap64]<;>omega
 simp (maxSteps:=400000) only[wF,storeA,reduceCtorEq,Nat.reduceAdd,Nat.reduceSub,Nat.reduceEqDiff,Nat.reduceLeDiff,Int.reduceToNat,Int.reduceLE,Int.reduceLT,Int.reduceAdd,Int.reduceNeg,Nat.reduceMul,S68,N68,R68,T68,AV.boxable]
 refine AInv.pureK B66 (q_begins_ok G (by omega) (by omega) (by simp)) fun H1 h1=>?_
 rw[show Lib.hasPrefix (s.drop i) [60,33,45,45]=false from hp1]
 simp (maxSteps:=400000) only[wF,storeA,reduceCtorEq,Nat.reduceAdd,Nat.reduceSub,Nat.reduceEqDiff,Nat.reduceLeDiff,Int.reduceToNat,Int.reduceLE,Int.reduceLT,Int.reduceAdd,Int.reduceNeg,Nat.reduceMul,T68]
 refine AInv.pureK B66 (q_begins_ok G (by omega) (by omega) (by simp)) fun H2 h2=>?_
 rw[hp2]
 simp (maxSteps:=400000) only[wF,storeA,reduceCtorEq,Nat.reduceAdd,Nat.reduceSub,Nat.reduceEqDiff,Nat.reduceLeDiff,Int.reduceToNat,Int.reduceLE,Int.reduceLT,Int.reduceAdd,Int.reduceNeg,Nat.reduceMul,T68]
 refine AInv.pureK B66 (q_begins_ok G (by omega) (by omega) (by simp)) fun H3 h3=>?_
 rw[hp]
 simp (maxSteps:=400000) only[wF,storeA,reduceCtorEq,Nat.reduceAdd,Nat.reduceSub,Nat.reduceEqDiff,Nat.reduceLeDiff,Int.reduceToNat,Int.reduceLE,Int.reduceLT,Int.reduceAdd,Int.reduceNeg,Nat.reduceMul,T68,ew]
 refine AInv.pureK B106 (q_name_ok G (by omega) (by omega)) fun H4 h4=>?_
 have n1:=h1.1
 have h24:=(h2.trans h3).trans h4
 have n2:=h24.1
 simp only[AHeap.next_allocAt]at n1
 have x0:H4.get H.next=some (.cells 88 (evH ⟨0,[],[],[],0,0⟩)):=by rw[h24.2,h1.2,AHeap.get_allocAt_same];rfl
 have xo:∀j,j<H.next→H4.get j=H.get j:=fun j hj=>by rw[h24.2,h1.2,AHeap.get_allocAt_ne _ _ (by omega)]
 unfold endRS
 have kge:=nameR_ge s (i+2)
 have kle:=nameR_le (s:=s) (i:=i+2) (by omega)
 generalize nameR s (i+2)=k at kge kle
 have x0':=x0
 simp only[evH,show atH [] = .nils from rfl]at x0'
 have fin:∀(J:AHeap) (o:AObj),H.next≤J.next→(∀j,j<H.next→J.get j=H.get j)→Kept H (J.set H.next o):=fun J o a b=>⟨a,fun j hj=>by rw[AHeap.get_set_ne _ _ (by omega)];exact b j hj⟩
 by_cases hk0:k=i+2
 ·have b1:((k:Int)==((i+2:Nat):Int))=true:=by rw[hk0];simp
  rw[if_pos (.inl hk0)]
  simp (maxSteps:=400000) only[wF,storeA,reduceCtorEq,Nat.reduceAdd,Nat.reduceSub,Nat.reduceEqDiff,Nat.reduceLeDiff,Int.reduceToNat,Int.reduceLE,Int.reduceLT,Int.reduceAdd,Int.reduceNeg,Nat.reduceMul,T68,ew,b1,x0',buildA,fillA,AV.boxable]
  exact⟨_,_,Weak.refl G _ _,rfl,fin H4 _ (by omega) xo⟩
 have b1:((k:Int)==((i+2:Nat):Int))=false:=by rw[beq_eq_false_iff_ne];omega
 simp (maxSteps:=400000) only[wF,storeA,reduceCtorEq,Nat.reduceAdd,Nat.reduceSub,Nat.reduceEqDiff,Nat.reduceLeDiff,Int.reduceToNat,Int.reduceLE,Int.reduceLT,Int.reduceAdd,Int.reduceNeg,Nat.reduceMul,T68,ew,b1]
 refine AInv.pureK B66 (q_begins_ok G (by omega) (by omega) (by simp)) fun H5 h5=>?_
 have n5:=h5.1
 have x5:=(congrFun h5.2 _).trans x0'
 have xo5:∀j,j<H.next→H5.get j=H.get j:=fun j hj=>(congrFun h5.2 _).trans (xo j hj)
 cases hb:Lib.hasPrefix (s.drop k) [62]with
 | false=>
  rw[if_pos (.inr rfl)]
  simp (maxSteps:=400000) only[wF,storeA,reduceCtorEq,Nat.reduceAdd,Nat.reduceSub,Nat.reduceEqDiff,Nat.reduceLeDiff,Int.reduceToNat,Int.reduceLE,Int.reduceLT,Int.reduceAdd,Int.reduceNeg,Nat.reduceMul,T68,Bool.not_false,x5,buildA,fillA,AV.boxable]
  exact⟨_,_,Weak.refl G _ _,rfl,fin H5 _ (by omega) xo5⟩
 | true=>
  have hbl:=hasPrefix_len hb
  simp only[List.length_drop,List.length_cons,List.length_nil]at hbl
  rw[if_neg (by simp[hk0])]
  have q1:(((i+2:Nat):Int)≤(k:Int))=True:=by simp;omega
  have q2:((k:Int)≤(s.length:Int))=True:=by simp;omega
  have q3:((0:Int)≤((i+2:Nat):Int))=True:=by simp;omega
  have ew3:IntKind.i64.wrap ((k:Int)+1)=((k+1:Nat):Int):=by rw[wrap64]<;>omega
  simp (maxSteps:=400000) only[wF,storeA,reduceCtorEq,Nat.reduceAdd,Nat.reduceSub,Nat.reduceEqDiff,Nat.reduceLeDiff,Int.reduceToNat,Int.reduceLE,Int.reduceLT,Int.reduceAdd,Int.reduceNeg,Nat.reduceMul,T68,Bool.not_true,x5,ew,ew3,q1,q2,q3,w_sliceBoth,Int.toNat_natCast,buildA,fillA,AV.boxable]
  exact⟨_,_,Weak.refl G _ _,rfl,fin H5 _ (by omega) xo5⟩
set_option maxHeartbeats 4000000 in
set_option maxRecDepth 100000 in
theorem q_instr_ok (G:Nat→Option (List AV)) {s:List UInt8} {i:Nat} (hs:s.length≤100000000) (hp1:Lib.hasPrefix (s.drop i) sCom=false) (hp:Lib.hasPrefix (s.drop i) [60,63]=true) (H:AHeap) :
  ACalls Tryz.prog G 68 [.str s,.int .i64 i] H fun r H'=>r = .ret (pieceV ((instrRS s i).map fun x=>(⟨4,x.1,x.2.1,[],0,0⟩,x.2.2)))∧Kept H H':=by
 refine ACalls.ret (ACalls.of Tryz.func68 S68_eq R68 N68 rfl rfl ?_)
 have hpl:=hasPrefix_len hp
 simp only[List.length_drop,List.length_cons,List.length_nil]at hpl
 have ew:IntKind.i64.wrap ((i:Int)+2)=((i+2:Nat):Int):=by rw[wrap64]<;>omega
 simp (maxSteps:=400000) only[wF,storeA,reduceCtorEq,Nat.reduceAdd,Nat.reduceSub,Nat.reduceEqDiff,Nat.reduceLeDiff,Int.reduceToNat,Int.reduceLE,Int.reduceLT,Int.reduceAdd,Int.reduceNeg,Nat.reduceMul,S68,N68,R68,T68,AV.boxable]
 refine AInv.pureK B66 (q_begins_ok G (by omega) (by omega) (by simp)) fun H1 h1=>?_
 rw[show Lib.hasPrefix (s.drop i) [60,33,45,45]=false from hp1]
 simp (maxSteps:=400000) only[wF,storeA,reduceCtorEq,Nat.reduceAdd,Nat.reduceSub,Nat.reduceEqDiff,Nat.reduceLeDiff,Int.reduceToNat,Int.reduceLE,Int.reduceLT,Int.reduceAdd,Int.reduceNeg,Nat.reduceMul,T68]
 refine AInv.pureK B66 (q_begins_ok G (by omega) (by omega) (by simp)) fun H2 h2=>?_
 rw[hp]
 simp (maxSteps:=400000) only[wF,storeA,reduceCtorEq,Nat.reduceAdd,Nat.reduceSub,Nat.reduceEqDiff,Nat.reduceLeDiff,Int.reduceToNat,Int.reduceLE,Int.reduceLT,Int.reduceAdd,Int.reduceNeg,Nat.reduceMul,T68,ew]
 refine AInv.pureK B106 (q_name_ok G (by omega) (by omega)) fun H3 h3=>?_
 have n1:=h1.1
 have h24:=h2.trans h3
 have n2:=h24.1
 simp only[AHeap.next_allocAt]at n1
 have x0:H3.get H.next=some (.cells 88 (evH ⟨0,[],[],[],0,0⟩)):=by rw[h24.2,h1.2,AHeap.get_allocAt_same];rfl
 have xo:∀j,j<H.next→H3.get j=H.get j:=fun j hj=>by rw[h24.2,h1.2,AHeap.get_allocAt_ne _ _ (by omega)]
 unfold instrRS
 have kge:=nameR_ge s (i+2)
 have kle:=nameR_le (s:=s) (i:=i+2) (by omega)
 generalize nameR s (i+2)=k at kge kle
 have q1:(((i+2:Nat):Int)≤(k:Int))=True:=by simp;omega
 have q2:((k:Int)≤(s.length:Int))=True:=by simp;omega
 have q3:((0:Int)≤((i+2:Nat):Int))=True:=by simp;omega
 simp (maxSteps:=400000) only[wF,storeA,reduceCtorEq,Nat.reduceAdd,Nat.reduceSub,Nat.reduceEqDiff,Nat.reduceLeDiff,Int.reduceToNat,Int.reduceLE,Int.reduceLT,Int.reduceAdd,Int.reduceNeg,Nat.reduceMul,T68,ew,q1,q2,q3,w_sliceBoth,Int.toNat_natCast,buildA,fillA,AV.boxable]
 generalize hnm:List.drop (i+2) (List.take k s)=nm
 have hnl:nm.length≤s.length:=by rw[←hnm];simp only[List.length_drop,List.length_take];omega
 generalize hX:AHeap.set (AHeap.allocAt H3 H3.next _) H3.next _=X
 have xn:X.next=H3.next+1:=by rw[←hX];simp only[AHeap.next_set,AHeap.next_allocAt];omega
 have xa:X.get H.next=some (.cells 88 [.int .i64 0,.str [],.str [],.nils,.int .i64 0,.int .i64 0]):=by rw[←hX,AHeap.get_set_ne _ _ (by omega),AHeap.get_allocAt_ne _ _ (by omega)];exact x0
 have xb:X.get H3.next=some (.cells 88 [.int .i64 4,.str nm,.str [],.nils,.int .i64 0,.int .i64 0]):=by rw[←hX,AHeap.get_set_same]
 have xo1:∀j,j<H.next→X.get j=H.get j:=fun j hj=>by rw[←hX,AHeap.get_set_ne _ _ (by omega),AHeap.get_allocAt_ne _ _ (by omega)];exact xo j hj
 clear hX
 refine AInv.pureK B104 (q_find_ok G (by omega) (by omega) (by simp) (by simp)) fun H4 h4=>?_
 have n4:=h4.1
 have u1:(H.next=H3.next)=False:=eq_false (by omega)
 have u2:(H3.next=H.next)=False:=eq_false (by omega)
 replace xa:=(congrFun h4.2 _).trans xa
 replace xb:=(congrFun h4.2 _).trans xb
 replace xo1:∀j,j<H.next→H4.get j=H.get j:=fun j hj=>(congrFun h4.2 _).trans (xo1 j hj)
 have hf:=findR_nat s [62] k (by simp)
 generalize findR s k [62]=f at hf
 have fin:∀(J:AHeap) (o:AObj),H.next≤J.next→(∀j,j<H.next→J.get j=H.get j)→Kept H (J.set H.next o):=fun J o a b=>⟨a,fun j hj=>by rw[AHeap.get_set_ne _ _ (by omega)];exact b j hj⟩
 by_cases hk0:k=i+2
 ·have b1:((k:Int)==((i+2:Nat):Int))=true:=by rw[hk0];simp
  rw[if_pos (.inl hk0)]
  simp (maxSteps:=400000) only[wF,storeA,reduceCtorEq,Nat.reduceAdd,Nat.reduceSub,Nat.reduceEqDiff,Nat.reduceLeDiff,Int.reduceToNat,Int.reduceLE,Int.reduceLT,Int.reduceAdd,Int.reduceNeg,Nat.reduceMul,T68,ew,b1,xa,buildA,fillA,AV.boxable]
  exact⟨_,_,Weak.refl G _ _,rfl,fin H4 _ (by omega) xo1⟩
 have b1:((k:Int)==((i+2:Nat):Int))=false:=by rw[beq_eq_false_iff_ne];omega
 simp (maxSteps:=400000) only[wF,storeA,reduceCtorEq,Nat.reduceAdd,Nat.reduceSub,Nat.reduceEqDiff,Nat.reduceLeDiff,Int.reduceToNat,Int.reduceLE,Int.reduceLT,Int.reduceAdd,Int.reduceNeg,Nat.reduceMul,T68,ew,b1,xb]
 refine AInv.pureK B107 (q_small_ok G (by omega)) fun H5 h5=>?_
 have n5:=h5.1
 replace xa:=(congrFun h5.2 _).trans xa
 replace xb:=(congrFun h5.2 _).trans xb
 replace xo1:∀j,j<H.next→H5.get j=H.get j:=fun j hj=>(congrFun h5.2 _).trans (xo1 j hj)
 rw[lowBC]
 cases hx:(lowS nm==[120,109,108])with
 | true=>
  rw[if_pos (.inr (.inl (beq_iff_eq.1 hx)))]
  simp (maxSteps:=400000) only[wF,storeA,reduceCtorEq,Nat.reduceAdd,Nat.reduceSub,Nat.reduceEqDiff,Nat.reduceLeDiff,Int.reduceToNat,Int.reduceLE,Int.reduceLT,Int.reduceAdd,Int.reduceNeg,Nat.reduceMul,T68,hx,xa,buildA,fillA,AV.boxable]
  exact⟨_,_,Weak.refl G _ _,rfl,fin H5 _ (by omega) xo1⟩
 | false=>
 have hx':¬lowS nm=[120,109,108]:=by simpa using hx
 rcases hf with rfl | ⟨n,rfl,hn1,hn2⟩
 ·have d0:decide ((-1:Int)<0)=true:=rfl
  rw[if_pos (.inr (.inr (by decide)))]
  simp (maxSteps:=400000) only[wF,storeA,reduceCtorEq,Nat.reduceAdd,Nat.reduceSub,Nat.reduceEqDiff,Nat.reduceLeDiff,Int.reduceToNat,Int.reduceLE,Int.reduceLT,Int.reduceAdd,Int.reduceNeg,Nat.reduceMul,T68,hx,d0,xa,buildA,fillA,AV.boxable]
  exact⟨_,_,Weak.refl G _ _,rfl,fin H5 _ (by omega) xo1⟩
 have d0:decide ((n:Int)<0)=false:=by simp
 simp only[List.length_singleton]at hn2
 rw[if_neg (c:=k=i+2∨_) (by simp[hk0,hx']),Int.toNat_natCast]
 have ewk:IntKind.i64.wrap ((k:Int)+1)=((k+1:Nat):Int):=by rw[wrap64]<;>omega
 have ewk2:IntKind.i64.wrap ((k:Int)+2)=((k+2:Nat):Int):=by rw[wrap64]<;>omega
 have ewn:IntKind.i64.wrap ((n:Int)+1)=((n+1:Nat):Int):=by rw[wrap64]<;>omega
 have mn:(if(n:Int)<((k+1:Nat):Int)then(n:Int)else((k+1:Nat):Int))=((min (k+1) n:Nat):Int):=by split<;>omega
 have p1:((0:Int)≤((min (k+1) n:Nat):Int))=True:=eq_true (by omega)
 have p2:(((min (k+1) n:Nat):Int)≤(n:Int))=True:=eq_true (by omega)
 have p3:((n:Int)≤(s.length:Int))=True:=by simp;omega
 by_cases hkn:k<n
 case neg=>
  have d1:decide ((n:Int)>(k:Int))=false:=by simp;omega
  rw[if_neg (fun h=>absurd h.1 (by omega))]
  simp (maxSteps:=400000) only[wF,storeA,reduceCtorEq,Nat.reduceAdd,Nat.reduceSub,Nat.reduceEqDiff,Nat.reduceLeDiff,Int.reduceToNat,Int.reduceLE,Int.reduceLT,Int.reduceAdd,Int.reduceNeg,Nat.reduceMul,T68,hx,d0,d1,xa,xb,u1,u2,ewk,ewn,mn,p1,p2,p3,w_sliceBoth,Int.toNat_natCast,buildA,fillA,AV.boxable]
  refine⟨_,_,Weak.refl G _ _,rfl,by simp only[AHeap.next_set];omega,fun j hj=>?_⟩
  rw[AHeap.get_set_ne _ _ (by omega),AHeap.get_set_ne _ _ (by omega)]
  exact xo1 j hj
 have d1:decide ((n:Int)>(k:Int))=true:=by simp;omega
 have hks:k<s.length:=by omega
 have hg:s[k]?=some s[k]:=List.getElem?_eq_getElem hks
 have hgD:s.getD k 0=s[k]:=by rw[List.getD_eq_getElem?_getD,hg];rfl
 rw[hgD]
 generalize s[k]=c at hg
 have h32:c=32↔((c.toNat:Int)==32)=true:=by
  rw[beq_iff_eq]
  constructor
  ·rintro rfl;rfl
  ·intro h;exact UInt8.toNat_inj.1 (by simpa using Int.ofNat_inj.1 h)
 by_cases hc:c=32
 case neg=>
  have b2:((c.toNat:Int) != 32)=true:=by
   cases hq:((c.toNat:Int)==32)with
   | true=>exact absurd (h32.2 hq) hc
   | false=>simp[bne,hq]
  rw[if_pos ⟨by omega,.inl hc⟩]
  simp (maxSteps:=400000) only[wF,storeA,reduceCtorEq,Nat.reduceAdd,Nat.reduceSub,Nat.reduceEqDiff,Nat.reduceLeDiff,Int.reduceToNat,Int.reduceLE,Int.reduceLT,Int.reduceAdd,Int.reduceNeg,Nat.reduceMul,T68,hx,d0,d1,hg,b2,xa,buildA,fillA,AV.boxable]
  exact⟨_,_,Weak.refl G _ _,rfl,fin H5 _ (by omega) xo1⟩
 have b2:((c.toNat:Int) != 32)=false:=by simp[bne,h32.1 hc]
 by_cases hn1k:n=k+1
 ·have b3:((n:Int)==((k+1:Nat):Int))=true:=by rw[hn1k];simp
  rw[if_pos ⟨by omega,.inr (.inl (by omega))⟩]
  simp (maxSteps:=400000) only[wF,storeA,reduceCtorEq,Nat.reduceAdd,Nat.reduceSub,Nat.reduceEqDiff,Nat.reduceLeDiff,Int.reduceToNat,Int.reduceLE,Int.reduceLT,Int.reduceAdd,Int.reduceNeg,Nat.reduceMul,T68,hx,d0,d1,hg,b2,ewk,b3,xa,buildA,fillA,AV.boxable]
  exact⟨_,_,Weak.refl G _ _,rfl,fin H5 _ (by omega) xo1⟩
 have b3:((n:Int)==((k+1:Nat):Int))=false:=by rw[beq_eq_false_iff_ne];omega
 have r1:((0:Int)≤((k+1:Nat):Int))=True:=by simp;omega
 have r2:(((k+1:Nat):Int)≤((k+2:Nat):Int))=True:=by simp
 have r3:(((k+2:Nat):Int)≤(s.length:Int))=True:=by simp;omega
 simp (maxSteps:=400000) only[wF,storeA,reduceCtorEq,Nat.reduceAdd,Nat.reduceSub,Nat.reduceEqDiff,Nat.reduceLeDiff,Int.reduceToNat,Int.reduceLE,Int.reduceLT,Int.reduceAdd,Int.reduceNeg,Nat.reduceMul,T68,hx,d0,d1,hg,b2,ewk,ewk2,b3,r1,r2,r3,w_sliceBoth,Int.toNat_natCast]
 have hsl:List.drop (k+1) (List.take (k+2) s)=[s.getD (k+1) 0]:=by
  have hk1:k+1<s.length:=by omega
  rw[List.drop_take,List.drop_eq_getElem_cons hk1,show k+2-(k+1)=1 by omega,List.take_succ_cons,List.take_zero,List.getD_eq_getElem?_getD,List.getElem?_eq_getElem hk1]
  rfl
 rw[hsl]
 refine AInv.pureK B108 (q_isSpace_ok G (by simp)) fun H6 h6=>?_
 have n6:=h6.1
 replace xa:=(congrFun h6.2 _).trans xa
 replace xb:=(congrFun h6.2 _).trans xb
 replace xo1:∀j,j<H.next→H6.get j=H.get j:=fun j hj=>(congrFun h6.2 _).trans (xo1 j hj)
 rw[List.all_cons,List.all_nil,Bool.and_true]
 cases hsp:spaceR (s.getD (k+1) 0)with
 | true=>
  rw[if_pos ⟨by omega,.inr (.inr rfl)⟩]
  simp (maxSteps:=400000) only[wF,storeA,reduceCtorEq,Nat.reduceAdd,Nat.reduceSub,Nat.reduceEqDiff,Nat.reduceLeDiff,Int.reduceToNat,Int.reduceLE,Int.reduceLT,Int.reduceAdd,Int.reduceNeg,Nat.reduceMul,T68,xa,buildA,fillA,AV.boxable]
  exact⟨_,_,Weak.refl G _ _,rfl,fin H6 _ (by omega) xo1⟩
 | false=>
  rw[if_neg (fun h=>by rcases h.2 with h | h | h;exact h hc;omega;cases h)]
  simp (maxSteps:=400000) only[wF,storeA,reduceCtorEq,Nat.reduceAdd,Nat.reduceSub,Nat.reduceEqDiff,Nat.reduceLeDiff,Int.reduceToNat,Int.reduceLE,Int.reduceLT,Int.reduceAdd,Int.reduceNeg,Nat.reduceMul,T68,xa,xb,u1,u2,ewk,ewn,mn,p1,p2,p3,w_sliceBoth,Int.toNat_natCast,buildA,fillA,AV.boxable]
  refine⟨_,_,Weak.refl G _ _,rfl,by simp only[AHeap.next_set];omega,fun j hj=>?_⟩
  rw[AHeap.get_set_ne _ _ (by omega),AHeap.get_set_ne _ _ (by omega)]
  exact xo1 j hj
end Go.Ab
namespace Go.Ab
open Go Go.Lib Go.Proofs
def QSt (s nm:List UInt8) (H:AHeap) (p:Nat) (T:Option (List (List UInt8 × List UInt8) × Nat)) (x:Nat × List (List UInt8 × List UInt8) × Nat × AHeap):Prop:=
 x.1≤s.length∧x.2.1.length≤x.1∧(∃f,s.length-x.1<f∧tagRF f s x.1 x.2.1=T) ∧
 x.2.2.2.get H.next=some (.cells 88 [.int .i64 0,.str [],.str [],.nils,.int .i64 0,.int .i64 0]) ∧
 x.2.2.2.get p=some (.cells 88 [.int .i64 0,.str nm,.str [],atJ x.2.2.1 x.2.1,.int .i64 0,.int .i64 0]) ∧
 (x.2.1≠[]→x.2.2.2.get x.2.2.1=some (.row 132 2 (attrsH x.2.1))∧p<x.2.2.1∧x.2.2.1<x.2.2.2.next)∧p<x.2.2.2.next∧∀j,j<H.next→x.2.2.2.get j=H.get j
set_option maxHeartbeats 4000000 in
set_option maxRecDepth 100000 in
theorem q_start_ok (G:Nat→Option (List AV)) {s:List UInt8} {i:Nat} (hi:i<s.length) (hs:s.length≤100000000) (hp1:Lib.hasPrefix (s.drop i) sCom=false) (hp2:Lib.hasPrefix (s.drop i) [60,63]=false) (hp3:Lib.hasPrefix (s.drop i) [60,47]=false) (H:AHeap) :
  ACalls Tryz.prog G 68 [.str s,.int .i64 i] H fun r H'=>r = .ret (pieceV (startRS s i))∧Kept H H':=by
 refine ACalls.ret (ACalls.of Tryz.func68 S68_eq R68 N68 rfl rfl ?_)
 have ew:IntKind.i64.wrap ((i:Int)+1)=((i+1:Nat):Int):=by rw[wrap64]<;>omega
 simp (maxSteps:=400000) only[wF,storeA,reduceCtorEq,Nat.reduceAdd,Nat.reduceSub,Nat.reduceEqDiff,Nat.reduceLeDiff,Int.reduceToNat,Int.reduceLE,Int.reduceLT,Int.reduceAdd,Int.reduceNeg,Nat.reduceMul,S68,N68,R68,T68,AV.boxable]
 refine AInv.pureK B66 (q_begins_ok G (by omega) (by omega) (by simp)) fun H1 h1=>?_
 rw[show Lib.hasPrefix (s.drop i) [60,33,45,45]=false from hp1]
 simp (maxSteps:=400000) only[wF,storeA,reduceCtorEq,Nat.reduceAdd,Nat.reduceSub,Nat.reduceEqDiff,Nat.reduceLeDiff,Int.reduceToNat,Int.reduceLE,Int.reduceLT,Int.reduceAdd,Int.reduceNeg,Nat.reduceMul,T68]
 refine AInv.pureK B66 (q_begins_ok G (by omega) (by omega) (by simp)) fun H2 h2=>?_
 rw[hp2]
 simp (maxSteps:=400000) only[wF,storeA,reduceCtorEq,Nat.reduceAdd,Nat.reduceSub,Nat.reduceEqDiff,Nat.reduceLeDiff,Int.reduceToNat,Int.reduceLE,Int.reduceLT,Int.reduceAdd,Int.reduceNeg,Nat.reduceMul,T68]
 refine AInv.pureK B66 (q_begins_ok G (by omega) (by omega) (by simp)) fun H3 h3=>?_
 rw[hp3]
 simp (maxSteps:=400000) only[wF,storeA,reduceCtorEq,Nat.reduceAdd,Nat.reduceSub,Nat.reduceEqDiff,Nat.reduceLeDiff,Int.reduceToNat,Int.reduceLE,Int.reduceLT,Int.reduceAdd,Int.reduceNeg,Nat.reduceMul,T68,ew]
 refine AInv.pureK B106 (q_name_ok G (by omega) (by omega)) fun H4 h4=>?_
 have n1:=h1.1
 have h24:=(h2.trans h3).trans h4
 have n2:=h24.1
 simp only[AHeap.next_allocAt]at n1
 have x0:H4.get H.next=some (.cells 88 [.int .i64 0,.str [],.str [],.nils,.int .i64 0,.int .i64 0]):=by rw[h24.2,h1.2,AHeap.get_allocAt_same]
 have xo:∀j,j<H.next→H4.get j=H.get j:=fun j hj=>by rw[h24.2,h1.2,AHeap.get_allocAt_ne _ _ (by omega)]
 unfold startRS
 have kge:=nameR_ge s (i+1)
 have kle:=nameR_le (s:=s) (i:=i+1) (by omega)
 generalize nameR s (i+1)=k0 at kge kle
 have fin:∀(J:AHeap) (o:AObj),H.next≤J.next→(∀j,j<H.next→J.get j=H.get j)→Kept H (J.set H.next o):=fun J o a b=>⟨a,fun j hj=>by rw[AHeap.get_set_ne _ _ (by omega)];exact b j hj⟩
 by_cases hk0:k0=i+1
 ·have b1:((k0:Int)==((i+1:Nat):Int))=true:=by rw[hk0];simp
  rw[if_pos hk0]
  simp (maxSteps:=400000) only[wF,storeA,reduceCtorEq,Nat.reduceAdd,Nat.reduceSub,Nat.reduceEqDiff,Nat.reduceLeDiff,Int.reduceToNat,Int.reduceLE,Int.reduceLT,Int.reduceAdd,Int.reduceNeg,Nat.reduceMul,T68,ew,b1,x0,buildA,fillA,AV.boxable]
  exact⟨_,_,Weak.refl G _ _,rfl,fin H4 _ (by omega) xo⟩
 rw[if_neg hk0]
 have b1:((k0:Int)==((i+1:Nat):Int))=false:=by rw[beq_eq_false_iff_ne];omega
 have q1:(((i+1:Nat):Int)≤(k0:Int))=True:=by simp;omega
 have q2:((k0:Int)≤(s.length:Int))=True:=by simp;omega
 have q3:((0:Int)≤((i+1:Nat):Int))=True:=by simp;omega
 simp (maxSteps:=400000) only[wF,storeA,reduceCtorEq,Nat.reduceAdd,Nat.reduceSub,Nat.reduceEqDiff,Nat.reduceLeDiff,Int.reduceToNat,Int.reduceLE,Int.reduceLT,Int.reduceAdd,Int.reduceNeg,Nat.reduceMul,T68,ew,b1,q1,q2,q3,w_sliceBoth,Int.toNat_natCast,buildA,fillA,AV.boxable]
 generalize hnm:List.drop (i+1) (List.take k0 s)=nm
 generalize hX:AHeap.set (AHeap.allocAt H4 H4.next _) H4.next _=X
 have xn:X.next=H4.next+1:=by rw[←hX];simp only[AHeap.next_set,AHeap.next_allocAt];omega
 have xa:X.get H.next=some (.cells 88 [.int .i64 0,.str [],.str [],.nils,.int .i64 0,.int .i64 0]):=by rw[←hX,AHeap.get_set_ne _ _ (by omega),AHeap.get_allocAt_ne _ _ (by omega)];exact x0
 have xb:X.get H4.next=some (.cells 88 [.int .i64 0,.str nm,.str [],.nils,.int .i64 0,.int .i64 0]):=by rw[←hX,AHeap.get_set_same]
 have xo1:∀j,j<H.next→X.get j=H.get j:=fun j hj=>by rw[←hX,AHeap.get_set_ne _ _ (by omega),AHeap.get_allocAt_ne _ _ (by omega)];exact xo j hj
 clear hX
 generalize hT:tagRF (s.length-k0+1) s k0 []=T
 have hp4:H.next<H4.next:=by omega
 generalize H4.next=p at *
 refine ATrS.loopK (κ:=Nat × List (List UInt8 × List UInt8) × Nat × AHeap) (fun x=>[.str s,.und,.und,.und,.ptr H.next 0,.und,.und,.und,.und,.und,.und,.int .i64 x.1,.ptr p 0]++List.replicate 161 .und) (fun x=>x.2.2.2)
  (QSt s nm H p T) (fun x=>s.length-x.1) ⟨(k0,[],0,X),⟨kle,Nat.zero_le _,⟨_,by simp only;omega,hT⟩,xa,xb,fun h=>absurd rfl h,by simp only;omega,xo1⟩,by simp[Fg],HW.refl _⟩ ?_
 clear xa xb xo1 xn hT x0 xo h1 h2 h3 h4 h24
 rintro⟨k,l,m,J⟩ ⟨hk,hlk,⟨f,hf,hT⟩,ja,jb,jm,jp,jo⟩
 simp only at hk hlk hf hT ja jb jm jp jo
 obtain⟨f,rfl⟩:∃f',f=f'+1:=⟨f-1,by omega⟩
 rw[tagRF]at hT
 have u1:(H.next=p)=False:=eq_false (by omega)
 have u2:(p=H.next)=False:=eq_false (by omega)
 simp (maxSteps:=400000) only[wF,storeA,reduceCtorEq,Nat.reduceAdd,Nat.reduceSub,Nat.reduceEqDiff,Nat.reduceLeDiff,Int.reduceToNat,Int.reduceLE,Int.reduceLT,Int.reduceAdd,Int.reduceNeg,Nat.reduceMul,T68]
 refine AInv.pureK B66 (q_begins_ok G hk (by omega) (by simp)) fun J1 j1=>?_
 have p1:=j1.1
 replace ja:=(congrFun j1.2 _).trans ja
 replace jb:=(congrFun j1.2 _).trans jb
 replace jm:l≠[]→J1.get m=some (.row 132 2 (attrsH l))∧p<m∧m<J1.next:=fun h=>⟨(congrFun j1.2 _).trans (jm h).1,(jm h).2.1,by have:=(jm h).2.2;omega⟩
 replace jo:∀j,j<H.next→J1.get j=H.get j:=fun j hj=>(congrFun j1.2 _).trans (jo j hj)
 cases hp32:Lib.hasPrefix (s.drop k) [32]with
 | false=>
  rw[hp32,if_neg (by simp)]at hT
  subst hT
  simp (maxSteps:=400000) only[wF,storeA,reduceCtorEq,Nat.reduceAdd,Nat.reduceSub,Nat.reduceEqDiff,Nat.reduceLeDiff,Int.reduceToNat,Int.reduceLE,Int.reduceLT,Int.reduceAdd,Int.reduceNeg,Nat.reduceMul,T68]
  refine AInv.pureK B66 (q_begins_ok G hk (by omega) (by simp)) fun J2 j2=>?_
  have p2:=j2.1
  replace ja:=(congrFun j2.2 _).trans ja
  replace jb:=(congrFun j2.2 _).trans jb
  replace jm:l≠[]→J2.get m=some (.row 132 2 (attrsH l))∧p<m∧m<J2.next:=fun h=>⟨(congrFun j2.2 _).trans (jm h).1,(jm h).2.1,by have:=(jm h).2.2;omega⟩
  replace jo:∀j,j<H.next→J2.get j=H.get j:=fun j hj=>(congrFun j2.2 _).trans (jo j hj)
  simp only[tagEndR]
  cases hp62:Lib.hasPrefix (s.drop k) [62]with
  | false=>
   rw[if_neg (by simp)]
   simp (maxSteps:=400000) only[wF,storeA,reduceCtorEq,Nat.reduceAdd,Nat.reduceSub,Nat.reduceEqDiff,Nat.reduceLeDiff,Int.reduceToNat,Int.reduceLE,Int.reduceLT,Int.reduceAdd,Int.reduceNeg,Nat.reduceMul,T68,Bool.not_false,ja,buildA,fillA,AV.boxable]
   exact⟨_,_,Weak.refl G _ _,rfl,fin J2 _ (by omega) jo⟩
  | true=>
   rw[if_pos rfl]
   have hbl:=hasPrefix_len hp62
   simp only[List.length_drop,List.length_cons,List.length_nil]at hbl
   have ewk:IntKind.i64.wrap ((k:Int)+1)=((k+1:Nat):Int):=by rw[wrap64]<;>omega
   by_cases hl:l=[]
   ·subst hl
    rw[show atJ m [] = .nils from rfl]at jb
    simp (maxSteps:=400000) only[wF,storeA,reduceCtorEq,Nat.reduceAdd,Nat.reduceSub,Nat.reduceEqDiff,Nat.reduceLeDiff,Int.reduceToNat,Int.reduceLE,Int.reduceLT,Int.reduceAdd,Int.reduceNeg,Nat.reduceMul,T68,Bool.not_true,ja,jb,ewk,u1,u2,AV.boxable]
    exact⟨_,_,Weak.refl G _ _,rfl,fin J2 _ (by omega) jo⟩
   ·obtain⟨m1,m2,m3⟩:=jm hl
    rw[show atJ m l = .slc m l.length from if_neg hl]at jb
    simp (maxSteps:=400000) only[wF,storeA,reduceCtorEq,Nat.reduceAdd,Nat.reduceSub,Nat.reduceEqDiff,Nat.reduceLeDiff,Int.reduceToNat,Int.reduceLE,Int.reduceLT,Int.reduceAdd,Int.reduceNeg,Nat.reduceMul,T68,Bool.not_true,ja,jb,ewk,u1,u2,AV.boxable]
    refine⟨_,_,Weak.h_freezeVal G (j:=m) (e:=132) (size:=2) (cs:=attrsH l) ?_ (by omega) (v':=pieceV (some (⟨0,nm,[],l,0,0⟩,k+1))) ?_,rfl,?_,fun j hj=>?_⟩
    ·rw[AHeap.get_set_ne _ _ (by omega)]
     exact m1
    ·simp only[pieceV,evH,atH,hl,if_false]
     exact .tup' ⟨.agg' ⟨.same _,.same _,.same _,.slc _ _ rfl,.same _,.same _,trivial⟩,.same _,trivial⟩
    ·simp only[AHeap.next_del,AHeap.next_set];omega
    ·rw[AHeap.get_del_ne _ (by omega),AHeap.get_set_ne _ _ (by omega)]
     exact jo j hj
 | true=>
  rw[hp32,if_pos rfl]at hT
  have hbl:=hasPrefix_len hp32
  simp only[List.length_drop,List.length_cons,List.length_nil]at hbl
  simp (maxSteps:=400000) only[wF,storeA,reduceCtorEq,Nat.reduceAdd,Nat.reduceSub,Nat.reduceEqDiff,Nat.reduceLeDiff,Int.reduceToNat,Int.reduceLE,Int.reduceLT,Int.reduceAdd,Int.reduceNeg,Nat.reduceMul,T68]
  refine AInv.pureK B109 (q_attribute_ok G (by omega) hs) fun J2 j2=>?_
  have p2:=j2.1
  replace ja:=(congrFun j2.2 _).trans ja
  replace jb:=(congrFun j2.2 _).trans jb
  replace jm:l≠[]→J2.get m=some (.row 132 2 (attrsH l))∧p<m∧m<J2.next:=fun h=>⟨(congrFun j2.2 _).trans (jm h).1,(jm h).2.1,by have:=(jm h).2.2;omega⟩
  replace jo:∀j,j<H.next→J2.get j=H.get j:=fun j hj=>(congrFun j2.2 _).trans (jo j hj)
  cases hat:attrRS s k with
  | none=>
   rw[hat]at hT
   subst hT
   have d0:decide ((-1:Int)<0)=true:=rfl
   have v1:(H.next=J2.next)=False:=eq_false (by omega)
   simp (maxSteps:=400000) only[wF,storeA,reduceCtorEq,Nat.reduceAdd,Nat.reduceSub,Nat.reduceEqDiff,Nat.reduceLeDiff,Int.reduceToNat,Int.reduceLE,Int.reduceLT,Int.reduceAdd,Int.reduceNeg,Nat.reduceMul,T68,attrA,d0,ja,v1,buildA,fillA,AV.boxable]
   refine⟨_,_,Weak.refl G _ _,rfl,by simp only[AHeap.next_set,AHeap.next_allocAt];omega,fun j hj=>?_⟩
   rw[AHeap.get_set_ne _ _ (by omega)]
   simp only[AHeap.get_set_ne _ _ (show j≠J2.next by omega),AHeap.get_allocAt_ne _ _ (show j≠J2.next by omega)]
   exact jo j hj
  | some y=>
   obtain⟨⟨an,av⟩,k2⟩:=y
   rw[hat]at hT
   simp only at hT
   obtain⟨g1,g2⟩:=attrRS_gt hat
   simp only at g1 g2
   have g2:=g2 hk
   have d0:decide ((k2:Int)<0)=false:=by simp
   have v1:(p=J2.next)=False:=eq_false (by omega)
   have v2:(J2.next=p)=False:=eq_false (by omega)
   have v6:(p=J2.next+1)=False:=eq_false (by omega)
   have v8:(p=J2.next+1+1)=False:=eq_false (by omega)
   by_cases hl:l=[]
   ·subst hl
    rw[show atJ m [] = .nils from rfl]at jb
    simp (maxSteps:=400000) only[wF,storeA,reduceCtorEq,Nat.reduceAdd,Nat.reduceSub,Nat.reduceEqDiff,Nat.reduceLeDiff,Int.reduceToNat,Int.reduceLE,Int.reduceLT,Int.reduceAdd,Int.reduceNeg,Nat.reduceMul,T68,attrA,d0,jb,v1,v2,v6,v8,appendA,appSrc,AV.isSlc,sliceLit,fillA,zerosA,srcCells,AV.boxable,Nat.le_refl,Nat.reduceLT]
    generalize hZ:AHeap.set _ p _=Z
    refine⟨by simp[maxApp],(k2,[]++[(an,av)],J2.next+1+1,Z),⟨g2,by simp only[List.length_append,List.length_singleton];omega,⟨f,by simp only;omega,hT⟩,?_,?_,fun _=>⟨?_,by simp only;omega,?_⟩,?_,fun j hj=>?_⟩,by simp only;omega,by simp[Fg],HW.refl _⟩
    ·rw[←hZ,AHeap.get_set_ne _ _ (by omega)];rw[AHeap.get_allocAt_ne _ _ (by omega),AHeap.get_allocAt_ne _ _ (by omega),AHeap.get_set_ne _ _ (by omega),AHeap.get_allocAt_ne _ _ (by omega)];exact ja
    ·rw[←hZ,AHeap.get_set_same,atJ_app];simp
    ·rw[←hZ,AHeap.get_set_ne _ _ (by simp only;omega),AHeap.get_allocAt_same];simp[attrsH]
    ·rw[←hZ];simp only[AHeap.next_set,AHeap.next_allocAt,AHeap.next_del];omega
    ·rw[←hZ];simp only[AHeap.next_set,AHeap.next_allocAt,AHeap.next_del];omega
    ·show Z.get j=_
     rw[←hZ,AHeap.get_set_ne _ _ (by omega)];rw[AHeap.get_allocAt_ne _ _ (by omega),AHeap.get_allocAt_ne _ _ (by omega),AHeap.get_set_ne _ _ (by omega),AHeap.get_allocAt_ne _ _ (by omega)];exact jo j hj
   ·obtain⟨m1,m2,m3⟩:=jm hl
    rw[show atJ m l = .slc m l.length from if_neg hl]at jb
    have v3:(m=J2.next)=False:=eq_false (by omega)
    have v4:(J2.next+1==m)=false:=by rw[beq_eq_false_iff_ne];omega
    have v5:(m=J2.next+1)=False:=eq_false (by omega)
    have v7:(p=m)=False:=eq_false (by omega)
    have hle:(l.length+1≤maxApp)=True:=eq_true (by simp only[maxApp];omega)
    simp (maxSteps:=400000) only[wF,storeA,reduceCtorEq,Nat.reduceAdd,Nat.reduceSub,Nat.reduceEqDiff,Nat.reduceLeDiff,Int.reduceToNat,Int.reduceLE,Int.reduceLT,Int.reduceAdd,Int.reduceNeg,Nat.reduceMul,T68,attrA,d0,jb,m1,v1,v2,v3,v4,v5,v6,v7,v8,hle,appendA,appSrc,AV.isSlc,sliceLit,fillA,zerosA,srcCells,AV.boxable,Nat.le_refl,Nat.reduceLT,attrsH_len]
    generalize hZ:AHeap.set _ p _=Z
    refine⟨(k2,l++[(an,av)],J2.next+1+1,Z),⟨g2,by simp only[List.length_append,List.length_singleton];omega,⟨f,by simp only;omega,hT⟩,?_,?_,fun _=>⟨?_,by simp only;omega,?_⟩,?_,fun j hj=>?_⟩,by simp only;omega,by simp[Fg],HW.refl _⟩
    ·rw[←hZ,AHeap.get_set_ne _ _ (by omega)];rw[AHeap.get_allocAt_ne _ _ (by omega),AHeap.get_del_ne _ (by omega),AHeap.get_allocAt_ne _ _ (by omega),AHeap.get_set_ne _ _ (by omega),AHeap.get_allocAt_ne _ _ (by omega)];exact ja
    ·rw[←hZ,AHeap.get_set_same,atJ_app]
    ·rw[←hZ,AHeap.get_set_ne _ _ (by simp only;omega),AHeap.get_allocAt_same];simp[attrsH]
    ·rw[←hZ];simp only[AHeap.next_set,AHeap.next_allocAt,AHeap.next_del];omega
    ·rw[←hZ];simp only[AHeap.next_set,AHeap.next_allocAt,AHeap.next_del];omega
    ·show Z.get j=_
     rw[←hZ,AHeap.get_set_ne _ _ (by omega)];rw[AHeap.get_allocAt_ne _ _ (by omega),AHeap.get_del_ne _ (by omega),AHeap.get_allocAt_ne _ _ (by omega),AHeap.get_set_ne _ _ (by omega),AHeap.get_allocAt_ne _ _ (by omega)];exact jo j hj
theorem q_piece_ok (G:Nat→Option (List AV)) {s:List UInt8} {i:Nat} (hi:i<s.length) (hs:s.length≤100000000) (H:AHeap) :
  ACalls Tryz.prog G 68 [.str s,.int .i64 i] H fun r H'=>r = .ret (pieceV (pieceRS s i))∧Kept H H':=by
 unfold pieceRS
 cases hp1:Lib.hasPrefix (s.drop i) sCom with
 | true=>rw[if_pos rfl];exact q_comment_ok G hs hp1 H
 | false=>
  rw[if_neg (by simp)]
  cases hp2:Lib.hasPrefix (s.drop i) [60,63]with
  | true=>rw[if_pos rfl];exact q_instr_ok G hs hp1 hp2 H
  | false=>
   rw[if_neg (by simp)]
   cases hp3:Lib.hasPrefix (s.drop i) [60,47]with
   | true=>rw[if_pos rfl];exact q_end_ok G hs hp1 hp2 hp3 H
   | false=>rw[if_neg (by simp)];exact q_start_ok G hi hs hp1 hp2 hp3 H
end Go.Ab
namespace Go.Ab
open Go Go.Lib
theorem findR_here {s p:List UInt8} {i:Nat} (hp:1≤p.length) (h:Lib.hasPrefix (s.drop i) p=false):findR s i p≠i:=by
 have key:∀l:List UInt8,Lib.hasPrefix l p=false→Lib.index l p≠0:=by
  intro l hl
  cases l with
  | nil=>
   have h2:=Lib.index_room ([]:List UInt8) p
   intro e
   have:=h2 (by omega)
   simp only[List.length_nil]at this
   omega
  | cons c l=>
   unfold Lib.hasPrefix at hl
   have hge:=Lib.index_ge l p
   simp only[Lib.index,hl,Bool.false_eq_true,if_false,beq_iff_eq]
   split
   ·decide
   ·rename_i hm
    intro e
    omega
 intro e
 have h1:=key _ h
 unfold findR at e
 split at e
 ·omega
 ·omega
theorem textRS_bound {s:List UInt8} {i:Nat} {raw:Bool} {v:List UInt8} {k:Nat} (hi:i<s.length) (h:textRS s i raw=some (v,k)) (h1:raw=true→Lib.hasPrefix (s.drop i) [60,47]=false) (h2:raw=false→Lib.hasPrefix (s.drop i) [60]=false):i<k∧k≤s.length:=by
 unfold textRS at h
 cases raw with
 | true=>
  rw[if_pos rfl]at h
  have hn:=findR_here (by simp) (h1 rfl)
  rcases findR_nat s [60,47] i (by simp)with hf | ⟨n,hf,a,b⟩
  ·rw[hf]at h;simp at h
  ·rw[hf,if_neg (by omega)]at h
   simp only[Option.some.injEq,Prod.mk.injEq,Int.toNat_natCast]at h
   simp only[List.length_cons,List.length_nil]at b
   omega
 | false=>
  rw[if_neg (by simp)]at h
  have hn:=findR_here (by simp) (h2 rfl)
  simp only at h
  obtain⟨e,he,he1,he2⟩:∃e:Nat,(if findR s i [60]<0 then s.length else(findR s i [60]).toNat)=e∧i<e∧e≤s.length:=by
   rcases findR_nat s [60] i (by simp)with hf | ⟨n,hf,a,b⟩
   ·exact⟨s.length,by rw[hf];rfl,hi,Nat.le_refl _⟩
   ·simp only[List.length_cons,List.length_nil]at b
    exact⟨n,by rw[hf,if_neg (by omega),Int.toNat_natCast],by omega,by omega⟩
  rw[he]at h
  split at h
  ·simp only[Option.some.injEq,Prod.mk.injEq]at h;omega
  ·cases h
theorem pre_len1 {s p:List UInt8} {k:Nat} (h:Lib.hasPrefix (s.drop k) p=true) (h1:1≤p.length):k+p.length≤s.length:=by
 have:=hasPrefix_len h
 simp only[List.length_drop]at this
 omega
theorem tagRF_bound {s:List UInt8}:∀(f k:Nat) (l:List (List UInt8 × List UInt8)) {x},k≤s.length→l.length≤k→tagRF f s k l=some x→k≤x.2∧x.2≤s.length∧x.1.length≤x.2
 | 0,_,_,_,_,_,h=>by cases h
 | f+1,k,l,x,hk,hl,h=>by
  rw[tagRF]at h
  split at h
  ·split at h
   ·cases h
   ·rename_i a k2 ha
    obtain⟨g1,g2⟩:=attrRS_gt ha
    have g2:=g2 hk
    simp only at g1 g2
    have:=tagRF_bound f k2 (l++[a]) g2 (by simp only[List.length_append,List.length_singleton];omega) h
    omega
  ·cases h
   exact⟨Nat.le_refl _,hk,hl⟩
theorem pieceRS_bound {s:List UInt8} {i:Nat} {x:Ev × Nat} (hi:i<s.length) (h:pieceRS s i=some x):i<x.2∧x.2≤s.length∧x.1.name.length≤s.length∧x.1.attrs.length≤s.length∧x.1.kind≤4:=by
 unfold pieceRS at h
 split at h
 ·rename_i hp
  have hl:=pre_len1 hp (by simp[sCom])
  unfold commentRS at h
  split at h
  ·cases h
  ·rename_i hn
   simp only[Option.map_some,Option.some.injEq]at h
   subst h
   rcases findR_nat s sDash (i+4) (by simp[sDash])with hf | ⟨n,hf,a,b⟩
   ·exact absurd (.inl (by rw[hf];decide)) hn
   ·rw[hf,Int.toNat_natCast]at hn ⊢
    have hq:Lib.hasPrefix (s.drop n) [45,45,62]=true:=by
     cases hh:Lib.hasPrefix (s.drop n) [45,45,62]with
     | true=>rfl
     | false=>exact absurd (.inr hh) hn
    have:=pre_len1 hq (by simp)
    simp only[List.length_cons,List.length_nil]at this
    simp
    omega
 split at h
 ·rename_i hp
  have hl:=pre_len1 hp (by simp)
  simp only[List.length_cons,List.length_nil]at hl
  have g1:=nameR_ge s (i+2)
  have g2:=nameR_le (s:=s) (i:=i+2) (by omega)
  unfold instrRS at h
  split at h
  ·cases h
  rename_i hn
  split at h
  ·cases h
  simp only[Option.map_some,Option.some.injEq]at h
  subst h
  rcases findR_nat s [62] (nameR s (i+2)) (by simp)with hf | ⟨n,hf,a,b⟩
  ·exact absurd (.inr (.inr (by rw[hf];decide))) hn
  ·rw[hf,Int.toNat_natCast]
   simp only[List.length_cons,List.length_nil]at b
   simp only[List.length_drop,List.length_take,List.length_nil]
   omega
 split at h
 ·rename_i hp
  have hl:=pre_len1 hp (by simp)
  simp only[List.length_cons,List.length_nil]at hl
  have g1:=nameR_ge s (i+2)
  unfold endRS at h
  split at h
  ·cases h
  rename_i hn
  simp only[Option.map_some,Option.some.injEq]at h
  subst h
  have hq:Lib.hasPrefix (s.drop (nameR s (i+2))) [62]=true:=by
   cases hh:Lib.hasPrefix (s.drop (nameR s (i+2))) [62]with
   | true=>rfl
   | false=>exact absurd (.inr hh) hn
  have:=pre_len1 hq (by simp)
  simp only[List.length_cons,List.length_nil]at this
  simp only[List.length_drop,List.length_take,List.length_nil]
  omega
 ·unfold startRS at h
  split at h
  ·cases h
  have g1:=nameR_ge s (i+1)
  have g2:=nameR_le (s:=s) (i:=i+1) (by omega)
  cases ht:tagRF (s.length-nameR s (i+1)+1) s (nameR s (i+1)) []with
  | none=>rw[ht]at h;simp[tagEndR]at h
  | some y=>
   obtain⟨l,k⟩:=y
   have hb:=tagRF_bound _ _ [] g2 (by simp) ht
   rw[ht]at h
   simp only[tagEndR]at h
   split at h
   ·rename_i hq
    simp only[Option.map_some,Option.some.injEq]at h
    subst h
    have:=pre_len1 hq (by simp)
    simp only[List.length_cons,List.length_nil]at this
    simp only[List.length_drop,List.length_take]at hb ⊢
    omega
   ·simp at h
end Go.Ab
