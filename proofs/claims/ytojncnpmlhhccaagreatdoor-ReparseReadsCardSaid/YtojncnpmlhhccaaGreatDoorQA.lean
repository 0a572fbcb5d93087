/- The reference of reparse: begins, find, name, small, walked. The reference of reparse: value, walked. The reference's lists of elements, walked. The reference of reparse: attributes, texts, walked. -/
import Derived.Test.YtojncnpmlhhccaaGreatDoorHC
import Derived.Test.YtojncnpmlhhccaaGreatDoorCodesQ1
import Derived.Test.YtojncnpmlhhccaaGreatDoorHWA
set_option linter.all false
namespace Go.Ab
open Go Go.Lib Go.Proofs
theorem q_begins_ok (G:Nat→Option (List AV)) {s t:List UInt8} {i:Nat} (hi:i≤s.length) (hs:s.length≤1000000000) (ht:t.length≤1000000000):PureCall Tryz.prog G 66 [.str s,.int .i64 i,.str t] (.bool (Lib.hasPrefix (s.drop i) t)):=by
 intro H
 refine ACalls.keep (ACalls.of Tryz.func66 S66_eq R66 N66 rfl rfl ?_)
 have e1:IntKind.i64.wrap ((i:Int)+(t.length:Int))=((i+t.length:Nat):Int):=by rw[wrap64]<;>omega
 by_cases h:i+t.length≤s.length
 ·have d1:decide (((i+t.length:Nat):Int)≤(s.length:Int))=true:=by simp;omega
  have q1:((i:Int)≤((i+t.length:Nat):Int))=True:=by simp;omega
  have q2:(((i+t.length:Nat):Int)≤(s.length:Int))=True:=by simp;omega
  have hp:Lib.hasPrefix (s.drop i) t=((s.take (i+t.length)).drop i==t):=by
   unfold Lib.hasPrefix
   rw[Bool.eq_iff_iff,List.isPrefixOf_iff_prefix,beq_iff_eq,List.prefix_iff_eq_take,List.drop_take,Nat.add_sub_cancel_left]
   exact eq_comm
  simp (maxSteps:=400000) only[wF,storeA,reduceCtorEq,Nat.reduceAdd,Nat.reduceSub,Nat.reduceEqDiff,Nat.reduceLeDiff,Int.reduceToNat,Int.reduceLE,Int.reduceLT,Int.reduceAdd,Int.reduceNeg,Nat.reduceMul,S66,N66,R66,T66,e1,d1,q1,q2]
  exact⟨by rw[hp],Nat.le_refl _,fun _ _=>trivial⟩
 ·have d1:decide (((i+t.length:Nat):Int)≤(s.length:Int))=false:=by simp;omega
  have hp:Lib.hasPrefix (s.drop i) t=false:=by
   cases hh:Lib.hasPrefix (s.drop i) t with
   | false=>rfl
   | true=>
    have:=hasPrefix_len hh
    simp only[List.length_drop]at this
    omega
  simp (maxSteps:=400000) only[wF,storeA,reduceCtorEq,Nat.reduceAdd,Nat.reduceSub,Nat.reduceEqDiff,Nat.reduceLeDiff,Int.reduceToNat,Int.reduceLE,Int.reduceLT,Int.reduceAdd,Int.reduceNeg,Nat.reduceMul,S66,N66,R66,T66,e1,d1]
  exact⟨by rw[hp],Nat.le_refl _,fun _ _=>trivial⟩
theorem q_find_ok (G:Nat→Option (List AV)) {s t:List UInt8} {i:Nat} (hi:i≤1000000100) (hs:s.length≤1000000000) (ht:t.length≤1000000000) (h1:1≤t.length):PureCall Tryz.prog G 104 [.str s,.int .i64 i,.str t] (.int .i64 (findR s i t)):=by
 intro H
 refine ACalls.keep (ACalls.of Tryz.func104 S104_eq R104 N104 rfl rfl ?_)
 simp (maxSteps:=400000) only[wF,storeA,reduceCtorEq,Nat.reduceAdd,Nat.reduceSub,Nat.reduceEqDiff,Nat.reduceLeDiff,Int.reduceToNat,Int.reduceLE,Int.reduceLT,Int.reduceAdd,Int.reduceNeg,Nat.reduceMul,S104,N104,R104,T104]
 refine ATrS.loopK (κ:=Nat × AHeap) (fun x=>[.str s,.int .i64 x.1,.str t,.und,.und,.und,.int .i64 0]++List.replicate 14 .und) (fun x=>x.2)
  (fun x=>x.1≤1000000100∧findR s x.1 t=findR s i t∧Keeps H x.2) (fun x=>s.length-x.1) ⟨(i,H),⟨hi,rfl,Keeps.refl H⟩,by simp[Fg],HW.refl H⟩ ?_
 rintro⟨k,H1⟩ ⟨hk,hk2,hH⟩
 simp only at hk hk2 hH
 have e1:IntKind.i64.wrap ((k:Int)+(t.length:Int))=((k+t.length:Nat):Int):=by rw[wrap64]<;>omega
 by_cases hle:k+t.length≤s.length
 ·have d1:decide (((k+t.length:Nat):Int)≤(s.length:Int))=true:=by simp;omega
  simp (maxSteps:=400000) only[wF,storeA,reduceCtorEq,Nat.reduceAdd,Nat.reduceSub,Nat.reduceEqDiff,Nat.reduceLeDiff,Int.reduceToNat,Int.reduceLE,Int.reduceLT,Int.reduceAdd,Int.reduceNeg,Nat.reduceMul,T104,e1,d1]
  refine AInv.pureK B66 (q_begins_ok G (by omega) hs ht) fun H2 h2=>?_
  cases hp:Lib.hasPrefix (s.drop k) t with
  | true=>
   simp (maxSteps:=400000) only[wF,storeA,reduceCtorEq,Nat.reduceAdd,Nat.reduceSub,Nat.reduceEqDiff,Nat.reduceLeDiff,Int.reduceToNat,Int.reduceLE,Int.reduceLT,Int.reduceAdd,Int.reduceNeg,Nat.reduceMul,T104]
   exact⟨by rw[←hk2,findR_hit hp h1],(hH.trans h2).post⟩
  | false=>
   have ew:IntKind.i64.wrap ((k:Int)+1)=((k+1:Nat):Int):=by rw[wrap64]<;>omega
   simp (maxSteps:=400000) only[wF,storeA,reduceCtorEq,Nat.reduceAdd,Nat.reduceSub,Nat.reduceEqDiff,Nat.reduceLeDiff,Int.reduceToNat,Int.reduceLE,Int.reduceLT,Int.reduceAdd,Int.reduceNeg,Nat.reduceMul,T104,ew]
   exact⟨(k+1,H2),⟨by simp only;omega,by rw[←hk2];exact(findR_miss (by omega) hp).symm,hH.trans h2⟩,by simp only;omega,by simp[Fg],HW.refl _⟩
 ·have d1:decide (((k+t.length:Nat):Int)≤(s.length:Int))=false:=by simp;omega
  simp (maxSteps:=400000) only[wF,storeA,reduceCtorEq,Nat.reduceAdd,Nat.reduceSub,Nat.reduceEqDiff,Nat.reduceLeDiff,Int.reduceToNat,Int.reduceLE,Int.reduceLT,Int.reduceAdd,Int.reduceNeg,Nat.reduceMul,T104,e1,d1]
  exact⟨by rw[←hk2,findR_short (by omega) h1],hH.post⟩
theorem q_name_ok (G:Nat→Option (List AV)) {s:List UInt8} {i:Nat} (hi:i≤s.length) (hs:s.length≤900000000):PureCall Tryz.prog G 106 [.str s,.int .i64 i] (.int .i64 (nameR s i)):=by
 intro H
 refine ACalls.keep (ACalls.of Tryz.func106 S106_eq R106 N106 rfl rfl ?_)
 have e1:IntKind.i64.wrap ((i:Int)+1)=((i+1:Nat):Int):=by rw[wrap64]<;>omega
 have e4:IntKind.i64.wrap ((i:Int)+400)=((i+400:Nat):Int):=by rw[wrap64]<;>omega
 simp (maxSteps:=400000) only[wF,storeA,reduceCtorEq,Nat.reduceAdd,Nat.reduceSub,Nat.reduceEqDiff,Nat.reduceLeDiff,Int.reduceToNat,Int.reduceLE,Int.reduceLT,Int.reduceAdd,Int.reduceNeg,Nat.reduceMul,S106,N106,R106,T106,e1]
 refine ATrS.loopK (κ:=Nat × Nat × AHeap) (fun x=>[.str s,.int .i64 i,.und,.und,.int .i64 0,.int .i64 x.2.1,.int .i64 x.1]++List.replicate 45 .und) (fun x=>x.2.2)
  (fun x=>i+1≤x.1∧x.1≤i+401∧nameF s i (i+402-x.1) x.1 x.2.1=nameR s i∧Keeps H x.2.2) (fun x=>i+402-x.1) ⟨(i+1,i,H),⟨Nat.le_refl _,by simp only;omega,by simp only[nameR];congr 1;omega,Keeps.refl H⟩,by simp[Fg],HW.refl H⟩ ?_
 rintro⟨k,e,J⟩ ⟨k1,k2,hn,hH⟩
 simp only at k1 k2 hn hH
 have ef:i+402-k=(i+402-(k+1))+1:=by omega
 rw[ef,nameF]at hn
 by_cases hl:k≤s.length
 case neg=>
  have d1:decide ((k:Int)≤(s.length:Int))=false:=by simp;omega
  rw[if_neg (by omega)]at hn
  simp (maxSteps:=400000) only[wF,storeA,reduceCtorEq,Nat.reduceAdd,Nat.reduceSub,Nat.reduceEqDiff,Nat.reduceLeDiff,Int.reduceToNat,Int.reduceLE,Int.reduceLT,Int.reduceAdd,Int.reduceNeg,Nat.reduceMul,T106,d1]
  exact⟨by rw[hn],hH.post⟩
 have d1:decide ((k:Int)≤(s.length:Int))=true:=by simp;omega
 by_cases h4:k≤i+400
 case neg=>
  have d2:decide ((k:Int)≤((i+400:Nat):Int))=false:=by simp;omega
  rw[if_neg (by omega)]at hn
  simp (maxSteps:=400000) only[wF,storeA,reduceCtorEq,Nat.reduceAdd,Nat.reduceSub,Nat.reduceEqDiff,Nat.reduceLeDiff,Int.reduceToNat,Int.reduceLE,Int.reduceLT,Int.reduceAdd,Int.reduceNeg,Nat.reduceMul,T106,d1,e4,d2]
  exact⟨by rw[hn],hH.post⟩
 have d2:decide ((k:Int)≤((i+400:Nat):Int))=true:=by simp;omega
 rw[if_pos ⟨hl,h4⟩]at hn
 have hk:k-1<s.length:=by omega
 have e5:IntKind.i64.wrap ((k:Int)-1)=((k-1:Nat):Int):=by rw[wrap64]<;>omega
 have ew:IntKind.i64.wrap ((k:Int)+1)=((k+1:Nat):Int):=by rw[wrap64]<;>omega
 have hg:s[k-1]?=some s[k-1]:=List.getElem?_eq_getElem hk
 have hgd:s.getD (k-1) 0=s[k-1]:=by rw[List.getD_eq_getElem?_getD,hg];rfl
 have hsl:(s.take k).drop (k-1)=[s[k-1]]:=by
  have:=name_at (List.drop_eq_getElem_cons hk)
  rwa[show k-1+1=k by omega]at this
 rw[hgd]at hn
 generalize s[k-1]=c at hg hsl hn
 have q1:((i:Int)≤(k:Int))=True:=by simp;omega
 have q2:((k:Int)≤(s.length:Int))=True:=by simp;omega
 have q3:(((k-1:Nat):Int)≤(k:Int))=True:=by simp
 have hlen:((s.take k).drop i).length≤1000000000:=by simp only[List.length_drop,List.length_take];omega
 have tail:∀(Q:List AV→AHeap→Prop),True:=fun _=>trivial
 by_cases h128:c.toNat<128
 ·have d3:decide ((c.toNat:Int)<128)=true:=by simp;omega
  by_cases h58:c=58
  ·have d4:((c.toNat:Int) != 58)=false:=by rw[h58];rfl
   have hst:stopC c=false:=by simp[stopC,h58]
   rw[hst,if_neg (by simp)]at hn
   simp (maxSteps:=400000) only[wF,storeA,reduceCtorEq,Nat.reduceAdd,Nat.reduceSub,Nat.reduceEqDiff,Nat.reduceLeDiff,Int.reduceToNat,Int.reduceLE,Int.reduceLT,Int.reduceAdd,Int.reduceNeg,Nat.reduceMul,T106,d1,e4,d2,e5,hg,d3,d4,q1,q2]
   refine AInv.pureK B112 (r_isName_ok G hlen) fun J2 h2=>?_
   rw[isNameR_eq]
   cases hnm:isNameS ((s.take k).drop i)with
   | true=>
    rw[hnm,if_pos rfl]at hn
    simp (maxSteps:=400000) only[wF,storeA,reduceCtorEq,Nat.reduceAdd,Nat.reduceSub,Nat.reduceEqDiff,Nat.reduceLeDiff,Int.reduceToNat,Int.reduceLE,Int.reduceLT,Int.reduceAdd,Int.reduceNeg,Nat.reduceMul,T106,ew]
    exact⟨(k+1,k,J2),⟨by simp only;omega,by simp only;omega,hn,hH.trans h2⟩,by simp only;omega,by simp[Fg],HW.refl _⟩
   | false=>
    rw[hnm,if_neg (by simp)]at hn
    simp (maxSteps:=400000) only[wF,storeA,reduceCtorEq,Nat.reduceAdd,Nat.reduceSub,Nat.reduceEqDiff,Nat.reduceLeDiff,Int.reduceToNat,Int.reduceLE,Int.reduceLT,Int.reduceAdd,Int.reduceNeg,Nat.reduceMul,T106,ew]
    exact⟨(k+1,e,J2),⟨by simp only;omega,by simp only;omega,hn,hH.trans h2⟩,by simp only;omega,by simp[Fg],HW.refl _⟩
  ·have d4:((c.toNat:Int) != 58)=true:=by
    rw[bne_iff_ne]
    intro h
    exact h58 (UInt8.toNat_inj.1 (by simpa using Int.ofNat_inj.1 h))
   simp (maxSteps:=400000) only[wF,storeA,reduceCtorEq,Nat.reduceAdd,Nat.reduceSub,Nat.reduceEqDiff,Nat.reduceLeDiff,Int.reduceToNat,Int.reduceLE,Int.reduceLT,Int.reduceAdd,Int.reduceNeg,Nat.reduceMul,T106,d1,e4,d2,e5,hg,d3,d4,q2,q3,hsl]
   refine⟨by simp[maxStr],?_⟩
   refine AInv.pureK B112 (r_isName_ok G (by simp)) fun J1 h1=>?_
   rw[isNameR_eq]
   have hst:stopC c = !isNameS [97,c]:=by simp[stopC,h58,h128]
   rw[hst]at hn
   cases hac:isNameS [97,c]with
   | false=>
    simp only[hac,Bool.not_false,if_true]at hn
    simp (maxSteps:=400000) only[wF,storeA,reduceCtorEq,Nat.reduceAdd,Nat.reduceSub,Nat.reduceEqDiff,Nat.reduceLeDiff,Int.reduceToNat,Int.reduceLE,Int.reduceLT,Int.reduceAdd,Int.reduceNeg,Nat.reduceMul,T106]
    exact⟨by rw[hn],(hH.trans h1).post⟩
   | true=>
    simp only[hac,Bool.not_true,Bool.false_eq_true,if_false]at hn
    simp (maxSteps:=400000) only[wF,storeA,reduceCtorEq,Nat.reduceAdd,Nat.reduceSub,Nat.reduceEqDiff,Nat.reduceLeDiff,Int.reduceToNat,Int.reduceLE,Int.reduceLT,Int.reduceAdd,Int.reduceNeg,Nat.reduceMul,T106,q1,q2]
    refine AInv.pureK B112 (r_isName_ok G hlen) fun J2 h2=>?_
    rw[isNameR_eq]
    cases hnm:isNameS ((s.take k).drop i)with
    | true=>
     rw[hnm,if_pos rfl]at hn
     simp (maxSteps:=400000) only[wF,storeA,reduceCtorEq,Nat.reduceAdd,Nat.reduceSub,Nat.reduceEqDiff,Nat.reduceLeDiff,Int.reduceToNat,Int.reduceLE,Int.reduceLT,Int.reduceAdd,Int.reduceNeg,Nat.reduceMul,T106,ew]
     exact⟨(k+1,k,J2),⟨by simp only;omega,by simp only;omega,hn,(hH.trans h1).trans h2⟩,by simp only;omega,by simp[Fg],HW.refl _⟩
    | false=>
     rw[hnm,if_neg (by simp)]at hn
     simp (maxSteps:=400000) only[wF,storeA,reduceCtorEq,Nat.reduceAdd,Nat.reduceSub,Nat.reduceEqDiff,Nat.reduceLeDiff,Int.reduceToNat,Int.reduceLE,Int.reduceLT,Int.reduceAdd,Int.reduceNeg,Nat.reduceMul,T106,ew]
     exact⟨(k+1,e,J2),⟨by simp only;omega,by simp only;omega,hn,(hH.trans h1).trans h2⟩,by simp only;omega,by simp[Fg],HW.refl _⟩
 ·have d3:decide ((c.toNat:Int)<128)=false:=by simp;omega
  have hst:stopC c=false:=by simp[stopC,h128]
  rw[hst,if_neg (by simp)]at hn
  simp (maxSteps:=400000) only[wF,storeA,reduceCtorEq,Nat.reduceAdd,Nat.reduceSub,Nat.reduceEqDiff,Nat.reduceLeDiff,Int.reduceToNat,Int.reduceLE,Int.reduceLT,Int.reduceAdd,Int.reduceNeg,Nat.reduceMul,T106,d1,e4,d2,e5,hg,d3,q1,q2]
  refine AInv.pureK B112 (r_isName_ok G hlen) fun J2 h2=>?_
  rw[isNameR_eq]
  cases hnm:isNameS ((s.take k).drop i)with
  | true=>
   rw[hnm,if_pos rfl]at hn
   simp (maxSteps:=400000) only[wF,storeA,reduceCtorEq,Nat.reduceAdd,Nat.reduceSub,Nat.reduceEqDiff,Nat.reduceLeDiff,Int.reduceToNat,Int.reduceLE,Int.reduceLT,Int.reduceAdd,Int.reduceNeg,Nat.reduceMul,T106,ew]
   exact⟨(k+1,k,J2),⟨by simp only;omega,by simp only;omega,hn,hH.trans h2⟩,by simp only;omega,by simp[Fg],HW.refl _⟩
  | false=>
   rw[hnm,if_neg (by simp)]at hn
   simp (maxSteps:=400000) only[wF,storeA,reduceCtorEq,Nat.reduceAdd,Nat.reduceSub,Nat.reduceEqDiff,Nat.reduceLeDiff,Int.reduceToNat,Int.reduceLE,Int.reduceLT,Int.reduceAdd,Int.reduceNeg,Nat.reduceMul,T106,ew]
   exact⟨(k+1,e,J2),⟨by simp only;omega,by simp only;omega,hn,hH.trans h2⟩,by simp only;omega,by simp[Fg],HW.refl _⟩
/-! What it finds. -/
theorem q_small_ok (G:Nat→Option (List AV)) {s:List UInt8} (hs:s.length≤1000000000):PureCall Tryz.prog G 107 [.str s] (.str (s.map lowC)):=by
 intro H
 refine ACalls.keep (ACalls.of Tryz.func107 S107_eq R107 N107 rfl rfl ?_)
 simp (maxSteps:=400000) only[wF,storeA,reduceCtorEq,Nat.reduceAdd,Nat.reduceSub,Nat.reduceEqDiff,Nat.reduceLeDiff,Int.reduceToNat,Int.reduceLE,Int.reduceLT,Int.reduceAdd,Int.reduceNeg,Nat.reduceMul,S107,N107,R107,T107,convA]
 refine ATrS.loopK (κ:=Nat × AHeap) (fun x=>[.str s,.und,.str [],.slc H.next s.length,.int .i64 x.1]++List.replicate 30 .und) (fun x=>x.2)
  (LowAt s H H.next) (fun x=>s.length-x.1) ⟨(0,_),⟨Nat.zero_le _,by simp[bytesA],Nat.le_refl _,by simp only[AHeap.next_allocAt];omega,by simp only[AHeap.next_allocAt];omega,fun j hj=>AHeap.get_allocAt_ne _ _ (by omega)⟩,by simp[Fg],HW.refl _⟩ ?_
 rintro⟨k,J⟩ ⟨hk,hrow,g1,g2,g3,g4⟩
 simp only at hk hrow g1 g2 g3 g4
 by_cases hlt:k<s.length
 ·have d0:decide ((k:Int)<(s.length:Int))=true:=by simp;omega
  have q0:((k:Int)<(s.length:Int))=True:=by simp;omega
  have ew:IntKind.i64.wrap ((k:Int)+1)=((k+1:Nat):Int):=by rw[wrap64]<;>omega
  have hd:=List.drop_eq_getElem_cons hlt
  have htk:s.take (k+1)=s.take k++[s[k]]:=by rw[List.take_succ,List.getElem?_eq_getElem hlt];rfl
  have hlen:((s.take k).map lowC).length=k:=by simp;omega
  have hg:(bytesA ((s.take k).map lowC++s.drop k))[k]?=some (.int .u8 s[k].toNat):=by
   unfold bytesA
   rw[List.getElem?_map,List.getElem?_append_right (by omega),hlen,Nat.sub_self,hd]
   rfl
  have hx:=s[k].toNat_lt
  have next:∀y,y=lowC s[k]→(bytesA ((s.take k).map lowC++s.drop k)).set k (.int .u8 y.toNat)=bytesA ((s.take (k+1)).map lowC++s.drop (k+1)):=fun y hy=>by
   have:=bytesA_set ((s.take k).map lowC) (s.drop (k+1)) s[k] y
   rw[hlen]at this
   rw[htk,hd,this,List.map_append,hy]
   simp
  have blen:(k<(bytesA ((s.take k).map lowC++s.drop k)).length)=True:=by simp[bytesA];omega
  have um:True:=trivial
  by_cases hup:65≤s[k].toNat∧s[k].toNat≤90
  ·have d1:decide ((s[k].toNat:Int)≥65)=true:=by simp;omega
   have d2:decide ((s[k].toNat:Int)≤90)=true:=by simp;omega
   have hlow:(lowC s[k]).toNat=s[k].toNat+32:=by
    unfold lowC
    rw[if_pos hup,UInt8.toNat_add]
    simp
    omega
   have e8:IntKind.u8.wrap ((s[k].toNat:Int)+32)=((lowC s[k]).toNat:Int):=by rw[hlow,wrapu8]<;>omega
   simp (maxSteps:=400000) only[wF,storeA,reduceCtorEq,Nat.reduceAdd,Nat.reduceSub,Nat.reduceEqDiff,Nat.reduceLeDiff,Int.reduceToNat,Int.reduceLE,Int.reduceLT,Int.reduceAdd,Int.reduceNeg,Nat.reduceMul,T107,d0,q0,hrow,hg,indexAddrA,d1,d2,e8,blen,ew,AV.boxable]
   refine⟨by simp[bytesA];omega,(k+1,_),⟨hlt,?_,Nat.le_refl _,?_,?_,fun j hj=>?_⟩,by simp only;omega,by simp[Fg],HW.refl _⟩
   ·simp only[AHeap.get_set_same]
    rw[next _ rfl,if_pos trivial]
   ·simp only[AHeap.next_set];omega
   ·simp only[AHeap.next_set];omega
   ·show(AHeap.set _ _ _).get j=_
    rw[AHeap.get_set_ne _ _ (by omega)]
    exact g4 j hj
  ·have hlow:lowC s[k]=s[k]:=by unfold lowC;rw[if_neg hup]
   have nx:=next s[k] hlow.symm
   rw[set_get_self hg]at nx
   have fin:LowAt s H H.next (k+1,J):=⟨hlt,by rw[←nx];exact hrow,Nat.le_refl _,g2,g3,g4⟩
   by_cases h65:65≤s[k].toNat
   ·have d1:decide ((s[k].toNat:Int)≥65)=true:=by simp;omega
    have d2:decide ((s[k].toNat:Int)≤90)=false:=by simp;omega
    simp (maxSteps:=400000) only[wF,storeA,reduceCtorEq,Nat.reduceAdd,Nat.reduceSub,Nat.reduceEqDiff,Nat.reduceLeDiff,Int.reduceToNat,Int.reduceLE,Int.reduceLT,Int.reduceAdd,Int.reduceNeg,Nat.reduceMul,T107,d0,q0,hrow,hg,indexAddrA,d1,d2,ew,AV.boxable]
    exact⟨(k+1,J),fin,by simp only;omega,by simp[Fg],HW.refl _⟩
   ·have d1:decide ((s[k].toNat:Int)≥65)=false:=by simp;omega
    simp (maxSteps:=400000) only[wF,storeA,reduceCtorEq,Nat.reduceAdd,Nat.reduceSub,Nat.reduceEqDiff,Nat.reduceLeDiff,Int.reduceToNat,Int.reduceLE,Int.reduceLT,Int.reduceAdd,Int.reduceNeg,Nat.reduceMul,T107,d0,q0,hrow,hg,indexAddrA,d1,ew,AV.boxable]
    exact⟨(k+1,J),fin,by simp only;omega,by simp[Fg],HW.refl _⟩
 ·have d0:decide ((k:Int)<(s.length:Int))=false:=by simp;omega
  have hks:k=s.length:=by omega
  subst hks
  simp only[List.take_length,List.drop_length,List.append_nil]at hrow
  have v1:(s.length≤(bytesA (s.map lowC)).length)=True:=by simp[bytesA]
  have v2:List.take s.length (bytesA (s.map lowC))=bytesA (s.map lowC):=List.take_of_length_le (by simp[bytesA])
  simp (maxSteps:=400000) only[wF,storeA,reduceCtorEq,Nat.reduceAdd,Nat.reduceSub,Nat.reduceEqDiff,Nat.reduceLeDiff,Int.reduceToNat,Int.reduceLE,Int.reduceLT,Int.reduceAdd,Int.reduceNeg,Nat.reduceMul,T107,d0,convA,srcCells,hrow,v1,v2,bytesOfA_bytesA]
  exact⟨g3,g4⟩
end Go.Ab
namespace Go.Ab
open Go Go.Lib Go.Proofs
def QValAt (s:List UInt8) (i e:Nat) (H:AHeap) (x:Nat × List UInt8 × Nat × AHeap):Prop:=
 i≤x.1∧x.1≤e∧x.2.1.length≤4*x.1∧(∃f,e-x.1≤f∧valueRF f s x.1 e x.2.1=valueRS s i e)∧x.2.2.2.get x.2.2.1=some (.row 5 1 (bytesA x.2.1))∧H.next≤x.2.2.1∧x.2.2.1<x.2.2.2.next∧∀j,j<H.next→x.2.2.2.get j=H.get j
theorem valueRF_end {f:Nat} {s:List UInt8} {i e:Nat} {acc:List UInt8} (h:¬i<e):valueRF f s i e acc=(acc,true):=by
 cases f with
 | zero=>rfl
 | succ f=>rw[valueRF,if_neg h]
set_option maxHeartbeats 4000000 in
set_option maxRecDepth 100000 in
theorem q_value_ok (G:Nat→Option (List AV)) {s:List UInt8} {i e:Nat} (hie:i≤e) (he:e≤s.length) (hs:s.length≤100000000):PureCall Tryz.prog G 105 [.str s,.int .i64 i,.int .i64 e] (.tup [.str (valueRS s i e).1,.bool (valueRS s i e).2]):=by
 intro H
 refine ACalls.keep (ACalls.of Tryz.func105 S105_eq R105 N105 rfl rfl ?_)
 simp (maxSteps:=400000) only[wF,storeA,reduceCtorEq,Nat.reduceAdd,Nat.reduceSub,Nat.reduceEqDiff,Nat.reduceLeDiff,Int.reduceToNat,Int.reduceLE,Int.reduceLT,Int.reduceAdd,Int.reduceNeg,Nat.reduceMul,S105,N105,R105,T105]
 have hw:∀a a',Tzs 0 (fun _=>none) (some (.slc H.next 0)) a a'→Weak G a H a' ⟨H.next+1,fun j=>if j=H.next then some (.row 5 1 [])else H.get j⟩:=fun a a' ht=>by
  refine Weak.nilRow H.next 5 1 (Nat.le_refl _) (Nat.lt_succ_self _) (by simp) (fun j=>?_) ht
  by_cases h1:j=H.next
  ·exact .inl h1
  ·cases hg:H.get j with
   | none=>exact .inr (.inl (by simp[h1,hg]))
   | some o=>exact .inr (.inr ⟨o,o,rfl,by simp[h1,hg],.same o⟩)
 refine ATrS.weak (hw _ _ (show Tzs 0 (fun _=>none) (some (.slc H.next 0)) _ (AV.str s :: .int .i64 i :: .int .i64 e :: .und :: .und :: .und :: .str [] :: .bool false :: .slc H.next 0::_)from ⟨.same _,.same _,.same _,.und _,.und _,.und _,.same _,.same _,.nil _ rfl,Tzs.refl _⟩)) ?_
 refine ATrS.loopK (κ:=Nat × List UInt8 × Nat × AHeap) (fun x=>[.str s,.int .i64 x.1,.int .i64 e,.und,.und,.und,.und,.und,.slc x.2.2.1 x.2.1.length]++List.replicate 35 .und) (fun x=>x.2.2.2)
  (QValAt s i e H) (fun x=>e-x.1) ⟨(i,[],H.next,_),⟨Nat.le_refl _,hie,by simp,⟨e-i,Nat.le_refl _,rfl⟩,by simp[bytesA],Nat.le_refl _,Nat.lt_succ_self _,fun j hj=>by simp only;rw[if_neg (by omega)]⟩,by simp[Fg],HW.refl _⟩ ?_
 rintro⟨k,acc,m,J⟩ ⟨k1,k2,k3,⟨f,hf,hv⟩,hm,hHm,hmn,hJ⟩
 simp only at k1 k2 k3 hf hv hm hHm hmn hJ
 by_cases hlt:k<e
 case neg=>
  have d1:decide ((k:Int)<(e:Int))=false:=by simp;omega
  rw[valueRF_end hlt]at hv
  have v1:(acc.length*1≤(bytesA acc).length)=True:=by simp[bytesA]
  have v2:List.take acc.length (bytesA acc)=bytesA acc:=List.take_of_length_le (by simp[bytesA])
  have v3:(acc.length≤(bytesA acc).length)=True:=by simp[bytesA]
  simp (maxSteps:=400000) only[wF,storeA,reduceCtorEq,Nat.reduceAdd,Nat.reduceSub,Nat.reduceEqDiff,Nat.reduceLeDiff,Int.reduceToNat,Int.reduceLE,Int.reduceLT,Int.reduceAdd,Int.reduceNeg,Nat.reduceMul,T105,d1,convA,srcCells,hm,v1,v2,v3,Nat.mul_one,bytesOfA_bytesA]
  exact⟨by rw[←hv],by omega,hJ⟩
 have d1:decide ((k:Int)<(e:Int))=true:=by simp;omega
 have hks:k<s.length:=by omega
 obtain⟨f,rfl⟩:∃f',f=f'+1:=⟨f-1,by omega⟩
 rw[valueRF,if_pos hlt]at hv
 have hg:s[k]?=some s[k]:=List.getElem?_eq_getElem hks
 have hgD:s.getD k 0=s[k]:=by rw[List.getD_eq_getElem?_getD,hg];rfl
 have hsl:=name_at (List.drop_eq_getElem_cons hks)
 have hd:=List.drop_eq_getElem_cons hks
 have ew:IntKind.i64.wrap ((k:Int)+1)=((k+1:Nat):Int):=by rw[wrap64]<;>omega
 have q1:((k:Int)≤((k+1:Nat):Int))=True:=by simp;omega
 have q2:(((k+1:Nat):Int)≤(s.length:Int))=True:=by simp;omega
 rw[hgD]at hv
 generalize s[k]=c at hv hg hsl hd
 have hnm:(m=J.next)=False:=by simp;omega
 have fin:∀(k':Nat) (c':List UInt8) (J1 Z:AHeap),Keeps J J1→k<k'→k'≤e→(acc++c').length≤4*k'→(∃f,e-k'≤f∧valueRF f s k' e (acc++c')=valueRS s i e)→Z.get J1.next=some (.row 5 1 (bytesA (acc++c')))→J1.next<Z.next →
   (∀j,j<H.next→Z.get j=J1.get j)→QValAt s i e H (k',acc++c',J1.next,Z):=fun k' c' J1 Z h1 a1 a2 a3 a4 a5 a6 a7=>
  ⟨by simp only;omega,a2,a3,a4,a5,by have:=h1.1;simp only;omega,a6,fun j hj=>by simp only;rw[a7 j hj,h1.2];exact hJ j hj⟩
 by_cases h38:c=38
 ·have b2:((c.toNat:Int)==38)=true:=by rw[h38];rfl
  rw[if_pos h38]at hv
  have hW:=refW_eq (s:=s) (i:=k) (t:=s.drop (k+1)) (by rw[hd,h38])
  have hl4:=refD_len (s.drop (k+1))
  simp (maxSteps:=400000) only[wF,storeA,reduceCtorEq,Nat.reduceAdd,Nat.reduceSub,Nat.reduceEqDiff,Nat.reduceLeDiff,Int.reduceToNat,Int.reduceLE,Int.reduceLT,Int.reduceAdd,Int.reduceNeg,Nat.reduceMul,T105,d1,hg,ew,q1,q2,b2]
  refine AInv.pureK B135 (r_ref_ok G (by omega) (by omega)) fun J1 h1=>?_
  have p1:=h1.1
  have hm1:J1.get m=some (.row 5 1 (bytesA acc)):=by rw[h1.2];exact hm
  have hW1:(refW s k).1.length≤4:=by rw[hW];split;exact hl4;simp
  have hW2:0≤(refW s k).2→(k:Int)<(refW s k).2:=fun h=>by
   rw[hW]at h ⊢
   split
   ·simp only;omega
   ·rename_i hh;rw[if_neg hh]at h;exact absurd h (by decide)
  generalize refW s k=rr at hv hW1 hW2
  by_cases hbad:rr.2<0∨(e:Int)<rr.2
  ·rw[if_pos hbad]at hv
   by_cases hneg:rr.2<0
   ·have z:decide (rr.2<0)=true:=decide_eq_true hneg
    simp (maxSteps:=400000) only[wF,storeA,reduceCtorEq,Nat.reduceAdd,Nat.reduceSub,Nat.reduceEqDiff,Nat.reduceLeDiff,Int.reduceToNat,Int.reduceLE,Int.reduceLT,Int.reduceAdd,Int.reduceNeg,Nat.reduceMul,T105,z]
    exact⟨by rw[←hv],by omega,fun j hj=>by rw[h1.2];exact hJ j hj⟩
   ·have z:decide (rr.2<0)=false:=decide_eq_false hneg
    have z2:decide (rr.2>(e:Int))=true:=by simp;omega
    simp (maxSteps:=400000) only[wF,storeA,reduceCtorEq,Nat.reduceAdd,Nat.reduceSub,Nat.reduceEqDiff,Nat.reduceLeDiff,Int.reduceToNat,Int.reduceLE,Int.reduceLT,Int.reduceAdd,Int.reduceNeg,Nat.reduceMul,T105,z,z2]
    exact⟨by rw[←hv],by omega,fun j hj=>by rw[h1.2];exact hJ j hj⟩
  ·rw[if_neg hbad]at hv
   have z:decide (rr.2<0)=false:=by simp;omega
   have z2:decide (rr.2>(e:Int))=false:=by simp;omega
   obtain⟨k',hk'⟩:∃k':Nat,rr.2=k':=⟨rr.2.toNat,by omega⟩
   have hkk:=hW2 (by omega)
   rw[hk',Int.toNat_natCast]at hv
   rw[hk']at z z2
   have hle:(acc.length+rr.1.length≤maxApp)=True:=by simp[maxApp];omega
   have hmn1:(m=J1.next)=False:=by simp;omega
   simp (maxSteps:=400000) only[wF,storeA,reduceCtorEq,Nat.reduceAdd,Nat.reduceSub,Nat.reduceEqDiff,Nat.reduceLeDiff,Int.reduceToNat,Int.reduceLE,Int.reduceLT,Int.reduceAdd,Int.reduceNeg,Nat.reduceMul,T105,hk',z,z2,appendA,appSrc,AV.isSlc,hm1,hle,bytesA_len,hmn1]
   generalize hZ:AHeap.allocAt _ J1.next _=Z
   have hZf:=fin k' rr.1 J1 Z h1 (by omega) (by omega) (by simp only[List.length_append];omega) ⟨f,by omega,hv⟩
    (by rw[←hZ,AHeap.get_allocAt_same];simp[bytesA]) (by rw[←hZ];simp only[AHeap.next_allocAt,AHeap.next_del];omega) (fun j hj=>by rw[←hZ,AHeap.get_allocAt_ne _ _ (by omega),AHeap.get_del_ne _ (by omega)])
   exact⟨_,hZf,by simp only;omega,by simp[Fg],HW.refl _⟩
 ·have b2:((c.toNat:Int)==38)=false:=by
   rw[beq_eq_false_iff_ne]
   intro h
   exact h38 (UInt8.toNat_inj.1 (by simpa using Int.ofNat_inj.1 h))
  rw[if_neg h38]at hv
  have z:decide (((k+1:Nat):Int)<0)=false:=by simp;omega
  have z2:decide (((k+1:Nat):Int)>(e:Int))=false:=by simp;omega
  have hle:(acc.length+1≤maxApp)=True:=by simp[maxApp];omega
  simp (maxSteps:=400000) only[wF,storeA,reduceCtorEq,Nat.reduceAdd,Nat.reduceSub,Nat.reduceEqDiff,Nat.reduceLeDiff,Int.reduceToNat,Int.reduceLE,Int.reduceLT,Int.reduceAdd,Int.reduceNeg,Nat.reduceMul,T105,d1,hg,ew,q1,q2,b2,hsl,z,z2,appendA,appSrc,AV.isSlc,hm,hle,bytesA_len,hnm]
  generalize hZ:AHeap.allocAt _ J.next _=Z
  have hZf:=fin (k+1) [c] J Z (Keeps.refl J) (by omega) hlt (by simp only[List.length_append,List.length_singleton];omega) ⟨f,by omega,hv⟩
   (by rw[←hZ,AHeap.get_allocAt_same];simp[bytesA]) (by rw[←hZ];simp only[AHeap.next_allocAt,AHeap.next_del];omega) (fun j hj=>by rw[←hZ,AHeap.get_allocAt_ne _ _ (by omega),AHeap.get_del_ne _ (by omega)])
  exact⟨_,hZf,by simp only;omega,by simp[Fg],HW.refl _⟩
end Go.Ab
namespace Go.Ab
open Go Go.Lib Go.Proofs
def VsAt (s:List UInt8) (H:AHeap) (x:Nat × AHeap):Prop:=x.1≤s.length∧H.next≤x.2.next∧∀j,j<H.next→x.2.get j=H.get j
set_option maxHeartbeats 4000000 in
set_option maxRecDepth 100000 in
theorem v_small_ok (G:Nat→Option (List AV)) {s:List UInt8} (hs:s.length≤1000000000):PureCall Tryz.prog G 137 [.str s] (.str (s.map lowC)):=by
 intro H
 refine ACalls.keep (ACalls.of Tryz.func137 S137_eq R137 N137 rfl rfl ?_)
 simp (maxSteps:=400000) only[wF,storeA,reduceCtorEq,Nat.reduceAdd,Nat.reduceSub,Nat.reduceEqDiff,Nat.reduceLeDiff,Int.reduceToNat,Int.reduceLE,Int.reduceLT,Int.reduceAdd,Int.reduceNeg,Nat.reduceMul,S137,N137,R137,T137]
 refine ATrS.loopK (κ:=Nat × AHeap) (fun x=>[.str s,.und,.und,.str ((s.take x.1).map lowC),.int .i64 x.1]++List.replicate 24 .und) (fun x=>x.2)
  (VsAt s H) (fun x=>s.length-x.1) ⟨(0,H),⟨Nat.zero_le _,Nat.le_refl _,fun _ _=>rfl⟩,by simp[Fg],HW.refl _⟩ ?_
 rintro⟨k,J⟩ ⟨hk,g1,g2⟩
 simp only at hk g1 g2
 by_cases hlt:k<s.length
 ·have d0:decide ((k:Int)<(s.length:Int))=true:=by simp;omega
  have hg:s[k]?=some s[k]:=List.getElem?_eq_getElem hlt
  have ew:IntKind.i64.wrap ((k:Int)+1)=((k+1:Nat):Int):=by rw[wrap64]<;>omega
  have htk:(s.take (k+1)).map lowC=(s.take k).map lowC++[lowC s[k]]:=by
   rw[List.take_succ,List.getElem?_eq_getElem hlt,List.map_append];rfl
  have hlen:((s.take k).map lowC).length=k:=by simp;omega
  have hx:=s[k].toNat_lt
  have q0:((k:Int)<(s.length:Int))=True:=by simp;omega
  by_cases hup:65≤s[k].toNat∧s[k].toNat≤90
  ·have d1:decide ((s[k].toNat:Int)≥65)=true:=by simp;omega
   have d2:decide ((s[k].toNat:Int)≤90)=true:=by simp;omega
   have hlow:(lowC s[k]).toNat=s[k].toNat+32:=by
    unfold lowC
    rw[if_pos hup,UInt8.toNat_add]
    simp
    omega
   have e8:IntKind.u8.wrap ((s[k].toNat:Int)+32)=((lowC s[k]).toNat:Int):=by rw[hlow,wrapu8]<;>omega
   generalize lowC s[k]=y at htk e8
   have hb:bytesOfA [AV.int .u8 y.toNat]=some [y]:=bytesOfA_bytesA [y]
   simp (maxSteps:=400000) only[wF,storeA,reduceCtorEq,Nat.reduceAdd,Nat.reduceSub,Nat.reduceEqDiff,Nat.reduceLeDiff,Int.reduceToNat,Int.reduceLE,Int.reduceLT,Int.reduceAdd,Int.reduceNeg,Nat.reduceMul,T137,d0,q0,hg,d1,d2,e8,ew,buildA,sliceLit,fillA,zerosA,convA,srcCells,hb,AV.boxable,List.take_succ_cons,List.take_zero,Nat.le_refl,Nat.reduceLT]
   have fin:VsAt s H (k+1,J.allocAt J.next (.row 5 1 [.int .u8 y.toNat])):=⟨hlt,by simp only[AHeap.next_allocAt];omega,fun j hj=>by
    show(AHeap.allocAt _ _ _).get j=_
    rw[AHeap.get_allocAt_ne _ _ (by omega)];exact g2 j hj⟩
   exact⟨by rw[hlen];simp[maxStr];omega,_,fin,by simp only;omega,by simp only[htk];simp[Fg],HW.refl _⟩
  ·have hlow:lowC s[k]=s[k]:=by unfold lowC;rw[if_neg hup]
   rw[hlow]at htk
   generalize s[k]=y at htk hg hup hx
   have hb:bytesOfA [AV.int .u8 y.toNat]=some [y]:=bytesOfA_bytesA [y]
   have fin:VsAt s H (k+1,J.allocAt J.next (.row 5 1 [.int .u8 y.toNat])):=⟨hlt,by simp only[AHeap.next_allocAt];omega,fun j hj=>by
    show(AHeap.allocAt _ _ _).get j=_
    rw[AHeap.get_allocAt_ne _ _ (by omega)];exact g2 j hj⟩
   by_cases h65:65≤y.toNat
   ·have d1:decide ((y.toNat:Int)≥65)=true:=by simp;omega
    have d2:decide ((y.toNat:Int)≤90)=false:=by simp;omega
    simp (maxSteps:=400000) only[wF,storeA,reduceCtorEq,Nat.reduceAdd,Nat.reduceSub,Nat.reduceEqDiff,Nat.reduceLeDiff,Int.reduceToNat,Int.reduceLE,Int.reduceLT,Int.reduceAdd,Int.reduceNeg,Nat.reduceMul,T137,d0,q0,hg,d1,d2,ew,buildA,sliceLit,fillA,zerosA,convA,srcCells,hb,AV.boxable,List.take_succ_cons,List.take_zero,Nat.le_refl,Nat.reduceLT]
    exact⟨by rw[hlen];simp[maxStr];omega,_,fin,by simp only;omega,by simp only[htk];simp[Fg],HW.refl _⟩
   ·have d1:decide ((y.toNat:Int)≥65)=false:=by simp;omega
    simp (maxSteps:=400000) only[wF,storeA,reduceCtorEq,Nat.reduceAdd,Nat.reduceSub,Nat.reduceEqDiff,Nat.reduceLeDiff,Int.reduceToNat,Int.reduceLE,Int.reduceLT,Int.reduceAdd,Int.reduceNeg,Nat.reduceMul,T137,d0,q0,hg,d1,ew,buildA,sliceLit,fillA,zerosA,convA,srcCells,hb,AV.boxable,List.take_succ_cons,List.take_zero,Nat.le_refl,Nat.reduceLT]
    exact⟨by rw[hlen];simp[maxStr];omega,_,fin,by simp only;omega,by simp only[htk];simp[Fg],HW.refl _⟩
 ·have d0:decide ((k:Int)<(s.length:Int))=false:=by simp;omega
  have hkl:k=s.length:=by omega
  subst hkl
  simp (maxSteps:=400000) only[wF,storeA,reduceCtorEq,Nat.reduceAdd,Nat.reduceSub,Nat.reduceEqDiff,Nat.reduceLeDiff,Int.reduceToNat,Int.reduceLE,Int.reduceLT,Int.reduceAdd,Int.reduceNeg,Nat.reduceMul,T137,d0]
  rw[List.take_length]
  exact⟨rfl,g1,g2⟩
def inS (name:List UInt8) (l:List (List UInt8)):Bool:=l.any fun x=>x==name.map lowC
theorem inS_step {name:List UInt8} {l:List (List UInt8)} {k:Nat} (h:k<l.length):inS name (l.drop k)=(l[k]==name.map lowC||inS name (l.drop (k+1))):=by
 rw[List.drop_eq_getElem_cons h];rfl
def ViAt (name:List UInt8) (l:List (List UInt8)) (H:AHeap) (x:Nat × AHeap):Prop:=x.1≤l.length∧inS name (l.drop x.1)=inS name l∧Keeps H x.2
set_option maxHeartbeats 4000000 in
set_option maxRecDepth 100000 in
theorem v_in_ok (G:Nat→Option (List AV)) {name:List UInt8} (hs:name.length≤1000000000) {l:List (List UInt8)} (hl:l.length≤1000000000) {H:AHeap} {m:Nat} (hm:H.get m=some (.row 9 1 (strsH l))) (hmn:m<H.next) :
  ACalls Tryz.prog G 110 [.str name,.slc m l.length] H fun r H'=>r = .ret (.bool (inS name l))∧Keeps H H':=by
 refine ACalls.of Tryz.func110 S110_eq R110 N110 rfl rfl ?_
 simp (maxSteps:=400000) only[wF,storeA,reduceCtorEq,Nat.reduceAdd,Nat.reduceSub,Nat.reduceEqDiff,Nat.reduceLeDiff,Int.reduceToNat,Int.reduceLE,Int.reduceLT,Int.reduceAdd,Int.reduceNeg,Nat.reduceMul,S110,N110,R110,T110]
 refine ATrS.loopK (κ:=Nat × AHeap) (fun x=>[.str name,.slc m l.length,.und,.und,.und,.int .i64 x.1]++List.replicate 13 .und) (fun x=>x.2)
  (ViAt name l H) (fun x=>l.length-x.1) ⟨(0,H),⟨Nat.zero_le _,rfl,Keeps.refl H⟩,by simp[Fg],HW.refl _⟩ ?_
 rintro⟨k,J⟩ ⟨hk,hin,hJ⟩
 simp only at hk hin hJ
 by_cases hlt:k<l.length
 ·have d0:decide ((k:Int)<(l.length:Int))=true:=by simp;omega
  have ew:IntKind.i64.wrap ((k:Int)+1)=((k+1:Nat):Int):=by rw[wrap64]<;>omega
  have q0:((k:Int)<(l.length:Int))=True:=by simp;omega
  have hg:(strsH l)[k]?=some (.str l[k]):=by simp[strsH,hlt]
  have hm1:J.get m=some (.row 9 1 (strsH l)):=by rw[hJ.2];exact hm
  rw[inS_step hlt]at hin
  generalize l[k]=x at hg hin
  simp (maxSteps:=400000) only[wF,storeA,reduceCtorEq,Nat.reduceAdd,Nat.reduceSub,Nat.reduceEqDiff,Nat.reduceLeDiff,Int.reduceToNat,Int.reduceLE,Int.reduceLT,Int.reduceAdd,Int.reduceNeg,Nat.reduceMul,T110,d0]
  refine drawW_ok (ex:=false) mixedOrders L110_4_eq P110_4_eq ?_
  simp (maxSteps:=400000) only[wF,storeA,reduceCtorEq,Nat.reduceAdd,Nat.reduceSub,Nat.reduceEqDiff,Nat.reduceLeDiff,Int.reduceToNat,Int.reduceLE,Int.reduceLT,Int.reduceAdd,Int.reduceNeg,Nat.reduceMul,L110_4,T110,hm1,q0,hg,indexAddrA,Nat.mul_one]
  refine callW.pure B137 (v_small_ok G hs) ?_
  generalize hb:(x==name.map lowC)=b at hin
  simp (maxSteps:=400000) only[wF,storeA,reduceCtorEq,Nat.reduceAdd,Nat.reduceSub,Nat.reduceEqDiff,Nat.reduceLeDiff,Int.reduceToNat,Int.reduceLE,Int.reduceLT,Int.reduceAdd,Int.reduceNeg,Nat.reduceMul,T110,hb]
  refine⟨by simp,fun n hn=>?_⟩
  have hJ2:Keeps H ⟨n,J.get⟩:=⟨by have:=hJ.1;simp only;omega,hJ.2⟩
  cases b with
  | true=>
   simp (maxSteps:=400000) only[wF,storeA,reduceCtorEq,Nat.reduceAdd,Nat.reduceSub,Nat.reduceEqDiff,Nat.reduceLeDiff,Int.reduceToNat,Int.reduceLE,Int.reduceLT,Int.reduceAdd,Int.reduceNeg,Nat.reduceMul,T110]
   first | exact⟨by rw[←hin];rfl,hJ2⟩ | exact⟨by rw[←hin,Bool.true_or],hJ2⟩
  | false=>
   rw[Bool.false_or]at hin
   simp (maxSteps:=400000) only[wF,storeA,reduceCtorEq,Nat.reduceAdd,Nat.reduceSub,Nat.reduceEqDiff,Nat.reduceLeDiff,Int.reduceToNat,Int.reduceLE,Int.reduceLT,Int.reduceAdd,Int.reduceNeg,Nat.reduceMul,T110,ew]
   exact⟨(k+1,⟨n,J.get⟩),⟨hlt,hin,hJ2⟩,by simp only;omega,by simp[Fg],HW.refl _⟩
 ·have d0:decide ((k:Int)<(l.length:Int))=false:=by simp;omega
  have hkl:k=l.length:=by omega
  subst hkl
  rw[List.drop_length]at hin
  simp (maxSteps:=400000) only[wF,storeA,reduceCtorEq,Nat.reduceAdd,Nat.reduceSub,Nat.reduceEqDiff,Nat.reduceLeDiff,Int.reduceToNat,Int.reduceLE,Int.reduceLT,Int.reduceAdd,Int.reduceNeg,Nat.reduceMul,T110,d0]
  first | exact⟨by rw[←hin];rfl,hJ⟩ | exact⟨hin,hJ⟩
set_option maxRecDepth 100000 in
theorem lowBC (s:List UInt8):s.map lowC=lowS s:=by
 have h:∀c:UInt8,lowC c=lowB c:=fun c=>by
  have:∀n:Fin 256,lowC (UInt8.ofNat n.val)=lowB (UInt8.ofNat n.val):=by decide
  simpa using this ⟨c.toNat,c.toNat_lt⟩
 unfold lowS
 exact List.map_congr_left fun c _=>h c
def rawsL:List (List UInt8):=[[115,99,114,105,112,116],[115,116,121,108,101]]
theorem beq_swap (a b:List UInt8):(a==b)=(b==a):=by
 by_cases h:a=b
 ·subst h;rfl
 ·rw[beq_false_of_ne h,beq_false_of_ne (Ne.symm h)]
theorem inS_raw (n:List UInt8):inS n rawsL=isRawS n:=by
 unfold inS isRawS rawsL
 simp only[List.any_cons,List.any_nil,Bool.or_false,lowBC,beq_swap (lowS n)]
theorem inS_void (n:List UInt8):inS n voidsS=isVoidS n:=by
 unfold inS isVoidS
 rw[lowBC,List.contains_eq_any_beq]
 congr 1
 funext x
 exact beq_swap _ _
set_option maxRecDepth 100000 in
theorem v_Raw_ok (G:Nat→Option (List AV)) {name:List UInt8} (hs:name.length≤1000000000):PureCall Tryz.prog G 70 [.str name] (.bool (isRawS name)):=by
 intro H
 refine ACalls.keep (ACalls.of Tryz.func70 S70_eq R70 N70 rfl rfl ?_)
 simp (maxSteps:=400000) only[wF,storeA,reduceCtorEq,Nat.reduceAdd,Nat.reduceSub,Nat.reduceEqDiff,Nat.reduceLeDiff,Int.reduceToNat,Int.reduceLE,Int.reduceLT,Int.reduceAdd,Int.reduceNeg,Nat.reduceMul,S70,N70,R70,T70,buildA,sliceLit,fillA,zerosA,AV.boxable,Nat.le_refl,Nat.reduceLT]
 refine AInv.retK B110 (v_in_ok G hs (l:=rawsL) (by decide) (AHeap.get_allocAt_same _ _ _) (by simp only[AHeap.next_allocAt];omega)) (fun v J hq=>?_) (fun v J hq=>by cases hq.1)
 obtain⟨hv,hJ⟩:=hq
 cases hv
 rw[inS_raw]
 simp (maxSteps:=400000) only[wF,storeA,reduceCtorEq,Nat.reduceAdd,Nat.reduceSub,Nat.reduceEqDiff,Nat.reduceLeDiff,Int.reduceToNat,Int.reduceLE,Int.reduceLT,Int.reduceAdd,Int.reduceNeg,Nat.reduceMul,T70]
 have n1:=hJ.1
 simp only[AHeap.next_allocAt]at n1
 have fin:H.next≤J.next∧∀j,j<H.next→J.get j=H.get j:=⟨by omega,fun j hj=>by rw[hJ.2,AHeap.get_allocAt_ne _ _ (by omega)]⟩
 first | exact⟨rfl,fin⟩ | exact fin
set_option maxRecDepth 100000 in
theorem v_Void_ok (G:Nat→Option (List AV)) {name:List UInt8} (hs:name.length≤1000000000):PureCall Tryz.prog G 71 [.str name] (.bool (isVoidS name)):=by
 intro H
 refine ACalls.keep (ACalls.of Tryz.func71 S71_eq R71 N71 rfl rfl ?_)
 simp (maxSteps:=400000) only[wF,storeA,reduceCtorEq,Nat.reduceAdd,Nat.reduceSub,Nat.reduceEqDiff,Nat.reduceLeDiff,Int.reduceToNat,Int.reduceLE,Int.reduceLT,Int.reduceAdd,Int.reduceNeg,Nat.reduceMul,S71,N71,R71,T71,buildA,sliceLit,fillA,zerosA,AV.boxable,Nat.le_refl,Nat.reduceLT]
 refine AInv.retK B110 (v_in_ok G hs (l:=voidsS) (by decide) (AHeap.get_allocAt_same _ _ _) (by simp only[AHeap.next_allocAt];omega)) (fun v J hq=>?_) (fun v J hq=>by cases hq.1)
 obtain⟨hv,hJ⟩:=hq
 cases hv
 rw[inS_void]
 simp (maxSteps:=400000) only[wF,storeA,reduceCtorEq,Nat.reduceAdd,Nat.reduceSub,Nat.reduceEqDiff,Nat.reduceLeDiff,Int.reduceToNat,Int.reduceLE,Int.reduceLT,Int.reduceAdd,Int.reduceNeg,Nat.reduceMul,T71]
 have n1:=hJ.1
 simp only[AHeap.next_allocAt]at n1
 have fin:H.next≤J.next∧∀j,j<H.next→J.get j=H.get j:=⟨by omega,fun j hj=>by rw[hJ.2,AHeap.get_allocAt_ne _ _ (by omega)]⟩
 first | exact⟨rfl,fin⟩ | exact fin
end Go.Ab
namespace Go.Ab
open Go Go.Lib Go.Proofs
theorem findR_nat (s p:List UInt8) (k:Nat) (hp:1≤p.length):findR s k p = -1∨∃n:Nat,findR s k p=n∧k≤n∧n+p.length≤s.length:=by
 unfold findR
 split
 ·exact .inl rfl
 ·rename_i h
  have hr:=Lib.index_room (s.drop k) p (by omega)
  simp only[List.length_drop]at hr
  exact .inr ⟨k+(Lib.index (s.drop k) p).toNat,by omega,by omega,by omega⟩
def attrA (o:Option ((List UInt8 × List UInt8) × Nat)):AV:=match o with
 | none => .tup [.agg [.str [],.str []],.int .i64 (-1)]
 | some x => .tup [.agg [.str x.1.1,.str x.1.2],.int .i64 x.2]
set_option maxHeartbeats 4000000 in
set_option maxRecDepth 100000 in
theorem q_attribute_ok (G:Nat→Option (List AV)) {s:List UInt8} {i:Nat} (hi:i<s.length) (hs:s.length≤100000000):PureCall Tryz.prog G 109 [.str s,.int .i64 i] (attrA (attrRS s i)):=by
 intro H
 refine ACalls.keep (ACalls.of Tryz.func109 S109_eq R109 N109 rfl rfl ?_)
 have ew:IntKind.i64.wrap ((i:Int)+1)=((i+1:Nat):Int):=by rw[wrap64]<;>omega
 simp (maxSteps:=400000) only[wF,storeA,reduceCtorEq,Nat.reduceAdd,Nat.reduceSub,Nat.reduceEqDiff,Nat.reduceLeDiff,Int.reduceToNat,Int.reduceLE,Int.reduceLT,Int.reduceAdd,Int.reduceNeg,Nat.reduceMul,S109,N109,R109,T109,ew]
 refine AInv.pureK B106 (q_name_ok G (by omega) (by omega)) fun H1 h1=>?_
 simp (maxSteps:=400000) only[wF,storeA,reduceCtorEq,Nat.reduceAdd,Nat.reduceSub,Nat.reduceEqDiff,Nat.reduceLeDiff,Int.reduceToNat,Int.reduceLE,Int.reduceLT,Int.reduceAdd,Int.reduceNeg,Nat.reduceMul,T109]
 refine AInv.pureK B66 (q_begins_ok G (by omega) (by omega) (by simp)) fun H2 h2=>?_
 have kge:=nameR_ge s (i+1)
 have kle:=nameR_le (s:=s) (i:=i+1) (by omega)
 have n1:=h1.1
 have n2:=h2.1
 simp only[AHeap.next_allocAt]at n1
 have x0:H2.get H.next=some (.cells 132 [.str [],.str []]):=by rw[h2.2,h1.2,AHeap.get_allocAt_same]
 have xo:∀j,j<H.next→H2.get j=H.get j:=fun j hj=>by rw[h2.2,h1.2,AHeap.get_allocAt_ne _ _ (by omega)]
 unfold attrRS
 simp only
 generalize nameR s (i+1)=k at kge kle
 have fin:∀(J:AHeap) (o:AObj),H.next≤J.next→(∀j,j<H.next→J.get j=H.get j)→H.next≤J.next∧∀j,j<H.next→(if j=H.next then some o else J.get j)=H.get j:=fun J o a b=>⟨a,fun j hj=>by rw[if_neg (by omega)];exact b j hj⟩
 cases hb:Lib.hasPrefix (s.drop i) [32]with
 | false=>
  rw[if_pos (.inl rfl)]
  simp (maxSteps:=400000) only[wF,storeA,reduceCtorEq,Nat.reduceAdd,Nat.reduceSub,Nat.reduceEqDiff,Nat.reduceLeDiff,Int.reduceToNat,Int.reduceLE,Int.reduceLT,Int.reduceAdd,Int.reduceNeg,Nat.reduceMul,T109,Bool.not_false,x0,buildA,fillA,AV.boxable]
  exact⟨rfl,fin H2 _ (by omega) xo⟩
 | true=>
 by_cases hk0:k=i+1
 ·rw[if_pos (.inr hk0)]
  have b1:((k:Int)==((i+1:Nat):Int))=true:=by rw[hk0];simp
  simp (maxSteps:=400000) only[wF,storeA,reduceCtorEq,Nat.reduceAdd,Nat.reduceSub,Nat.reduceEqDiff,Nat.reduceLeDiff,Int.reduceToNat,Int.reduceLE,Int.reduceLT,Int.reduceAdd,Int.reduceNeg,Nat.reduceMul,T109,Bool.not_true,ew,b1,x0,buildA,fillA,AV.boxable]
  exact⟨rfl,fin H2 _ (by omega) xo⟩
 rw[if_neg (by simp[hk0])]
 have b1:((k:Int)==((i+1:Nat):Int))=false:=by rw[beq_eq_false_iff_ne];omega
 simp (maxSteps:=400000) only[wF,storeA,reduceCtorEq,Nat.reduceAdd,Nat.reduceSub,Nat.reduceEqDiff,Nat.reduceLeDiff,Int.reduceToNat,Int.reduceLE,Int.reduceLT,Int.reduceAdd,Int.reduceNeg,Nat.reduceMul,T109,Bool.not_true,ew,b1]
 have q1:((0:Int)≤((i+1:Nat):Int))=True:=by simp;omega
 have q2:(((i+1:Nat):Int)≤(k:Int))=True:=by simp;omega
 have q3:((k:Int)≤(s.length:Int))=True:=by simp;omega
 refine drawW_fixed mixedOrders L109_4_eq P109_4_eq ?_
 simp (maxSteps:=400000) only[wF,storeA,reduceCtorEq,Nat.reduceAdd,Nat.reduceSub,Nat.reduceEqDiff,Nat.reduceLeDiff,Int.reduceToNat,Int.reduceLE,Int.reduceLT,Int.reduceAdd,Int.reduceNeg,Nat.reduceMul,L109_4,T109,ew,q1,q2,q3,w_sliceBoth,Int.toNat_natCast,buildA,fillA,AV.boxable]
 refine⟨by simp,?_⟩
 generalize hZ:AHeap.set _ H2.next _=Z
 generalize hnm:List.drop (i+1) (List.take k s)=nm at hZ ⊢
 have z0:Z.get H.next=some (.cells 132 [.str [],.str []]):=by rw[←hZ,AHeap.get_set_ne _ _ (by omega),AHeap.get_allocAt_ne _ _ (by omega)];exact x0
 have z1:Z.get H2.next=some (.cells 132 [.str nm,.str nm]):=by rw[←hZ,AHeap.get_set_same]
 have zn:Z.next=H2.next+1:=by rw[←hZ];simp only[AHeap.next_set,AHeap.next_allocAt];omega
 have zo:∀j,j<H.next→Z.get j=H.get j:=fun j hj=>by rw[←hZ,AHeap.get_set_ne _ _ (by omega),AHeap.get_allocAt_ne _ _ (by omega)];exact xo j hj
 clear hZ
 refine AInv.pureK B66 (q_begins_ok G kle (by omega) (by simp)) fun H3 h3=>?_
 have n3:=h3.1
 have y0:=(congrFun h3.2 _).trans z0
 have y1:=(congrFun h3.2 _).trans z1
 have yo:∀j,j<H.next→H3.get j=H.get j:=fun j hj=>(congrFun h3.2 _).trans (zo j hj)
 have u1:(H2.next=H.next)=False:=by simp;omega
 have u2:(H.next=H2.next)=False:=by simp;omega
 cases hq:Lib.hasPrefix (s.drop k) [61,34]with
 | false=>
  rw[if_pos rfl]
  simp (maxSteps:=400000) only[wF,storeA,reduceCtorEq,Nat.reduceAdd,Nat.reduceSub,Nat.reduceEqDiff,Nat.reduceLeDiff,Int.reduceToNat,Int.reduceLE,Int.reduceLT,Int.reduceAdd,Int.reduceNeg,Nat.reduceMul,T109,Bool.not_false,y0,y1,u1,u2,AV.boxable]
  exact⟨rfl,fin H3 _ (by omega) yo⟩
 | true=>
 rw[if_neg (by simp)]
 have ew2:IntKind.i64.wrap ((k:Int)+2)=((k+2:Nat):Int):=by rw[wrap64]<;>omega
 simp (maxSteps:=400000) only[wF,storeA,reduceCtorEq,Nat.reduceAdd,Nat.reduceSub,Nat.reduceEqDiff,Nat.reduceLeDiff,Int.reduceToNat,Int.reduceLE,Int.reduceLT,Int.reduceAdd,Int.reduceNeg,Nat.reduceMul,T109,Bool.not_true,ew2]
 refine AInv.pureK B104 (q_find_ok G (by omega) (by omega) (by simp) (by simp)) fun H4 h4=>?_
 simp (maxSteps:=400000) only[wF,storeA,reduceCtorEq,Nat.reduceAdd,Nat.reduceSub,Nat.reduceEqDiff,Nat.reduceLeDiff,Int.reduceToNat,Int.reduceLE,Int.reduceLT,Int.reduceAdd,Int.reduceNeg,Nat.reduceMul,T109,ew2]
 refine AInv.pureK B104 (q_find_ok G (by omega) (by omega) (by simp) (by simp)) fun H5 h5=>?_
 have h35:=(h3.trans h4).trans h5
 have n5:=h35.1
 have w0:=(congrFun h35.2 _).trans z0
 have w1:=(congrFun h35.2 _).trans z1
 have wo:∀j,j<H.next→H5.get j=H.get j:=fun j hj=>(congrFun h35.2 _).trans (zo j hj)
 have hf1:=findR_nat s [34] (k+2) (by simp)
 generalize findR s (k+2) [34]=f1 at hf1
 generalize findR s (k+2) [60]=f2
 by_cases hbad:f1<0∨(0≤f2∧f2<f1)
 ·clear hf1
  rw[if_pos hbad]
  by_cases hneg:f1<0
  ·have d0:decide (f1<0)=true:=decide_eq_true hneg
   simp (maxSteps:=400000) only[wF,storeA,reduceCtorEq,Nat.reduceAdd,Nat.reduceSub,Nat.reduceEqDiff,Nat.reduceLeDiff,Int.reduceToNat,Int.reduceLE,Int.reduceLT,Int.reduceAdd,Int.reduceNeg,Nat.reduceMul,T109,d0,w0,buildA,fillA,AV.boxable]
   exact⟨rfl,fin H5 _ (by omega) wo⟩
  ·have d0:decide (f1<0)=false:=decide_eq_false hneg
   have d1:decide (f2≥0)=true:=by simp;omega
   have d2:decide (f2<f1)=true:=by simp;omega
   simp (maxSteps:=400000) only[wF,storeA,reduceCtorEq,Nat.reduceAdd,Nat.reduceSub,Nat.reduceEqDiff,Nat.reduceLeDiff,Int.reduceToNat,Int.reduceLE,Int.reduceLT,Int.reduceAdd,Int.reduceNeg,Nat.reduceMul,T109,d0,d1,d2,w0,buildA,fillA,AV.boxable]
   exact⟨rfl,fin H5 _ (by omega) wo⟩
 rw[if_neg hbad]
 have d0:decide (f1<0)=false:=by simp;omega
 rcases hf1 with hf1 | ⟨m,rfl,hm1,hm2⟩
 ·exact absurd (.inl (by omega)) hbad
 simp only[List.length_singleton]at hm2
 have hd12:decide (f2≥0)=false∨decide (f2≥0)=true∧decide (f2<(m:Int))=false:=by
  by_cases h:f2<0
  ·exact .inl (by simp;omega)
  ·exact .inr ⟨by simp;omega,by simp;omega⟩
 have em:IntKind.i64.wrap ((m:Int)+1)=((m+1:Nat):Int):=by rw[wrap64]<;>omega
 rw[Int.toNat_natCast]
 rcases hd12 with d1 | ⟨d1,d2⟩
 case' inl=>simp (maxSteps:=400000) only[wF,storeA,reduceCtorEq,Nat.reduceAdd,Nat.reduceSub,Nat.reduceEqDiff,Nat.reduceLeDiff,Int.reduceToNat,Int.reduceLE,Int.reduceLT,Int.reduceAdd,Int.reduceNeg,Nat.reduceMul,T109,d0,d1,ew2]
 case' inr=>simp (maxSteps:=400000) only[wF,storeA,reduceCtorEq,Nat.reduceAdd,Nat.reduceSub,Nat.reduceEqDiff,Nat.reduceLeDiff,Int.reduceToNat,Int.reduceLE,Int.reduceLT,Int.reduceAdd,Int.reduceNeg,Nat.reduceMul,T109,d0,d1,d2,ew2]
 all_goals
  refine AInv.pureK B105 (q_value_ok G (by omega) (by omega) hs) fun H6 h6=>?_
  have n6:=h6.1
  have v0:=(congrFun h6.2 _).trans w0
  have v1:=(congrFun h6.2 _).trans w1
  have vo:∀j,j<H.next→H6.get j=H.get j:=fun j hj=>(congrFun h6.2 _).trans (wo j hj)
  generalize valueRS s (k+2) m=vv
  cases hv:vv.2 with
  | false=>
   rw[if_neg (by simp)]
   simp (maxSteps:=400000) only[wF,storeA,reduceCtorEq,Nat.reduceAdd,Nat.reduceSub,Nat.reduceEqDiff,Nat.reduceLeDiff,Int.reduceToNat,Int.reduceLE,Int.reduceLT,Int.reduceAdd,Int.reduceNeg,Nat.reduceMul,T109,Bool.not_false,v0,buildA,fillA,AV.boxable]
   exact⟨rfl,fin H6 _ (by omega) vo⟩
  | true=>
   rw[if_pos rfl]
   simp (maxSteps:=400000) only[wF,storeA,reduceCtorEq,Nat.reduceAdd,Nat.reduceSub,Nat.reduceEqDiff,Nat.reduceLeDiff,Int.reduceToNat,Int.reduceLE,Int.reduceLT,Int.reduceAdd,Int.reduceNeg,Nat.reduceMul,T109,Bool.not_true,v0,v1,u1,u2,em,AV.boxable]
   exact⟨rfl,by omega,fun j hj=>by rw[if_neg (by omega),if_neg (by omega)];exact vo j hj⟩
def textA (o:Option (List UInt8 × Nat)):AV:=match o with
 | none => .tup [.str [],.int .i64 (-1)]
 | some x => .tup [.str x.1,.int .i64 x.2]
set_option maxHeartbeats 4000000 in
set_option maxRecDepth 100000 in
theorem q_text_ok (G:Nat→Option (List AV)) {s:List UInt8} {i:Nat} (hi:i≤s.length) (hs:s.length≤100000000) (raw:Bool):PureCall Tryz.prog G 67 [.str s,.int .i64 i,.bool raw] (textA (textRS s i raw)):=by
 intro H
 refine ACalls.keep (ACalls.of Tryz.func67 S67_eq R67 N67 rfl rfl ?_)
 simp (maxSteps:=400000) only[wF,storeA,reduceCtorEq,Nat.reduceAdd,Nat.reduceSub,Nat.reduceEqDiff,Nat.reduceLeDiff,Int.reduceToNat,Int.reduceLE,Int.reduceLT,Int.reduceAdd,Int.reduceNeg,Nat.reduceMul,S67,N67,R67,T67]
 refine AInv.pureK B104 (q_find_ok G (by omega) (by omega) (by simp) (by simp)) fun H1 h1=>?_
 unfold textRS
 have hf:=findR_nat s [60] i (by simp)
 cases raw with
 | true=>
  clear hf
  rw[if_pos rfl]
  simp (maxSteps:=400000) only[wF,storeA,reduceCtorEq,Nat.reduceAdd,Nat.reduceSub,Nat.reduceEqDiff,Nat.reduceLeDiff,Int.reduceToNat,Int.reduceLE,Int.reduceLT,Int.reduceAdd,Int.reduceNeg,Nat.reduceMul,T67]
  refine AInv.pureK B104 (q_find_ok G (by omega) (by omega) (by simp) (by simp)) fun H2 h2=>?_
  have hf:=findR_nat s [60,47] i (by simp)
  generalize findR s i [60,47]=f at hf
  rcases hf with rfl | ⟨n,rfl,hn1,hn2⟩
  ·have d0:decide ((-1:Int)<0)=true:=rfl
   rw[if_pos (by decide)]
   simp (maxSteps:=400000) only[wF,storeA,reduceCtorEq,Nat.reduceAdd,Nat.reduceSub,Nat.reduceEqDiff,Nat.reduceLeDiff,Int.reduceToNat,Int.reduceLE,Int.reduceLT,Int.reduceAdd,Int.reduceNeg,Nat.reduceMul,T67,d0]
   exact⟨rfl,(h1.trans h2).post⟩
  ·have d0:decide ((n:Int)<0)=false:=by simp
   simp only[List.length_cons,List.length_nil]at hn2
   have q1:((0:Int)≤(i:Int))=True:=by simp
   have q2:((i:Int)≤(n:Int))=True:=by simp;omega
   have q3:((n:Int)≤(s.length:Int))=True:=by simp;omega
   rw[if_neg (by omega),Int.toNat_natCast]
   simp (maxSteps:=400000) only[wF,storeA,reduceCtorEq,Nat.reduceAdd,Nat.reduceSub,Nat.reduceEqDiff,Nat.reduceLeDiff,Int.reduceToNat,Int.reduceLE,Int.reduceLT,Int.reduceAdd,Int.reduceNeg,Nat.reduceMul,T67,d0,q1,q2,q3,w_sliceBoth,Int.toNat_natCast]
   exact⟨rfl,(h1.trans h2).post⟩
 | false=>
  rw[if_neg (by simp)]
  simp (maxSteps:=400000) only[wF,storeA,reduceCtorEq,Nat.reduceAdd,Nat.reduceSub,Nat.reduceEqDiff,Nat.reduceLeDiff,Int.reduceToNat,Int.reduceLE,Int.reduceLT,Int.reduceAdd,Int.reduceNeg,Nat.reduceMul,T67]
  obtain⟨e,he,he1,he2,hee⟩:∃e:Nat,(if findR s i [60]<0 then s.length else(findR s i [60]).toNat)=e∧i≤e∧e≤s.length∧(findR s i [60] = -1∧e=s.length∨findR s i [60]=(e:Int)):=by
   rcases hf with hf | ⟨n,hf,hn1,hn2⟩
   ·exact⟨_,rfl,by rw[hf];simp;omega,by rw[hf];simp,.inl ⟨hf,by rw[hf];simp⟩⟩
   ·simp only[List.length_singleton]at hn2
    exact⟨n,by rw[hf,if_neg (by omega),Int.toNat_natCast],hn1,by omega,.inr hf⟩
  rw[he]
  clear hf he
  generalize findR s i [60]=f at hee
  rcases hee with ⟨rfl,rfl⟩ | rfl
  case' inl=>
   have d0:decide ((-1:Int)<0)=true:=rfl
   simp (maxSteps:=400000) only[wF,storeA,reduceCtorEq,Nat.reduceAdd,Nat.reduceSub,Nat.reduceEqDiff,Nat.reduceLeDiff,Int.reduceToNat,Int.reduceLE,Int.reduceLT,Int.reduceAdd,Int.reduceNeg,Nat.reduceMul,T67,d0]
   generalize he:s.length=e at he1 he2
  case' inr=>
   have d0:decide ((e:Int)<0)=false:=by simp
   simp (maxSteps:=400000) only[wF,storeA,reduceCtorEq,Nat.reduceAdd,Nat.reduceSub,Nat.reduceEqDiff,Nat.reduceLeDiff,Int.reduceToNat,Int.reduceLE,Int.reduceLT,Int.reduceAdd,Int.reduceNeg,Nat.reduceMul,T67,d0]
  all_goals
   refine AInv.pureK B105 (q_value_ok G he1 (by omega) hs) fun H2 h2=>?_
   generalize valueRS s i e=vv
   cases hv:vv.2 with
   | false=>
    rw[if_neg (by simp)]
    simp (maxSteps:=400000) only[wF,storeA,reduceCtorEq,Nat.reduceAdd,Nat.reduceSub,Nat.reduceEqDiff,Nat.reduceLeDiff,Int.reduceToNat,Int.reduceLE,Int.reduceLT,Int.reduceAdd,Int.reduceNeg,Nat.reduceMul,T67,Bool.not_false]
    exact⟨rfl,(h1.trans h2).post⟩
   | true=>
    rw[if_pos rfl]
    simp (maxSteps:=400000) only[wF,storeA,reduceCtorEq,Nat.reduceAdd,Nat.reduceSub,Nat.reduceEqDiff,Nat.reduceLeDiff,Int.reduceToNat,Int.reduceLE,Int.reduceLT,Int.reduceAdd,Int.reduceNeg,Nat.reduceMul,T67,Bool.not_true]
    exact⟨rfl,(h1.trans h2).post⟩
end Go.Ab
