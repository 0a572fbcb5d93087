/- Which names are xml in small letters: strings.ToLower and the reference agree. The reference of tree: has, xml, Allowed, walked. The reference of tree: Allowed, walked. -/
import Derived.Test.YtojncnpmlhhccaaGreatDoorHA
import Derived.Lib.MapLaws
import Derived.Lib.TrimUEq
import Derived.Shelf.Strings.CaseAny
import Derived.Test.YtojncnpmlhhccaaGreatDoorQB
import Derived.Test.YtojncnpmlhhccaaGreatDoorCodesQ2
set_option linter.all false
namespace Go.Ab
open Go Go.Lib
def rowLow (x:CaseRow):Bool:=decide (x.2.1≤127)||(decide (127<x.1)&&(decide (1114111<x.delta 1)||decide (128≤(x.1:Int)+x.delta 1)||(decide (x.1=x.2.1)&&(decide ((x.1:Int)+x.delta 1=105)||decide ((x.1:Int)+x.delta 1=107)))))
theorem rowLow_all:caseT.all rowLow=true:=by kernel_rfl
theorem lookup_in (T:Array CaseRow) (r:Int):∀(f lo hi i:Nat),lookupIdx T r f lo hi=some i→lo≤i∧i<hi∧((T.getD i (0,0,0,0,0)).1:Int)≤r∧r≤((T.getD i (0,0,0,0,0)).2.1:Int)
 | 0,_,_,_,h=>by cases h
 | f+1,lo,hi,i,h=>by
  rw[lookupIdx]at h
  split at h
  ·rename_i hlt
   split at h
   ·rename_i hc
    cases h
    exact⟨by omega,by omega,hc.1,hc.2⟩
   ·split at h
    ·have:=lookup_in T r f _ _ _ h
     omega
    ·have:=lookup_in T r f _ _ _ h
     omega
  ·cases h
theorem toLowerU_high (r:Int) (h:127<r):128≤toLowerU r∨toLowerU r=105∨toLowerU r=107:=by
 unfold toLowerU
 rw[if_neg (by omega)]
 unfold toR
 split
 ·rename_i x hx
  unfold lookupGo at hx
  cases hi:lookupIdx caseA r (caseA.size+1) 0 caseA.size with
  | none=>rw[hi]at hx;cases hx
  | some i=>
   rw[hi]at hx
   simp only[Option.map_some,Option.some.injEq]at hx
   obtain⟨_,h2,h3,h4⟩:=lookup_in _ _ _ _ _ _ hi
   rw[hx]at h3 h4
   have hm:x∈caseT:=by
    rw[←hx]
    unfold caseA at h2 ⊢
    simp only[List.size_toArray]at h2
    rw[Array.getD_eq_getD_getElem?]
    simp[h2]
   have hr:=List.all_eq_true.1 rowLow_all x hm
   unfold rowLow at hr
   unfold convertR
   simp only[Bool.or_eq_true,Bool.and_eq_true,decide_eq_true_eq]at hr
   split
   ·omega
   ·omega
 ·omega
theorem decodeN_high (n b0 b1 b2 b3:Nat) (h:128≤b0):128≤(decodeN n b0 b1 b2 b3).1:=by
 rcases decodeN_shape n b0 b1 b2 b3 with ⟨a,e⟩ | ⟨_,_,_,a,e⟩ | ⟨_,_,_,_,a,_,e⟩ | ⟨_,_,_,_,_,a,_,e⟩ | e
 ·omega
 ·rw[e];exact a
 ·rw[e];simp only;omega
 ·rw[e];simp only;omega
 ·rw[e];decide
theorem encode_high {r:Int} (h:128≤r):∃b t,encodeRune r=b::t∧128≤b.toNat:=by
 have key:∀x:Int,128≤x→x<256→128≤(x.toNat.toUInt8).toNat:=fun x h1 h2=>by
  simp only[Nat.toUInt8,UInt8.toNat_ofNat']
  omega
 unfold encodeRune
 have hb:=encodeRuneZ_byte r
 revert hb
 unfold encodeRuneZ
 rw[if_neg (by omega)]
 split
 ·intro hb;exact⟨_,_,rfl,key _ (by omega) (hb _ (by simp)).2⟩
 split
 ·intro hb;exact⟨_,_,rfl,key _ (by omega) (hb _ (by simp)).2⟩
 split
 ·intro hb;exact⟨_,_,rfl,key _ (by omega) (hb _ (by simp)).2⟩
 ·intro hb;exact⟨_,_,rfl,by decide⟩
set_option maxRecDepth 100000 in
theorem lowB_lowerB (b:UInt8):lowerB b=lowB b:=by
 have:∀n:Fin 256,lowerB (UInt8.ofNat n.val)=lowB (UInt8.ofNat n.val):=by decide
 simpa using this ⟨b.toNat,b.toNat_lt⟩
set_option maxRecDepth 100000 in
theorem lowB_low (b:UInt8) (h:lowB b=120∨lowB b=109∨lowB b=108):b.toNat<128:=by
 have:∀n:Fin 256,lowB (UInt8.ofNat n.val)=120∨lowB (UInt8.ofNat n.val)=109∨lowB (UInt8.ofNat n.val)=108→(UInt8.ofNat n.val).toNat<128:=by decide
 simpa using this ⟨b.toNat,b.toNat_lt⟩ (by simpa using h)
theorem low_head {l rest:List UInt8} {c:UInt8} (hc:c=120∨c=109∨c=108) (h:toLowerD l=c::rest):∃b l',l=b::l'∧lowB b=c∧toLowerD l'=rest:=by
 cases l with
 | nil=>cases h
 | cons b l=>
  unfold toLowerD at h
  rw[mapD_step toLowerU (b::l) (by simp)]at h
  by_cases hb:b.toNat<128
  ·rw[decodeL_ascii b l hb]at h
   dsimp only at h
   rw[if_pos (toLowerU_range b.toNat (by omega)).1,lower_byte ⟨b.toNat,hb⟩,List.drop_succ_cons,List.drop_zero]at h
   simp only[UInt8.ofNat_toNat,List.singleton_append,List.cons.injEq]at h
   exact⟨b,l,rfl,(lowB_lowerB b).symm.trans h.1,h.2⟩
  ·exfalso
   have hN:=decodeL_N (b::l)
   simp only[List.getD_cons_zero]at hN
   have hd:128≤(decodeL (b::l)).1:=by
    rw[hN]
    exact decodeN_high _ _ _ _ _ (by omega)
   rcases toLowerU_high ((decodeL (b::l)).1:Int) (by omega)with g | g | g
   ·obtain⟨d,t,e1,e2⟩:=encode_high g
    rw[if_pos (by omega),e1]at h
    simp only[List.cons_append,List.cons.injEq]at h
    rw[h.1]at e2
    rcases hc with rfl | rfl | rfl<;>revert e2<;>decide
   ·rw[g,if_pos (by decide),show encodeRune 105=[105]from by decide]at h
    simp only[List.cons_append,List.cons.injEq]at h
    rcases hc with rfl | rfl | rfl<;>exact absurd h.1 (by decide)
   ·rw[g,if_pos (by decide),show encodeRune 107=[107]from by decide]at h
    simp only[List.cons_append,List.cons.injEq]at h
    rcases hc with rfl | rfl | rfl<;>exact absurd h.1 (by decide)
theorem low_nil {l:List UInt8} (h:toLowerD l=[]):l=[]:=by
 cases l with
 | nil=>rfl
 | cons b l=>
  exfalso
  unfold toLowerD at h
  rw[mapD_step toLowerU (b::l) (by simp)]at h
  have h0:=(toLowerU_range (decodeL (b::l)).1 (by have:=decodeL_rune (b::l);omega)).1
  rw[if_pos h0]at h
  have h1:=(encodeRuneZ_length (toLowerU (decodeL (b::l)).1)).1
  have h2:=List.append_eq_nil_iff.1 h
  have h3:(encodeRune (toLowerU (decodeL (b::l)).1)).length=0:=by rw[h2.1];rfl
  unfold encodeRune at h3
  rw[List.length_map]at h3
  omega
theorem xml_low (n:List UInt8):toLowerD n=[120,109,108]↔lowS n=[120,109,108]:=by
 constructor
 ·intro h
  obtain⟨a,l1,rfl,ha,h1⟩:=low_head (.inl rfl) h
  obtain⟨b,l2,rfl,hb,h2⟩:=low_head (.inr (.inl rfl)) h1
  obtain⟨c,l3,rfl,hc,h3⟩:=low_head (.inr (.inr rfl)) h2
  rw[low_nil h3]
  simp[lowS,ha,hb,hc]
 ·intro h
  rw[toLowerD_ascii n (fun b hb=>lowB_low b ?_)]
  ·unfold toLowerA
   rw[←h]
   exact List.map_congr_left fun c _=>lowB_lowerB c
  ·have:lowB b∈([120,109,108]:List UInt8):=by rw[←h];exact List.mem_map_of_mem hb
   simpa using this
end Go.Ab
namespace Go.Ab
open Go Go.Lib Go.Proofs
theorem contains_findR (s t:List UInt8):Lib.contains s t=decide (0≤findR s 0 t):=by
 unfold Lib.contains findR
 rw[List.drop_zero]
 by_cases h:0≤Lib.index s t
 ·have:¬Lib.index s t<0:=by omega
  simp[h,this]
 ·have:Lib.index s t<0:=by omega
  simp[h,this]
set_option maxHeartbeats 2000000 in
theorem e_has_ok (G:Nat→Option (List AV)) {s t:List UInt8} (hs:s.length≤1000000000) (ht:t.length≤1000000000) (h1:1≤t.length):PureCall Tryz.prog G 140 [.str s,.str t] (.bool (Lib.contains s t)):=by
 intro H
 rw[contains_findR]
 refine ACalls.keep (ACalls.of Tryz.func140 S140_eq R140 N140 rfl rfl ?_)
 simp (maxSteps:=400000) only[wF,storeA,reduceCtorEq,Nat.reduceAdd,Nat.reduceSub,Nat.reduceEqDiff,Nat.reduceLeDiff,Int.reduceToNat,Int.reduceLE,Int.reduceLT,Int.reduceAdd,Int.reduceNeg,Nat.reduceMul,S140,N140,R140,T140]
 refine ATrS.loopK (κ:=Nat) (fun x=>[.str s,.str t,.und,.und,.und,.int .i64 x]++List.replicate 18 .und) (fun _=>H)
  (fun x=>x≤1000000000∧findR s x t=findR s 0 t) (fun x=>s.length-x) ⟨0,⟨by omega,rfl⟩,by simp[Fg],HW.refl H⟩ ?_
 rintro k ⟨hk,hk2⟩
 have e1:IntKind.i64.wrap ((k:Int)+(t.length:Int))=((k+t.length:Nat):Int):=by rw[wrap64]<;>omega
 by_cases hle:k+t.length≤s.length
 ·have d1:decide (((k+t.length:Nat):Int)≤(s.length:Int))=true:=by simp;omega
  have q0:((0:Int)≤(k:Int))=True:=by simp
  have q1:((k:Int)≤((k+t.length:Nat):Int))=True:=by simp;omega
  have q2:(((k+t.length:Nat):Int)≤(s.length:Int))=True:=by simp;omega
  have hp:Lib.hasPrefix (s.drop k) t=((s.take (k+t.length)).drop k==t):=by
   unfold Lib.hasPrefix
   rw[Bool.eq_iff_iff,List.isPrefixOf_iff_prefix,beq_iff_eq,List.prefix_iff_eq_take,List.drop_take,Nat.add_sub_cancel_left]
   exact eq_comm
  cases hh:((s.take (k+t.length)).drop k==t)with
  | true=>
   have hR:decide (0≤findR s 0 t)=true:=by
    rw[←hk2,findR_hit (hp.trans hh) h1]
    simp
   simp (maxSteps:=400000) only[wF,storeA,reduceCtorEq,Nat.reduceAdd,Nat.reduceSub,Nat.reduceEqDiff,Nat.reduceLeDiff,Int.reduceToNat,Int.reduceLE,Int.reduceLT,Int.reduceAdd,Int.reduceNeg,Nat.reduceMul,T140,e1,d1,q0,q1,q2,hh]
   exact⟨by rw[hR],Nat.le_refl _,fun _ _=>by trivial⟩
  | false=>
   have ew:IntKind.i64.wrap ((k:Int)+1)=((k+1:Nat):Int):=by rw[wrap64]<;>omega
   simp (maxSteps:=400000) only[wF,storeA,reduceCtorEq,Nat.reduceAdd,Nat.reduceSub,Nat.reduceEqDiff,Nat.reduceLeDiff,Int.reduceToNat,Int.reduceLE,Int.reduceLT,Int.reduceAdd,Int.reduceNeg,Nat.reduceMul,T140,e1,d1,q0,q1,q2,hh,ew]
   exact⟨k+1,⟨by omega,by rw[←hk2];exact(findR_miss (by omega) (hp.trans hh)).symm⟩,by omega,by simp[Fg],HW.refl _⟩
 ·have d1:decide (((k+t.length:Nat):Int)≤(s.length:Int))=false:=by simp;omega
  have hR:decide (0≤findR s 0 t)=false:=by
   rw[←hk2,findR_short (by omega) h1]
   decide
  simp (maxSteps:=400000) only[wF,storeA,reduceCtorEq,Nat.reduceAdd,Nat.reduceSub,Nat.reduceEqDiff,Nat.reduceLeDiff,Int.reduceToNat,Int.reduceLE,Int.reduceLT,Int.reduceAdd,Int.reduceNeg,Nat.reduceMul,T140,e1,d1]
  exact⟨by rw[hR],Nat.le_refl _,fun _ _=>by trivial⟩
theorem lowB_is (c k:UInt8) (hk:97≤k.toNat∧k.toNat≤122):(lowB c==k)=(((c.toNat:Int)==(k.toNat:Int))||((c.toNat:Int)==(k.toNat:Int)-32)):=by
 have h1:((c.toNat:Int)==(k.toNat:Int))=decide (c.toNat=k.toNat):=by
  by_cases h:c.toNat=k.toNat
  ·simp[h]
  ·rw[decide_eq_false h,beq_eq_false_iff_ne];omega
 have h2:((c.toNat:Int)==(k.toNat:Int)-32)=decide (c.toNat+32=k.toNat):=by
  by_cases h:c.toNat+32=k.toNat
  ·rw[decide_eq_true h,beq_iff_eq];omega
  ·rw[decide_eq_false h,beq_eq_false_iff_ne];omega
 rw[h1,h2]
 unfold lowB
 have hc:=c.toNat_lt
 split
 ·rename_i h
  have e:(c+32).toNat=c.toNat+32:=by
   rw[UInt8.toNat_add]
   have:(32:UInt8).toNat=32:=rfl
   omega
  have:(c+32==k)=decide (c.toNat+32=k.toNat):=by
   by_cases h:c+32=k
   ·rw[←h];simp[e]
   ·rw[beq_false_of_ne h,decide_eq_false]
    intro h3;exact h (UInt8.toNat_inj.1 (by omega))
  rw[this,decide_eq_false (show ¬c.toNat=k.toNat by omega),Bool.false_or]
 ·have:(c==k)=decide (c.toNat=k.toNat):=by
   by_cases h:c=k
   ·subst h;simp
   ·rw[beq_false_of_ne h,decide_eq_false]
    intro h3;exact h (UInt8.toNat_inj.1 h3)
  rw[this,decide_eq_false (show ¬c.toNat+32=k.toNat by omega),Bool.or_false]
set_option maxHeartbeats 4000000 in
theorem e_xml_ok (G:Nat→Option (List AV)) {s:List UInt8} (hs:s.length≤1000000000):PureCall Tryz.prog G 141 [.str s] (.bool (lowS s==[120,109,108])):=by
 intro H
 refine ACalls.keep (ACalls.of Tryz.func141 S141_eq R141 N141 rfl rfl ?_)
 by_cases hl:s.length=3
 case neg=>
  have d0:((s.length:Int)==3)=false:=by rw[beq_eq_false_iff_ne];omega
  have hR:(lowS s==[120,109,108])=false:=by
   rw[beq_eq_false_iff_ne]
   intro h
   have:=congrArg List.length h
   simp[lowS]at this
   exact hl this
  simp (maxSteps:=400000) only[wF,storeA,reduceCtorEq,Nat.reduceAdd,Nat.reduceSub,Nat.reduceEqDiff,Nat.reduceLeDiff,Int.reduceToNat,Int.reduceLE,Int.reduceLT,Int.reduceAdd,Int.reduceNeg,Nat.reduceMul,S141,N141,R141,T141,d0]
  exact⟨by rw[hR],Nat.le_refl _,fun _ _=>by trivial⟩
 match s,hl with
 | [a,b,c],_=>
  have d0:((([a,b,c]:List UInt8).length:Int)==3)=true:=rfl
  have hR:(lowS [a,b,c]==[120,109,108])=((((a.toNat:Int)==120)||((a.toNat:Int)==88))&&((((b.toNat:Int)==109)||((b.toNat:Int)==77))&&(((c.toNat:Int)==108)||((c.toNat:Int)==76)))):=by
   have ha:=lowB_is a 120 (by decide)
   have hb:=lowB_is b 109 (by decide)
   have hc:=lowB_is c 108 (by decide)
   have e1:((120:UInt8).toNat:Int)=120:=rfl
   have e2:((109:UInt8).toNat:Int)=109:=rfl
   have e3:((108:UInt8).toNat:Int)=108:=rfl
   rw[e1]at ha;rw[e2]at hb;rw[e3]at hc
   have hx:(lowS [a,b,c]==[120,109,108])=((lowB a==120)&&((lowB b==109)&&(lowB c==108))):=by
    simp only[lowS,List.map_cons,List.map_nil,List.cons_beq_cons,List.nil_beq_eq,Bool.and_true]
    simp
   rw[hx,ha,hb,hc]
   rfl
  have g0:([a,b,c]:List UInt8)[0]?=some a:=rfl
  have g1:([a,b,c]:List UInt8)[1]?=some b:=rfl
  have g2:([a,b,c]:List UInt8)[2]?=some c:=rfl
  rw[hR]
  generalize h1:((a.toNat:Int)==120)=b1
  generalize h2:((a.toNat:Int)==88)=b2
  generalize h3:((b.toNat:Int)==109)=b3
  generalize h4:((b.toNat:Int)==77)=b4
  generalize h5:((c.toNat:Int)==108)=b5
  generalize h6:((c.toNat:Int)==76)=b6
  clear hR
  generalize hs:([a,b,c]:List UInt8)=s at *
  have hA:(b1=true∨(b1=false∧b2=true))∨(b1=false∧b2=false):=by cases b1<;>cases b2<;>simp
  have hB:(b3=true∨(b3=false∧b4=true))∨(b3=false∧b4=false):=by cases b3<;>cases b4<;>simp
  have hC:(b5=true∨(b5=false∧b6=true))∨(b5=false∧b6=false):=by cases b5<;>cases b6<;>simp
  have n0:((0:Nat):Int)=0:=rfl
  have n1:((1:Nat):Int)=1:=rfl
  have n2:((2:Nat):Int)=2:=rfl
  rcases hA with (rfl | ⟨rfl,rfl⟩) | ⟨rfl,rfl⟩
  case' inr=>
   simp (maxSteps:=400000) only[wF,storeA,reduceCtorEq,Nat.reduceAdd,Nat.reduceSub,Nat.reduceEqDiff,Nat.reduceLeDiff,Int.reduceToNat,Int.reduceLE,Int.reduceLT,Int.reduceAdd,Int.reduceNeg,Nat.reduceMul,S141,N141,R141,T141,d0,g0,h1,h2]
   exact⟨by simp,Nat.le_refl _,fun _ _=>by trivial⟩
  all_goals rcases hB with (rfl | ⟨rfl,rfl⟩) | ⟨rfl,rfl⟩
  all_goals rcases hC with (rfl | ⟨rfl,rfl⟩) | ⟨rfl,rfl⟩
  all_goals
   simp (maxSteps:=400000) only[wF,storeA,reduceCtorEq,Nat.reduceAdd,Nat.reduceSub,Nat.reduceEqDiff,Nat.reduceLeDiff,Int.reduceToNat,Int.reduceLE,Int.reduceLT,Int.reduceAdd,Int.reduceNeg,Nat.reduceMul,S141,N141,R141,T141,d0,g0,g1,g2,h1,h2,h3,h4,h5,h6]
   exact⟨by simp,Nat.le_refl _,fun _ _=>by trivial⟩
end Go.Ab
namespace Go.Ab
open Go Go.Lib Go.Proofs
set_option maxHeartbeats 2000000 in
theorem e_allowed1_ok (G:Nat→Option (List AV)) {name:List UInt8} (hn:name.length≤1000000000):PureCall Tryz.prog G 114 [.int .i64 1,.str name,.str []] (.bool (allowedS 1 name [])):=by
 intro H
 refine ACalls.keep (ACalls.of Tryz.func114 S114_eq R114 N114 rfl rfl ?_)
 have z0:((1:Int)==0)=false:=rfl
 have z1:((1:Int)==1)=true:=rfl
 have ze:(([]:List UInt8)==[])=true:=rfl
 simp (maxSteps:=400000) only[wF,storeA,reduceCtorEq,Nat.reduceAdd,Nat.reduceSub,Nat.reduceEqDiff,Nat.reduceLeDiff,Int.reduceToNat,Int.reduceLE,Int.reduceLT,Int.reduceAdd,Int.reduceNeg,Nat.reduceMul,S114,N114,R114]
 refine AInv.pureK B26 (r_isText_ok G (by simp)) fun H1 h1=>?_
 unfold allowedS
 rw[show isTextS []=true from rfl]
 simp (maxSteps:=400000) only[wF,storeA,reduceCtorEq,Nat.reduceAdd,Nat.reduceSub,Nat.reduceEqDiff,Nat.reduceLeDiff,Int.reduceToNat,Int.reduceLE,Int.reduceLT,Int.reduceAdd,Int.reduceNeg,Nat.reduceMul,Bool.not_true,z0,z1]
 refine AInv.pureK B112 (r_isName_ok G hn) fun H2 h2=>?_
 rw[isNameR_eq]
 cases hN:isNameS name with
 | false=>
  simp (maxSteps:=400000) only[wF,storeA,reduceCtorEq,Nat.reduceAdd,Nat.reduceSub,Nat.reduceEqDiff,Nat.reduceLeDiff,Int.reduceToNat,Int.reduceLE,Int.reduceLT,Int.reduceAdd,Int.reduceNeg,Nat.reduceMul,T114]
  first | exact(h1.trans h2).post | exact⟨by simp,(h1.trans h2).post⟩
 | true=>
  simp (maxSteps:=400000) only[wF,storeA,reduceCtorEq,Nat.reduceAdd,Nat.reduceSub,Nat.reduceEqDiff,Nat.reduceLeDiff,Int.reduceToNat,Int.reduceLE,Int.reduceLT,Int.reduceAdd,Int.reduceNeg,Nat.reduceMul,T114,ze]
  first | exact(h1.trans h2).post | exact⟨by simp,(h1.trans h2).post⟩
set_option maxHeartbeats 2000000 in
theorem e_allowed2_ok (G:Nat→Option (List AV)) {name text:List UInt8} (hn:name.length≤1000000000) (ht:text.length≤1000000000):PureCall Tryz.prog G 114 [.int .i64 2,.str name,.str text] (.bool (allowedS 2 name text)):=by
 intro H
 refine ACalls.keep (ACalls.of Tryz.func114 S114_eq R114 N114 rfl rfl ?_)
 have z0:((2:Int)==0)=false:=rfl
 have z1:((2:Int)==1)=false:=rfl
 have z2:((2:Int)==2)=true:=rfl
 simp (maxSteps:=400000) only[wF,storeA,reduceCtorEq,Nat.reduceAdd,Nat.reduceSub,Nat.reduceEqDiff,Nat.reduceLeDiff,Int.reduceToNat,Int.reduceLE,Int.reduceLT,Int.reduceAdd,Int.reduceNeg,Nat.reduceMul,S114,N114,R114]
 refine AInv.pureK B26 (r_isText_ok G ht) fun H1 h1=>?_
 unfold allowedS
 cases hT:isTextS text with
 | false=>
  simp (maxSteps:=400000) only[wF,storeA,reduceCtorEq,Nat.reduceAdd,Nat.reduceSub,Nat.reduceEqDiff,Nat.reduceLeDiff,Int.reduceToNat,Int.reduceLE,Int.reduceLT,Int.reduceAdd,Int.reduceNeg,Nat.reduceMul,Bool.not_false]
  first | exact h1.post | exact⟨by simp,h1.post⟩
 | true=>
  simp (maxSteps:=400000) only[wF,storeA,reduceCtorEq,Nat.reduceAdd,Nat.reduceSub,Nat.reduceEqDiff,Nat.reduceLeDiff,Int.reduceToNat,Int.reduceLE,Int.reduceLT,Int.reduceAdd,Int.reduceNeg,Nat.reduceMul,Bool.not_true,z0,z1,z2]
  refine AInv.pureK B112 (r_isName_ok G hn) fun H2 h2=>?_
  rw[isNameR_eq]
  simp (maxSteps:=400000) only[wF,storeA,reduceCtorEq,Nat.reduceAdd,Nat.reduceSub,Nat.reduceEqDiff,Nat.reduceLeDiff,Int.reduceToNat,Int.reduceLE,Int.reduceLT,Int.reduceAdd,Int.reduceNeg,Nat.reduceMul,T114]
  first | exact(h1.trans h2).post | exact⟨by simp,(h1.trans h2).post⟩
theorem suffix_last (t:List UInt8) (c:UInt8):Lib.hasSuffix t [c]=(!(t==[])&&(t.getD (t.length-1) 0==c)):=by
 rcases List.eq_nil_or_concat t with rfl | ⟨init,last,rfl⟩
 ·simp[Lib.hasSuffix,List.isSuffixOf,List.isPrefixOf]
 ·rw[List.concat_eq_append]
  have h1:(init++[last]).getD ((init++[last]).length-1) 0=last:=by simp
  have h2:((init++[last])==[])=false:=by simp
  rw[h1,h2]
  simp[Lib.hasSuffix,List.isSuffixOf,List.isPrefixOf]
  exact Bool.beq_comm
set_option maxHeartbeats 4000000 in
theorem e_allowed4_ok (G:Nat→Option (List AV)) {text:List UInt8} (ht:text.length≤1000000000):PureCall Tryz.prog G 114 [.int .i64 4,.str [],.str text] (.bool (allowedS 4 [] text)):=by
 intro H
 refine ACalls.keep (ACalls.of Tryz.func114 S114_eq R114 N114 rfl rfl ?_)
 have z0:((4:Int)==0)=false:=rfl
 have z1:((4:Int)==1)=false:=rfl
 have z2:((4:Int)==2)=false:=rfl
 have z3:((4:Int)==3)=false:=rfl
 have z4:((4:Int)==4)=true:=rfl
 have ze:(([]:List UInt8)==[])=true:=rfl
 simp (maxSteps:=400000) only[wF,storeA,reduceCtorEq,Nat.reduceAdd,Nat.reduceSub,Nat.reduceEqDiff,Nat.reduceLeDiff,Int.reduceToNat,Int.reduceLE,Int.reduceLT,Int.reduceAdd,Int.reduceNeg,Nat.reduceMul,S114,N114,R114]
 refine AInv.pureK B26 (r_isText_ok G ht) fun H1 h1=>?_
 unfold allowedS
 cases hT:isTextS text with
 | false=>
  simp (maxSteps:=400000) only[wF,storeA,reduceCtorEq,Nat.reduceAdd,Nat.reduceSub,Nat.reduceEqDiff,Nat.reduceLeDiff,Int.reduceToNat,Int.reduceLE,Int.reduceLT,Int.reduceAdd,Int.reduceNeg,Nat.reduceMul,Bool.not_false]
  first | exact h1.post | exact⟨by simp,h1.post⟩
 | true=>
  simp (maxSteps:=400000) only[wF,storeA,reduceCtorEq,Nat.reduceAdd,Nat.reduceSub,Nat.reduceEqDiff,Nat.reduceLeDiff,Int.reduceToNat,Int.reduceLE,Int.reduceLT,Int.reduceAdd,Int.reduceNeg,Nat.reduceMul,Bool.not_true,z0,z1,z2,z3,z4,ze]
  refine AInv.pureK B140 (e_has_ok G ht (by simp) (by simp)) fun H2 h2=>?_
  rw[show([45,45]:List UInt8)=sDash from rfl,suffix_last]
  cases hC:Lib.contains text sDash with
  | true=>
   simp (maxSteps:=400000) only[wF,storeA,reduceCtorEq,Nat.reduceAdd,Nat.reduceSub,Nat.reduceEqDiff,Nat.reduceLeDiff,Int.reduceToNat,Int.reduceLE,Int.reduceLT,Int.reduceAdd,Int.reduceNeg,Nat.reduceMul,T114,Bool.not_true]
   first | exact(h1.trans h2).post | exact⟨by simp,(h1.trans h2).post⟩
  | false=>
   by_cases hl:text=[]
   ·subst hl
    have d0:(((0:Nat):Int)==0)=true:=rfl
    simp (maxSteps:=400000) only[wF,storeA,reduceCtorEq,Nat.reduceAdd,Nat.reduceSub,Nat.reduceEqDiff,Nat.reduceLeDiff,Int.reduceToNat,Int.reduceLE,Int.reduceLT,Int.reduceAdd,Int.reduceNeg,Nat.reduceMul,T114,Bool.not_false,List.length_nil,d0]
    first | exact(h1.trans h2).post | exact⟨by simp,(h1.trans h2).post⟩
   ·have hl0:0<text.length:=List.length_pos_iff.2 hl
    have d0:((text.length:Int)==0)=false:=by rw[beq_eq_false_iff_ne];omega
    have ew:IntKind.i64.wrap ((text.length:Int)-1)=((text.length-1:Nat):Int):=by rw[wrap64]<;>omega
    have hg:text[text.length-1]?=some (text.getD (text.length-1) 0):=by rw[List.getD_eq_getElem?_getD,List.getElem?_eq_getElem (by omega)];rfl
    have hle:(text==[])=false:=by simpa using hl
    have hb:((text.getD (text.length-1) 0)==45)=(((text.getD (text.length-1) 0).toNat:Int)==45):=by
     generalize text.getD (text.length-1) 0=c
     rw[Bool.eq_iff_iff,beq_iff_eq,beq_iff_eq]
     constructor
     ·rintro rfl;rfl
     ·intro h;exact UInt8.toNat_inj.1 (by simpa using Int.ofNat_inj.1 h)
    rw[hle,hb]
    cases hx:(((text.getD (text.length-1) 0).toNat:Int)==45)with
    | true=>
     simp (maxSteps:=400000) only[wF,storeA,reduceCtorEq,Nat.reduceAdd,Nat.reduceSub,Nat.reduceEqDiff,Nat.reduceLeDiff,Int.reduceToNat,Int.reduceLE,Int.reduceLT,Int.reduceAdd,Int.reduceNeg,Nat.reduceMul,T114,Bool.not_false,Bool.not_true,d0,ew,hg,Int.toNat_natCast,bne,hx]
     first | exact(h1.trans h2).post | exact⟨by simp,(h1.trans h2).post⟩
    | false=>
     simp (maxSteps:=400000) only[wF,storeA,reduceCtorEq,Nat.reduceAdd,Nat.reduceSub,Nat.reduceEqDiff,Nat.reduceLeDiff,Int.reduceToNat,Int.reduceLE,Int.reduceLT,Int.reduceAdd,Int.reduceNeg,Nat.reduceMul,T114,Bool.not_false,d0,ew,hg,Int.toNat_natCast,bne,hx]
     first | exact(h1.trans h2).post | exact⟨by simp,(h1.trans h2).post⟩
set_option maxRecDepth 100000 in
set_option maxHeartbeats 2000000 in
theorem firstAny (t:List UInt8):Lib.containsAny (t.take (min 1 t.length)) [32,9,13,10]=(!(t==[])&&spaceR (t.getD 0 0)):=by
 cases t with
 | nil=>rfl
 | cons c t=>
  have h1:(c::t).take (min 1 (c::t).length)=[c]:=by
   rw[show min 1 (c::t).length=1 by simp]
   rfl
  rw[h1]
  have h2:((c::t)==[])=false:=rfl
  rw[h2,List.getD_cons_zero,Bool.not_false,Bool.true_and]
  have key:∀n:Fin 256,Lib.containsAny [UInt8.ofNat n.val] [32,9,13,10]=spaceR (UInt8.ofNat n.val):=by decide
  simpa using key ⟨c.toNat,c.toNat_lt⟩
set_option maxHeartbeats 8000000 in
theorem e_allowed5_ok (G:Nat→Option (List AV)) {name text:List UInt8} (hn:name.length≤1000000000) (ht:text.length≤1000000000):PureCall Tryz.prog G 114 [.int .i64 5,.str name,.str text] (.bool (allowedS 5 name text)):=by
 intro H
 refine ACalls.keep (ACalls.of Tryz.func114 S114_eq R114 N114 rfl rfl ?_)
 have z0:((5:Int)==0)=false:=rfl
 have z1:((5:Int)==1)=false:=rfl
 have z2:((5:Int)==2)=false:=rfl
 have z3:((5:Int)==3)=false:=rfl
 have z4:((5:Int)==4)=false:=rfl
 have z5:((5:Int)==5)=true:=rfl
 simp (maxSteps:=400000) only[wF,storeA,reduceCtorEq,Nat.reduceAdd,Nat.reduceSub,Nat.reduceEqDiff,Nat.reduceLeDiff,Int.reduceToNat,Int.reduceLE,Int.reduceLT,Int.reduceAdd,Int.reduceNeg,Nat.reduceMul,S114,N114,R114]
 refine AInv.pureK B26 (r_isText_ok G ht) fun H1 h1=>?_
 have hX:(Lib.toLowerD name != [120,109,108]) = !(lowS name==[120,109,108]):=by
  have:=xml_low name
  by_cases h:lowS name=[120,109,108]
  ·simp[bne,h,this.2 h]
  ·rw[bne,beq_false_of_ne h,beq_false_of_ne (mt this.1 h)]
 unfold allowedS
 simp only
 rw[hX,firstAny]
 clear hX
 cases hT:isTextS text with
 | false=>
  simp (maxSteps:=400000) only[wF,storeA,reduceCtorEq,Nat.reduceAdd,Nat.reduceSub,Nat.reduceEqDiff,Nat.reduceLeDiff,Int.reduceToNat,Int.reduceLE,Int.reduceLT,Int.reduceAdd,Int.reduceNeg,Nat.reduceMul,Bool.not_false]
  first | exact h1.post | exact⟨by simp,h1.post⟩
 | true=>
  simp (maxSteps:=400000) only[wF,storeA,reduceCtorEq,Nat.reduceAdd,Nat.reduceSub,Nat.reduceEqDiff,Nat.reduceLeDiff,Int.reduceToNat,Int.reduceLE,Int.reduceLT,Int.reduceAdd,Int.reduceNeg,Nat.reduceMul,Bool.not_true,z0,z1,z2,z3,z4,z5]
  refine AInv.pureK B112 (r_isName_ok G hn) fun H2 h2=>?_
  rw[isNameR_eq]
  cases hN:isNameS name with
  | false=>
   simp (maxSteps:=400000) only[wF,storeA,reduceCtorEq,Nat.reduceAdd,Nat.reduceSub,Nat.reduceEqDiff,Nat.reduceLeDiff,Int.reduceToNat,Int.reduceLE,Int.reduceLT,Int.reduceAdd,Int.reduceNeg,Nat.reduceMul,T114]
   first | exact(h1.trans h2).post | exact⟨by simp,(h1.trans h2).post⟩
  | true=>
   simp (maxSteps:=400000) only[wF,storeA,reduceCtorEq,Nat.reduceAdd,Nat.reduceSub,Nat.reduceEqDiff,Nat.reduceLeDiff,Int.reduceToNat,Int.reduceLE,Int.reduceLT,Int.reduceAdd,Int.reduceNeg,Nat.reduceMul,T114]
   refine AInv.pureK B141 (e_xml_ok G hn) fun H3 h3=>?_
   cases hL:(lowS name==[120,109,108])with
   | true=>
    simp (maxSteps:=400000) only[wF,storeA,reduceCtorEq,Nat.reduceAdd,Nat.reduceSub,Nat.reduceEqDiff,Nat.reduceLeDiff,Int.reduceToNat,Int.reduceLE,Int.reduceLT,Int.reduceAdd,Int.reduceNeg,Nat.reduceMul,T114,Bool.not_true]
    first | exact((h1.trans h2).trans h3).post | exact⟨by simp,((h1.trans h2).trans h3).post⟩
   | false=>
    simp (maxSteps:=400000) only[wF,storeA,reduceCtorEq,Nat.reduceAdd,Nat.reduceSub,Nat.reduceEqDiff,Nat.reduceLeDiff,Int.reduceToNat,Int.reduceLE,Int.reduceLT,Int.reduceAdd,Int.reduceNeg,Nat.reduceMul,T114,Bool.not_false]
    refine AInv.pureK B140 (e_has_ok G ht (by simp) (by simp)) fun H4 h4=>?_
    have h14:=((h1.trans h2).trans h3).trans h4
    cases hC:Lib.contains text [63,62]with
    | true=>
     simp (maxSteps:=400000) only[wF,storeA,reduceCtorEq,Nat.reduceAdd,Nat.reduceSub,Nat.reduceEqDiff,Nat.reduceLeDiff,Int.reduceToNat,Int.reduceLE,Int.reduceLT,Int.reduceAdd,Int.reduceNeg,Nat.reduceMul,T114,Bool.not_true]
     first | exact h14.post | exact⟨by simp,h14.post⟩
    | false=>
     cases text with
     | nil=>
      have d0:(((0:Nat):Int)==0)=true:=rfl
      simp (maxSteps:=400000) only[wF,storeA,reduceCtorEq,Nat.reduceAdd,Nat.reduceSub,Nat.reduceEqDiff,Nat.reduceLeDiff,Int.reduceToNat,Int.reduceLE,Int.reduceLT,Int.reduceAdd,Int.reduceNeg,Nat.reduceMul,T114,Bool.not_false,List.length_nil,d0]
      first | exact h14.post | exact⟨by simp,h14.post⟩
     | cons c t=>
      have d0:(((c::t).length:Int)==0)=false:=by rw[beq_eq_false_iff_ne];simp;omega
      have hg:(c::t)[0]?=some c:=rfl
      have hle:((c::t)==[])=false:=rfl
      rw[hle,List.getD_cons_zero,spaceR_int]
      generalize hz:(c::t)=z at *
      generalize g1:((c.toNat:Int)==9)=b1
      generalize g2:((c.toNat:Int)==10)=b2
      generalize g3:((c.toNat:Int)==13)=b3
      generalize g4:((c.toNat:Int)==32)=b4
      have hB:b4=true∨(b4=false∧(b1=true∨(b1=false∧(b2=true∨(b2=false∧(b3=true∨b3=false)))))):=by cases b4<;>cases b1<;>cases b2<;>cases b3<;>simp
      rcases hB with rfl | ⟨rfl,rfl | ⟨rfl,rfl | ⟨rfl,rfl | rfl⟩⟩⟩
      all_goals
       simp (maxSteps:=400000) only[wF,storeA,reduceCtorEq,Nat.reduceAdd,Nat.reduceSub,Nat.reduceEqDiff,Nat.reduceLeDiff,Int.reduceToNat,Int.reduceLE,Int.reduceLT,Int.reduceAdd,Int.reduceNeg,Nat.reduceMul,T114,Bool.not_false,Bool.not_true,d0,hg,bne,g1,g2,g3,g4]
       first | exact h14.post | exact⟨by simp,h14.post⟩
end Go.Ab
