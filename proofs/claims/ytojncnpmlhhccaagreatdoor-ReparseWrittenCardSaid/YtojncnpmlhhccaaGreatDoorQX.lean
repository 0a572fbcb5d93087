/- Which names are xml in small letters: strings.ToLower and the reference agree. -/
import Derived.Test.YtojncnpmlhhccaaGreatDoorHA
import Derived.Shelf.Strings.CaseAny
set_option linter.all false
namespace Go.Ab
open Go Go.Lib
def rowLow (x:CaseRow):Bool:=decide (x.2.1≤127)||(decide (127<x.1)&&(decide (1114111<x.delta 1)||decide (128≤(x.1:Int)+x.delta 1)||(decide (x.1=x.2.1)&&(decide ((x.1:Int)+x.delta 1=105)||decide ((x.1:Int)+x.delta 1=107)))))
theorem rowLow_all:caseT.all rowLow=true:=by kernel_rfl
theorem lookup_in (T:Array CaseRow) (r:Int):∀(f lo hi i:Nat),lookupIdx T r f lo hi=some i→lo≤i∧i<hi∧((T.getD i (0,0,0,0,0)).1:Int)≤r∧r≤((T.getD i (0,0,0,0,0)).2.1:Int)
 | 0,_,_,_,h=>by cases h
 | f+1,lo,hi,i,h=>by
  rw[lookupIdx]at h
  split at h
  ·rename_i hlt
   split at h
   ·rename_i hc
    cases h
    exact⟨by omega,by omega,hc.1,hc.2⟩
   ·split at h
    ·have:=lookup_in T r f _ _ _ h
     omega
    ·have:=lookup_in T r f _ _ _ h
     omega
  ·cases h
theorem toLowerU_high (r:Int) (h:127<r):128≤toLowerU r∨toLowerU r=105∨toLowerU r=107:=by
 unfold toLowerU
 rw[if_neg (by omega)]
 unfold toR
 split
 ·rename_i x hx
  unfold lookupGo at hx
  cases hi:lookupIdx caseA r (caseA.size+1) 0 caseA.size with
  | none=>rw[hi]at hx;cases hx
  | some i=>
   rw[hi]at hx
   simp only[Option.map_some,Option.some.injEq]at hx
   obtain⟨_,h2,h3,h4⟩:=lookup_in _ _ _ _ _ _ hi
   rw[hx]at h3 h4
   have hm:x∈caseT:=by
    rw[←hx]
    unfold caseA at h2 ⊢
    simp only[List.size_toArray]at h2
    rw[Array.getD_eq_getD_getElem?]
    simp[h2]
   have hr:=List.all_eq_true.1 rowLow_all x hm
   unfold rowLow at hr
   unfold convertR
   simp only[Bool.or_eq_true,Bool.and_eq_true,decide_eq_true_eq]at hr
   split
   ·omega
   ·omega
 ·omega
theorem decodeN_high (n b0 b1 b2 b3:Nat) (h:128≤b0):128≤(decodeN n b0 b1 b2 b3).1:=by
 rcases decodeN_shape n b0 b1 b2 b3 with ⟨a,e⟩ | ⟨_,_,_,a,e⟩ | ⟨_,_,_,_,a,_,e⟩ | ⟨_,_,_,_,_,a,_,e⟩ | e
 ·omega
 ·rw[e];exact a
 ·rw[e];simp only;omega
 ·rw[e];simp only;omega
 ·rw[e];decide
theorem encode_high {r:Int} (h:128≤r):∃b t,encodeRune r=b::t∧128≤b.toNat:=by
 have key:∀x:Int,128≤x→x<256→128≤(x.toNat.toUInt8).toNat:=fun x h1 h2=>by
  simp only[Nat.toUInt8,UInt8.toNat_ofNat']
  omega
 unfold encodeRune
 have hb:=encodeRuneZ_byte r
 revert hb
 unfold encodeRuneZ
 rw[if_neg (by omega)]
 split
 ·intro hb;exact⟨_,_,rfl,key _ (by omega) (hb _ (by simp)).2⟩
 split
 ·intro hb;exact⟨_,_,rfl,key _ (by omega) (hb _ (by simp)).2⟩
 split
 ·intro hb;exact⟨_,_,rfl,key _ (by omega) (hb _ (by simp)).2⟩
 ·intro hb;exact⟨_,_,rfl,by decide⟩
set_option maxRecDepth 100000 in
theorem lowB_lowerB (b:UInt8):lowerB b=lowB b:=by
 have:∀n:Fin 256,lowerB (UInt8.ofNat n.val)=lowB (UInt8.ofNat n.val):=by decide
 simpa using this ⟨b.toNat,b.toNat_lt⟩
set_option maxRecDepth 100000 in
theorem lowB_low (b:UInt8) (h:lowB b=120∨lowB b=109∨lowB b=108):b.toNat<128:=by
 have:∀n:Fin 256,lowB (UInt8.ofNat n.val)=120∨lowB (UInt8.ofNat n.val)=109∨lowB (UInt8.ofNat n.val)=108→(UInt8.ofNat n.val).toNat<128:=by decide
 simpa using this ⟨b.toNat,b.toNat_lt⟩ (by simpa using h)
theorem low_head {l rest:List UInt8} {c:UInt8} (hc:c=120∨c=109∨c=108) (h:toLowerD l=c::rest):∃b l',l=b::l'∧lowB b=c∧toLowerD l'=rest:=by
 cases l with
 | nil=>cases h
 | cons b l=>
  unfold toLowerD at h
  rw[mapD_step toLowerU (b::l) (by simp)]at h
  by_cases hb:b.toNat<128
  ·rw[decodeL_ascii b l hb]at h
   dsimp only at h
   rw[if_pos (toLowerU_range b.toNat (by omega)).1,lower_byte ⟨b.toNat,hb⟩,List.drop_succ_cons,List.drop_zero]at h
   simp only[UInt8.ofNat_toNat,List.singleton_append,List.cons.injEq]at h
   exact⟨b,l,rfl,(lowB_lowerB b).symm.trans h.1,h.2⟩
  ·exfalso
   have hN:=decodeL_N (b::l)
   simp only[List.getD_cons_zero]at hN
   have hd:128≤(decodeL (b::l)).1:=by
    rw[hN]
    exact decodeN_high _ _ _ _ _ (by omega)
   rcases toLowerU_high ((decodeL (b::l)).1:Int) (by omega)with g | g | g
   ·obtain⟨d,t,e1,e2⟩:=encode_high g
    rw[if_pos (by omega),e1]at h
    simp only[List.cons_append,List.cons.injEq]at h
    rw[h.1]at e2
    rcases hc with rfl | rfl | rfl<;>revert e2<;>decide
   ·rw[g,if_pos (by decide),show encodeRune 105=[105]from by decide]at h
    simp only[List.cons_append,List.cons.injEq]at h
    rcases hc with rfl | rfl | rfl<;>exact absurd h.1 (by decide)
   ·rw[g,if_pos (by decide),show encodeRune 107=[107]from by decide]at h
    simp only[List.cons_append,List.cons.injEq]at h
    rcases hc with rfl | rfl | rfl<;>exact absurd h.1 (by decide)
theorem low_nil {l:List UInt8} (h:toLowerD l=[]):l=[]:=by
 cases l with
 | nil=>rfl
 | cons b l=>
  exfalso
  unfold toLowerD at h
  rw[mapD_step toLowerU (b::l) (by simp)]at h
  have h0:=(toLowerU_range (decodeL (b::l)).1 (by have:=decodeL_rune (b::l);omega)).1
  rw[if_pos h0]at h
  have h1:=(encodeRuneZ_length (toLowerU (decodeL (b::l)).1)).1
  have h2:=List.append_eq_nil_iff.1 h
  have h3:(encodeRune (toLowerU (decodeL (b::l)).1)).length=0:=by rw[h2.1];rfl
  unfold encodeRune at h3
  rw[List.length_map]at h3
  omega
theorem xml_low (n:List UInt8):toLowerD n=[120,109,108]↔lowS n=[120,109,108]:=by
 constructor
 ·intro h
  obtain⟨a,l1,rfl,ha,h1⟩:=low_head (.inl rfl) h
  obtain⟨b,l2,rfl,hb,h2⟩:=low_head (.inr (.inl rfl)) h1
  obtain⟨c,l3,rfl,hc,h3⟩:=low_head (.inr (.inr rfl)) h2
  rw[low_nil h3]
  simp[lowS,ha,hb,hc]
 ·intro h
  rw[toLowerD_ascii n (fun b hb=>lowB_low b ?_)]
  ·unfold toLowerA
   rw[←h]
   exact List.map_congr_left fun c _=>lowB_lowerB c
  ·have:lowB b∈([120,109,108]:List UInt8):=by rw[←h];exact List.mem_map_of_mem hb
   simpa using this
end Go.Ab
