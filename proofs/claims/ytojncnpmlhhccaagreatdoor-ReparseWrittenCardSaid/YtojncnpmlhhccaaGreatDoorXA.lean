/- strings.Builder's copyCheck, walked. What the builders' walks ask, paid. What the walks ask of the library, paid by its contracts. strconv's ParseUint, walked. -/
import Derived.Lib.Builder
import Derived.Lib.MakeNoZero
import Derived.WalkKit
import Derived.Laws.Externs
import Derived.Test.YtojncnpmlhhccaaGreatDoorWC
import Derived.Test.YtojncnpmlhhccaaGreatDoorShelf
import Derived.WalkSmall
set_option linter.all false
namespace Go.Proofs
open Go Go.RowKit
set_option maxHeartbeats 1000000 in
set_option maxRecDepth 100000 in
theorem Tryz.copyCheck_used (b:Nat) (w:World) (h0:w.cell? ⟨b,0,none⟩=some (.pointer (some ⟨b,0,none⟩))) :
  Calls Tryz.prog 75 #[.pointer (some ⟨b,0,none⟩)] w fun e w'=>e = .returned (.tuple #[])∧w'=w:=by
 have u88:Tryz.prog.underlying 66=some (.pointer 69):=by kernel_rfl
 obtain⟨j,hj,hjs⟩:=Option.map_eq_some_iff.1 (show(Tryz.prog.info? 69).map (·.size)=some 2 by kernel_rfl)
 go_enter Tryz.func75,Tryz.ntmps75
 go_wp2
 rw[Lib.run_neq_ptr_same w _ u88 hj]
 go_wp2
 go_end0
 exact⟨rfl,rfl⟩
set_option maxHeartbeats 1000000 in
set_option maxRecDepth 100000 in
theorem Tryz.copyCheck_fresh (b:Nat) (w:World) (h0:w.cell? ⟨b,0,none⟩=some (.pointer none)) (hsh:w.shape? b=some (69,2)) (hfz:w.frozen? ⟨b,0,none⟩=false) :
  Calls Tryz.prog 75 #[.pointer (some ⟨b,0,none⟩)] w fun e w'=>e = .returned (.tuple #[])∧w'=w.setCell ⟨b,0,none⟩ (.pointer (some ⟨b,0,none⟩)):=by
 have u88:Tryz.prog.underlying 66=some (.pointer 69):=by kernel_rfl
 have u142:Tryz.prog.underlying 166=some .unsafePointer:=by kernel_rfl
 obtain⟨j,hj,hjs⟩:=Option.map_eq_some_iff.1 (show(Tryz.prog.info? 69).map (·.size)=some 2 by kernel_rfl)
 go_enter Tryz.func75,Tryz.ntmps75
 go_wp2
 rw[Lib.run_to_unsafe w ⟨b,0,none⟩ u88 u142 hj (by rw[hjs];decide) hsh (Nat.zero_lt_succ 1)]
 simp only[Result.andThen]
 rw[Oper.upon_value]
 go_wp2
 rw[run_callFunc_extern Tryz.func116 (by kernel_rfl) (by kernel_rfl) (by kernel_rfl) (e:=Extern.AbiNoEscape.same) (by kernel_rfl)]
 rw[Lib.run_noEscape]
 simp only[Result.andThen]
 rw[Oper.upon_value]
 go_wp2
 rw[Lib.run_from_unsafe w ⟨b,0,none⟩ u142 u88 hj hsh (by kernel_rfl)]
 simp only[Result.andThen]
 rw[Oper.upon_value]
 go_wp2
 go_end0
 exact⟨rfl,rfl⟩
end Go.Proofs
namespace Go.Ab
open Go Go.Lib Go.Proofs
theorem copyCheck_ab {G:Nat→Option (List AV)} (H:AHeap) (k:Nat) (b0 b1:AV) (hk:H.get k=some (.cells 69 [b0,b1])) (hb:b0 = .nilp∨b0 = .ptr k 0) :
  ACalls Tryz.prog G 75 [.ptr k 0] H fun r H'=>r = .ret (.tup [])∧H'=H.set k (.cells 69 [.ptr k 0,b1]):=by
 intro C w args R hH hv
 subst hH
 obtain⟨c,cap,hm,rfl⟩:=one_ptr hv hk (by simp)
 obtain⟨c',cap',arr,lo,hi,h1,⟨e',h2,h5⟩,h3,h4⟩:=(R.pres k _ hk).2.2
 rw[hm]at h1;cases h1
 obtain⟨rfl,hsz,_,_⟩:=h5 (by decide)
 have hsz:arr.size=2:=hsz
 obtain⟨y0,hy0,hv0⟩:=h3 0 b0 rfl
 have hc0:w.cell? ⟨c,0,none⟩=some y0:=by simp only[World.cell?,h2];simpa using hy0
 rcases hb with rfl | rfl
 ·cases hv0
  have hsh:w.shape? c=some (69,2):=by simp only[World.shape?,h2,hsz];rfl
  refine(Tryz.copyCheck_fresh c w hc0 hsh (frozen_none h2 h4 (by omega))).mono ?_
  rintro e w' ⟨rfl,rfl⟩
  have hptr:VR C (.ptr k 0) (.pointer (some ⟨c,0,none⟩)) := .ptr k 0 _ ⟨(R.pres k _ hk).1,rfl,by rw[hk];exact⟨c,cap,hm,rfl⟩⟩
  obtain⟨_,R',A'⟩:=store_one (P:=Tryz.prog) R (off:=0) (cs:=[.nilp,b1]) (.cells 69) (.inl ⟨_,rfl⟩) hk rfl hm (by simp) hptr rfl
  exact⟨.ret (.tup []),_,⟨rfl,rfl⟩,.tup [] _ rfl (fun i x y hx=>by simp at hx),R',A'⟩
 ·refine(Tryz.copyCheck_used c w ?_).mono ?_
  ·rw[hc0]
   cases hv0 with
   | ptr _ _ a ha=>
    obtain⟨_,_,ha⟩:=ha
    rw[hk]at ha
    obtain⟨c2,cap2,h1,h2⟩:=ha
    rw[hm]at h1;cases h1
    rw[h2]
  ·rintro e w' ⟨rfl,rfl⟩
   exact⟨.ret (.tup []),C,⟨rfl,(AHeap.set_same hk).symm⟩,.tup [] _ rfl (fun i x y hx=>by simp at hx),R,Adv.refl C _⟩
theorem string_ab {G:Nat→Option (List AV)} (H:AHeap) (k j:Nat) (l:List UInt8) (h:BldAt H k j l):ACalls Tryz.prog G 39 [.ptr k 0] H fun r H'=>r = .ret (.str l)∧H'.next=H.next∧H'.get=(H.del j).get:=by
 obtain⟨b0,_,hk,hj⟩:=h
 exact Bld.string Tryz.lays169 Tryz.Builder_Extra_169 (show(69:Nat)≠0 by decide) hk hj
theorem envB (G:Nat→Option (List AV)):EnvB G:={
 copyCheck:=copyCheck_ab
 copyCheckB:=by kernel_rfl
 string:=string_ab
 stringB:=by kernel_rfl }
end Go.Ab
namespace Go.Ab
open Go Go.Lib Go.Proofs Go.RowKit
structure Glob (G:Nat→Option (List AV)):Prop where
 maxlen:∀(C:Ctx) (w:World),Rel G C w→∃m,w.cell? ⟨1,0,none⟩=some (.int .i64 m)
 tabs:∀(C:Ctx) (w:World),Rel G C w→Lib.Utf8Tabs 4 5 w
 errs:∀(C:Ctx) (w:World),Rel G C w→∃v,w.cell? ⟨6,0,none⟩=some v∧(v = .nilIface∨∃te pe,v = .iface te pe)
 errr:∀(C:Ctx) (w:World),Rel G C w→∃v,w.cell? ⟨7,0,none⟩=some v∧(v = .nilIface∨∃te pe,v = .iface te pe)
theorem size_of (l:List UInt8):(⟨l.toArray⟩:ByteArray).size=l.length:=size_mk l
theorem hasPre_ab (G:Nat→Option (List AV)) (s p:List UInt8):PureCall Tryz.prog G 13 [.str s,.str p] (.bool (Lib.hasPrefix s p)):=
 PureCall.shelf (vs:=[.string ⟨s.toArray⟩,.string ⟨p.toArray⟩]) rfl (fun C => .bool _) fun C w R=>(Tryz.strings_HasPrefix ⟨s.toArray⟩ ⟨p.toArray⟩ w).mono fun e w' ⟨h1,h2⟩=>⟨by simpa using h1,h2▸Below.refl _ _⟩
theorem indexByte_ab (G:Nat→Option (List AV)) (s:List UInt8) (c:UInt8):PureCall Tryz.prog G 99 [.str s,.int .u8 c.toNat] (.int .i64 (Lib.indexByte s c)):=
 PureCall.shelf (vs:=[.string ⟨s.toArray⟩,.int .u8 c.toNat]) rfl (fun C => .int _ _) fun C w R=>(Tryz.strings_IndexByte ⟨s.toArray⟩ c.toNat w).mono fun e w' ⟨h1,h2⟩=>⟨by simpa using h1,h2▸Below.refl _ _⟩
theorem cutPre_ab (G:Nat→Option (List AV)) (s p:List UInt8):PureCall Tryz.prog G 97 [.str s,.str p] (.tup [.str (Lib.trimPrefix s p),.bool (Lib.hasPrefix s p)]):=
 PureCall.shelf (vs:=[.string ⟨s.toArray⟩,.string ⟨p.toArray⟩]) rfl (fun C=>VR.flats rfl C) fun C w R=>(Tryz.strings_CutPrefix ⟨s.toArray⟩ ⟨p.toArray⟩ w).mono fun e w' ⟨h1,h2⟩=>⟨by simpa using h1,h2▸Below.refl _ _⟩
theorem index_ab {G:Nat→Option (List AV)} (g:Glob G) (s p:List UInt8) (hs:s.length≤1000000000):PureCall Tryz.prog G 93 [.str s,.str p] (.int .i64 (Lib.index s p)):=
 PureCall.shelf (vs:=[.string ⟨s.toArray⟩,.string ⟨p.toArray⟩]) rfl (fun C => .int _ _) fun C w R=>by
  obtain⟨m,hm⟩:=g.maxlen C w R
  exact(Tryz.strings_Index ⟨s.toArray⟩ ⟨p.toArray⟩ m w (by rw[size_of];omega) hm).mono fun e w' ⟨h1,h2⟩=>⟨by simpa using h1,h2▸Below.refl _ _⟩
theorem cut_ab {G:Nat→Option (List AV)} (g:Glob G) (s p:List UInt8) (hs:s.length≤1000000000):PureCall Tryz.prog G 95 [.str s,.str p] (.tup [.str (Lib.cut s p).1,.str (Lib.cut s p).2.1,.bool (Lib.cut s p).2.2]):=
 PureCall.shelf (vs:=[.string ⟨s.toArray⟩,.string ⟨p.toArray⟩]) rfl (fun C=>VR.flats rfl C) fun C w R=>by
  obtain⟨m,hm⟩:=g.maxlen C w R
  exact(Tryz.strings_Cut ⟨s.toArray⟩ ⟨p.toArray⟩ m w (by rw[size_of];omega) hm).mono fun e w' ⟨h1,n,h2⟩=>⟨by simpa using h1,h2▸below_drewN (Below.refl _ _) n⟩
theorem dec_ab {G:Nat→Option (List AV)} (g:Glob G) (l:List UInt8) (hl:l≠[]):PureCall Tryz.prog G 146 [.str l] (.tup [.int .i32 ((dec l).1:Nat),.int .i64 ((dec l).2:Nat)]):=
 PureCall.shelf (vs:=[.string ⟨l.toArray⟩]) rfl (fun C=>VR.flats rfl C) fun C w R=>by
  have hd:Lib.decodeGo ⟨l.toArray⟩=dec l:=by
   have:l.length≠0:=fun h=>hl (List.length_eq_zero_iff.1 h)
   unfold Lib.decodeGo
   rw[size_of,if_neg this]
   rfl
  refine(Tryz.utf8_DecodeRuneInString ⟨l.toArray⟩ w (g.tabs C w R)).mono fun e w' ⟨h1,h2⟩=>⟨?_,h2⟩
  rw[hd]at h1
  exact h1
theorem digit_ascii {base:Nat} {c:UInt8} {d:Nat} (h:digitS base c=some d):c.toNat<128∧c≠43∧c≠45∧c≠95:=by
 have hc:∀k:Nat,k<256→c=UInt8.ofNat k→c.toNat=k:=fun k hk e=>by rw[e];simp;omega
 unfold digitS at h
 split at h
 ·refine⟨by omega,fun e=>?_,fun e=>?_,fun e=>?_⟩<;>(subst e;simp at *)
 ·split at h
  ·refine⟨by omega,fun e=>?_,fun e=>?_,fun e=>?_⟩<;>(subst e;simp at *)
  ·split at h
   ·refine⟨by omega,fun e=>?_,fun e=>?_,fun e=>?_⟩<;>(subst e;simp at *)
   ·cases h
theorem parseF_digits {base:Nat}:∀(l:List UInt8) (n m:Nat),parseF base n l=some m→∀c,c∈l→c.toNat<128∧c≠43∧c≠45∧c≠95
 | [],n,m,h,c,hc=>by cases hc
 | d::l,n,m,h,c,hc=>by
  simp only[parseF]at h
  split at h
  ·cases h
  ·rename_i v hv
   split at h
   ·rcases List.mem_cons.1 hc with rfl | hc
    ·exact digit_ascii hv
    ·exact parseF_digits l _ m h c hc
   ·cases h
theorem any_ab (G:Nat→Option (List AV)) (l:List UInt8) (base n:Nat) (h:parseS base l=some n) (hl:l.length≤1000000000):PureCall Tryz.prog G 85 [.str l,.str [43,45,95]] (.bool false):=by
 have hd:∀c,c∈l→c.toNat<128∧c≠43∧c≠45∧c≠95:=by
  unfold parseS at h
  split at h
  ·cases h
  ·exact parseF_digits l 0 n h
 have hno:Lib.containsAny l [43,45,95]=false:=by
  have:Lib.indexAny l [43,45,95] = -1:=Lib.indexAny_none fun j b hj hb=>by
   have:=hd b (List.mem_of_getElem? hb)
   simp[this.2.1,this.2.2.1,this.2.2.2]
  unfold Lib.containsAny
  rw[this]
  rfl
 refine PureCall.shelf (vs:=[.string ⟨l.toArray⟩,.string ⟨#[43,45,95]⟩]) rfl (fun C => .bool _) fun C w R=>?_
 refine(Tryz.strings_ContainsAny_laid ⟨l.toArray⟩ ⟨#[43,45,95]⟩ w (by rw[size_of];omega) (by decide) (fun j b hb=>(hd b (List.mem_of_getElem? (by simpa using hb))).1) (fun j b hb=>?_)).mono fun e w' ⟨h1,h2⟩=>⟨?_,h2⟩
 ·have:b∈([43,45,95]:List UInt8):=List.mem_of_getElem? (by simpa using hb)
  simp at this
  rcases this with rfl | rfl | rfl<;>decide
 ·rw[h1]
  simp[hno]
end Go.Ab
namespace Go.Ab
open Go Go.Lib Go.Proofs
set_option maxRecDepth 10000 in
theorem or32 (c:UInt8):IntKind.u8.wrap ((BitVec.ofInt IntKind.u8.bits (c.toNat:Int) ||| BitVec.ofInt IntKind.u8.bits 32).toNat:Int)=((c ||| 32).toNat:Int):=by
 have:∀n:Fin 256,IntKind.u8.wrap (((BitVec.ofInt IntKind.u8.bits (n.val:Int) ||| BitVec.ofInt IntKind.u8.bits 32).toNat:Nat):Int)=((UInt8.ofNat n.val ||| 32).toNat:Int):=by decide
 have h:=this ⟨c.toNat,c.toNat_lt⟩
 simpa using h
theorem lower_ok (G:Nat→Option (List AV)) (c:UInt8):PureCall Tryz.prog G 174 [.int .u8 c.toNat] (.int .u8 (c ||| 32).toNat):=by
 intro H
 refine ACalls.keep (ACalls.of Tryz.func174 S174_eq R174 N174 rfl rfl ?_)
 simp (maxSteps:=400000) only[wF,storeA,reduceCtorEq,Nat.reduceAdd,Nat.reduceSub,Nat.reduceEqDiff,Nat.reduceLeDiff,Int.reduceToNat,Int.reduceLE,Int.reduceLT,Int.reduceAdd,Int.reduceNeg,Nat.reduceMul,S174,N174,R174,T174,or32]
 exact⟨Nat.le_refl _,fun _ _=>trivial⟩
def anyDigit (c:UInt8):Option Nat:=
 if 48≤c.toNat∧c.toNat≤57 then some (c.toNat-48)else if 97≤(c ||| 32).toNat∧(c ||| 32).toNat≤122 then some ((c ||| 32).toNat-97+10)else none
set_option maxRecDepth 10000 in
theorem digit_any (base:Nat) (hb:base=10∨base=16) (c:UInt8):digitS base c=match anyDigit c with | some d=>if d<base then some d else none | none=>none:=by
 have h10:∀n:Fin 256,digitS 10 (UInt8.ofNat n.val)=match anyDigit (UInt8.ofNat n.val)with | some d=>if d<10 then some d else none | none=>none:=by decide
 have h16:∀n:Fin 256,digitS 16 (UInt8.ofNat n.val)=match anyDigit (UInt8.ofNat n.val)with | some d=>if d<16 then some d else none | none=>none:=by decide
 rcases hb with rfl | rfl
 ·simpa using h10 ⟨c.toNat,c.toNat_lt⟩
 ·simpa using h16 ⟨c.toNat,c.toNat_lt⟩
theorem anyDigit_le {c:UInt8} {d:Nat} (h:anyDigit c=some d):d≤35:=by
 unfold anyDigit at h
 split at h
 ·cases h;omega
 ·split at h
  ·cases h;omega
  ·cases h
def cutS (base:Nat):Int:=if base=10 then 1844674407370955162 else 1152921504606846976
def ParAt1 (base:Nat) (l:List UInt8) (H:AHeap) (m:Nat) (x:Nat × Nat × AHeap):Prop:=
 x.1≤l.length∧x.2.1≤2147483647∧parseF base x.2.1 (l.drop x.1)=parseF base 0 l∧x.2.2.get m=some (.cells 0 (l.map fun b => .int .u8 b.toNat))∧H.next≤x.2.2.next∧∀j,j<H.next→x.2.2.get j=H.get j
def InPost (base:Nat) (l:List UInt8) (H:AHeap) (r:ARes) (H':AHeap):Prop:=
 Kept H H'∧match parseS base l with
  | some n=>r = .ret (.tup [.int .u64 n,.nili])
  | none=>∃n c:Int,(c=1∨c=2)∧r = .ret (.tup [.int .u64 n,.iface 225 (.int .i64 c)])
set_option maxRecDepth 100000 in
set_option maxHeartbeats 2000000 in
theorem inner_ok (G:Nat→Option (List AV)) (H:AHeap) (l:List UInt8) (base:Nat) (hb:base=10∨base=16) (hl:l.length≤1000000000):ACalls Tryz.prog G 169 [.str l,.int .i64 base,.int .i64 31] H (InPost base l H):=by
 refine ACalls.wf fun wf=>?_
 refine ACalls.of Tryz.func169 S169_eq R169 N169 rfl rfl ?_
 cases he:(l==[])with
 | true=>
  have hl0:l=[]:=by simpa using he
  simp (maxSteps:=400000) only[wF,storeA,reduceCtorEq,Nat.reduceAdd,Nat.reduceSub,Nat.reduceEqDiff,Nat.reduceLeDiff,Int.reduceToNat,Int.reduceLE,Int.reduceLT,Int.reduceAdd,Int.reduceNeg,Nat.reduceMul,S169,N169,R169,T169,he,ifaceA,AV.boxable]
  refine⟨Kept.refl H,?_⟩
  subst hl0
  exact⟨0,2,.inr rfl,rfl⟩
 | false=>
  have hl0:l≠[]:=by simpa using he
  have hps:parseS base l=parseF base 0 l:=by unfold parseS;rw[if_neg hl0]
  have d0:((base:Int)==0)=false:=by rcases hb with rfl | rfl<;>rfl
  have d1:decide ((2:Int)≤(base:Int))=true:=by rcases hb with rfl | rfl<;>rfl
  have d2:decide ((base:Int)≤36)=true:=by rcases hb with rfl | rfl<;>rfl
  have d3:((31:Int)==0)=false:=rfl
  have d4:decide ((31:Int)<0)=false:=rfl
  have d5:decide ((31:Int)>64)=false:=rfl
  have w31:IntKind.u64.wrap 31=31:=by rw[wrapu64]<;>omega
  have sh:shiftA .shl .u64 1 31=some (.int .u64 2147483648):=rfl
  have w2:IntKind.u64.wrap (2147483648-1)=2147483647:=by rw[wrapu64]<;>omega
  have w3:IntKind.u64.wrap 2147483647=2147483647:=by rw[wrapu64]<;>omega
  have hb0:base≤16:=by omega
  have hb1:10≤base:=by omega
  have wb8:IntKind.u8.wrap (base:Int)=base:=by rw[wrapu8]<;>omega
  have wbu:IntKind.u64.wrap (base:Int)=base:=by rw[wrapu64]<;>omega
  have d7:((base:Int)==10)=true∧cutS base=1844674407370955162∨((base:Int)==10)=false∧((base:Int)==16)=true∧cutS base=1152921504606846976:=by
   rcases hb with rfl | rfl
   ·exact .inl ⟨rfl,rfl⟩
   ·exact .inr ⟨rfl,rfl,rfl⟩
  have hcut:1152921504606846976≤cutS base:=by rcases d7 with ⟨_,h⟩ | ⟨_,_,h⟩<;>omega
  rcases d7 with ⟨d6,hc⟩ | ⟨d6,d8,hc⟩
  case' inl=>
   simp (maxSteps:=400000) only[wF,storeA,reduceCtorEq,Nat.reduceAdd,Nat.reduceSub,Nat.reduceEqDiff,Nat.reduceLeDiff,Int.reduceToNat,Int.reduceLE,Int.reduceLT,Int.reduceAdd,Int.reduceNeg,Nat.reduceMul,S169,N169,R169,T169,he,d0,d1,d2,d3,d4,d5,d6,w31,sh,w2,w3,convA,Int.reduceSub]
  case' inr=>
   simp (maxSteps:=400000) only[wF,storeA,reduceCtorEq,Nat.reduceAdd,Nat.reduceSub,Nat.reduceEqDiff,Nat.reduceLeDiff,Int.reduceToNat,Int.reduceLE,Int.reduceLT,Int.reduceAdd,Int.reduceNeg,Nat.reduceMul,S169,N169,R169,T169,he,d0,d1,d2,d3,d4,d5,d6,d8,w31,sh,w2,w3,convA,Int.reduceSub]
  all_goals
   refine ATrS.loopK (κ:=Nat × Nat × AHeap) (fun x=>[.und,.int .i64 base]++List.replicate 6 .und++[.bool false,.und,.int .u64 (cutS base),.int .u64 2147483647,.bool false,.int .u64 x.2.1]++List.replicate 85 .und++[.slc H.next l.length,.int .i64 l.length,.int .i64 x.1]++List.replicate 70 .und) (fun x=>x.2.2)
    (ParAt1 base l H H.next) (fun x=>l.length-x.1) ⟨(0,0,_),⟨Nat.zero_le _,Nat.zero_le _,rfl,by simp,by simp only[AHeap.next_allocAt];omega,fun j hj=>by simp only[show ¬j=H.next by omega,if_false]⟩,by simp[Fg,hc],HW.refl _⟩ ?_
   rintro⟨k,n,J⟩ ⟨hk,hn,hv,hm,hJn,hJ⟩
   simp only at hk hn hv hm hJn hJ
   by_cases hlt:k<l.length
   ·have e0:decide ((k:Int)<(l.length:Int))=true:=by simp;omega
    have q0:((k:Int)<(l.length:Int))=True:=by simp;omega
    have hget:(l.map fun b=>AV.int .u8 b.toNat)[k]?=some (.int .u8 (l[k].toNat)):=by simp[List.getElem?_eq_getElem hlt]
    rw[List.drop_eq_getElem_cons hlt]at hv
    generalize l[k]=c at hget hv
    simp only[parseF]at hv
    rw[digit_any base hb c]at hv
    have ew:IntKind.i64.wrap ((k:Int)+1)=((k+1:Nat):Int):=by rw[wrap64]<;>omega
    have hcl:=c.toNat_lt
    simp (maxSteps:=400000) only[wF,storeA,reduceCtorEq,Nat.reduceAdd,Nat.reduceSub,Nat.reduceEqDiff,Nat.reduceLeDiff,Int.reduceToNat,Int.reduceLE,Int.reduceLT,Int.reduceAdd,Int.reduceNeg,Nat.reduceMul,T169,e0,q0,indexAddrA,hm,hget]
    have hll:=(c ||| 32).toNat_lt
    have hthree:(48≤c.toNat∧c.toNat≤57)∨(¬(48≤c.toNat∧c.toNat≤57)∧(97≤(c ||| 32).toNat∧(c ||| 32).toNat≤122))∨(¬(48≤c.toNat∧c.toNat≤57)∧¬(97≤(c ||| 32).toNat∧(c ||| 32).toNat≤122)):=by
     by_cases h1:48≤c.toNat∧c.toNat≤57
     ·exact .inl h1
     ·by_cases h2:97≤(c ||| 32).toNat∧(c ||| 32).toNat≤122
      ·exact .inr (.inl ⟨h1,h2⟩)
      ·exact .inr (.inr ⟨h1,h2⟩)
    rcases hthree with hdig | ⟨hdig,hlet⟩ | ⟨hdig,hlet⟩
    case' inr.inr=>
     have hd:anyDigit c=none:=by unfold anyDigit;rw[if_neg hdig,if_neg hlet]
     rw[hd]at hv
     simp only at hv
     have hll:=(c ||| 32).toNat_lt
     rcases Bool.eq_false_or_eq_true ((c.toNat:Int)==95)with e95 | e95
     all_goals
      rcases Bool.eq_false_or_eq_true (decide ((48:Int)≤(c.toNat:Int)))with dA | dA
      case' inl=>
       have dB:decide ((c.toNat:Int)≤57)=false:=by simp at dA ⊢;omega
       simp (maxSteps:=400000) only[wF,storeA,reduceCtorEq,Nat.reduceAdd,Nat.reduceSub,Nat.reduceEqDiff,Nat.reduceLeDiff,Int.reduceToNat,Int.reduceLE,Int.reduceLT,Int.reduceAdd,Int.reduceNeg,Nat.reduceMul,T169,e95,dA,dB]
      case' inr=>
       simp (maxSteps:=400000) only[wF,storeA,reduceCtorEq,Nat.reduceAdd,Nat.reduceSub,Nat.reduceEqDiff,Nat.reduceLeDiff,Int.reduceToNat,Int.reduceLE,Int.reduceLT,Int.reduceAdd,Int.reduceNeg,Nat.reduceMul,T169,e95,dA]
     all_goals
      refine AInv.pureK B174 (lower_ok G c) fun J1 j1=>?_
      have hJ1n:H.next≤J1.next:=Nat.le_trans hJn j1.1
      have hJ1:∀j,j<H.next→J1.get j=H.get j:=fun j hj=>by rw[j1.2];exact hJ j hj
      rcases Bool.eq_false_or_eq_true (decide ((97:Int)≤((c ||| 32).toNat:Int)))with dC | dC
      case' inr=>
       simp (maxSteps:=400000) only[wF,storeA,reduceCtorEq,Nat.reduceAdd,Nat.reduceSub,Nat.reduceEqDiff,Nat.reduceLeDiff,Int.reduceToNat,Int.reduceLE,Int.reduceLT,Int.reduceAdd,Int.reduceNeg,Nat.reduceMul,T169,dC,ifaceA,AV.boxable]
       refine⟨⟨hJ1n,hJ1⟩,?_⟩
       rw[hps,←hv]
       exact⟨0,2,.inr rfl,rfl⟩
      case' inl=>
       have dD:decide (((c ||| 32).toNat:Int)≤122)=false:=decide_eq_false fun h=>hlet ⟨by have:=of_decide_eq_true dC;omega,by omega⟩
       simp (maxSteps:=400000) only[wF,storeA,reduceCtorEq,Nat.reduceAdd,Nat.reduceSub,Nat.reduceEqDiff,Nat.reduceLeDiff,Int.reduceToNat,Int.reduceLE,Int.reduceLT,Int.reduceAdd,Int.reduceNeg,Nat.reduceMul,T169,dC]
       refine AInv.pureK B174 (lower_ok G c) fun J2 j2=>?_
       simp (maxSteps:=400000) only[wF,storeA,reduceCtorEq,Nat.reduceAdd,Nat.reduceSub,Nat.reduceEqDiff,Nat.reduceLeDiff,Int.reduceToNat,Int.reduceLE,Int.reduceLT,Int.reduceAdd,Int.reduceNeg,Nat.reduceMul,T169,dD,ifaceA,AV.boxable]
       refine⟨⟨Nat.le_trans hJ1n j2.1,fun j hj=>by rw[j2.2];exact hJ1 j hj⟩,?_⟩
       rw[hps,←hv]
       exact⟨0,2,.inr rfl,rfl⟩
    case' inl=>
     have hd:anyDigit c=some (c.toNat-48):=by unfold anyDigit;rw[if_pos hdig]
     have e95:((c.toNat:Int)==95)=false:=by simp;omega
     have dA:decide ((48:Int)≤(c.toNat:Int))=true:=by simp;omega
     have dB:decide ((c.toNat:Int)≤57)=true:=by simp;omega
     have wd:IntKind.u8.wrap ((c.toNat:Int)-48)=((c.toNat-48:Nat):Int):=by rw[wrapu8]<;>omega
     have hJ1n:=hJn
     have hJ1:=hJ
     have hm1:=hm
     rw[hd]at hv
     simp (maxSteps:=400000) only[wF,storeA,reduceCtorEq,Nat.reduceAdd,Nat.reduceSub,Nat.reduceEqDiff,Nat.reduceLeDiff,Int.reduceToNat,Int.reduceLE,Int.reduceLT,Int.reduceAdd,Int.reduceNeg,Nat.reduceMul,T169,e95,dA,dB,wd,convA,wb8]
     generalize c.toNat-48=d at hd hv ⊢
     have hd35:=anyDigit_le hd
     simp only at hv
    case' inr.inl=>
     have hd:anyDigit c=some ((c ||| 32).toNat-97+10):=by unfold anyDigit;rw[if_neg hdig,if_pos hlet]
     have e95:((c.toNat:Int)==95)=false:=by
      simp only[beq_eq_false_iff_ne]
      intro h
      have:c=95:=by
       apply UInt8.toNat_inj.1
       have:(95:UInt8).toNat=95:=rfl
       omega
      subst this
      exact absurd hlet (by decide)
     have dC:decide ((97:Int)≤((c ||| 32).toNat:Int))=true:=decide_eq_true (by omega)
     have dD:decide (((c ||| 32).toNat:Int)≤122)=true:=decide_eq_true (by omega)
     have wd1:IntKind.u8.wrap (((c ||| 32).toNat:Int)-97)=(((c ||| 32).toNat-97:Nat):Int):=by rw[wrapu8]<;>omega
     have wd2:IntKind.u8.wrap ((((c ||| 32).toNat-97:Nat):Int)+10)=(((c ||| 32).toNat-97+10:Nat):Int):=by rw[wrapu8]<;>omega
     rw[hd]at hv
     have key:∀(Q:APost) (a:List AV) (nx:List AV→AHeap→Prop),True:=fun _ _ _=>trivial
     rcases Bool.eq_false_or_eq_true (decide ((48:Int)≤(c.toNat:Int)))with dA | dA
     case' inl=>
      have dB:decide ((c.toNat:Int)≤57)=false:=by simp at dA ⊢;omega
      simp (maxSteps:=400000) only[wF,storeA,reduceCtorEq,Nat.reduceAdd,Nat.reduceSub,Nat.reduceEqDiff,Nat.reduceLeDiff,Int.reduceToNat,Int.reduceLE,Int.reduceLT,Int.reduceAdd,Int.reduceNeg,Nat.reduceMul,T169,e95,dA,dB]
     case' inr=>
      simp (maxSteps:=400000) only[wF,storeA,reduceCtorEq,Nat.reduceAdd,Nat.reduceSub,Nat.reduceEqDiff,Nat.reduceLeDiff,Int.reduceToNat,Int.reduceLE,Int.reduceLT,Int.reduceAdd,Int.reduceNeg,Nat.reduceMul,T169,e95,dA]
     all_goals
      refine AInv.pureK B174 (lower_ok G c) fun K1 j1=>?_
      simp (maxSteps:=400000) only[wF,storeA,reduceCtorEq,Nat.reduceAdd,Nat.reduceSub,Nat.reduceEqDiff,Nat.reduceLeDiff,Int.reduceToNat,Int.reduceLE,Int.reduceLT,Int.reduceAdd,Int.reduceNeg,Nat.reduceMul,T169,dC]
      refine AInv.pureK B174 (lower_ok G c) fun K2 j2=>?_
      simp (maxSteps:=400000) only[wF,storeA,reduceCtorEq,Nat.reduceAdd,Nat.reduceSub,Nat.reduceEqDiff,Nat.reduceLeDiff,Int.reduceToNat,Int.reduceLE,Int.reduceLT,Int.reduceAdd,Int.reduceNeg,Nat.reduceMul,T169,dD]
      refine AInv.pureK B174 (lower_ok G c) fun J1 j3=>?_
      simp (maxSteps:=400000) only[wF,storeA,reduceCtorEq,Nat.reduceAdd,Nat.reduceSub,Nat.reduceEqDiff,Nat.reduceLeDiff,Int.reduceToNat,Int.reduceLE,Int.reduceLT,Int.reduceAdd,Int.reduceNeg,Nat.reduceMul,T169,wd1,wd2,convA,wb8]
      have hjj:=(j1.trans j2).trans j3
      have hJ1n:H.next≤J1.next:=Nat.le_trans hJn hjj.1
      have hJ1:∀j,j<H.next→J1.get j=H.get j:=fun j hj=>by rw[hjj.2];exact hJ j hj
      have hm1:=hm
      rw[←hjj.2]at hm1
      clear wd2
      generalize (c ||| 32).toNat-97+10=d at hd hv ⊢
      have hd35:=anyDigit_le hd
      simp only at hv
    all_goals
     by_cases hdb:d<base
     ·have dg:decide ((d:Int)≥(base:Int))=false:=by simp;omega
      rw[if_pos hdb]at hv
      simp only at hv
      have dcut:decide ((n:Int)≥cutS base)=false:=decide_eq_false (by omega)
      have hnb:n*base≤2147483647*16:=Nat.mul_le_mul hn hb0
      have hnn:n≤n*base:=Nat.le_mul_of_pos_right n (by omega)
      have wm:IntKind.u64.wrap ((n:Int)*(base:Int))=((n*base:Nat):Int):=by rw[←Int.natCast_mul,wrapu64]<;>omega
      have wdd:IntKind.u64.wrap (d:Int)=d:=by rw[wrapu64]<;>omega
      have wa:IntKind.u64.wrap (((n*base:Nat):Int)+(d:Int))=((n*base+d:Nat):Int):=by rw[wrapu64]<;>omega
      have dl:decide (((n*base+d:Nat):Int)<((n*base:Nat):Int))=false:=by simp;omega
      by_cases hmx:n*base+d≤2147483647
      ·have dm:decide (((n*base+d:Nat):Int)>2147483647)=false:=by simp;omega
       rw[if_pos hmx]at hv
       simp (maxSteps:=400000) only[wF,storeA,reduceCtorEq,Nat.reduceAdd,Nat.reduceSub,Nat.reduceEqDiff,Nat.reduceLeDiff,Int.reduceToNat,Int.reduceLE,Int.reduceLT,Int.reduceAdd,Int.reduceNeg,Nat.reduceMul,T169,dg,dcut,wbu,wm,wdd,wa,dl,dm,convA,ew]
       exact⟨(k+1,n*base+d,_),⟨hlt,hmx,hv,hm1,hJ1n,hJ1⟩,by simp only;omega,by simp[Fg,hc],HW.refl _⟩
      ·have dm:decide (((n*base+d:Nat):Int)>2147483647)=true:=by simp;omega
       rw[if_neg hmx]at hv
       simp (maxSteps:=400000) only[wF,storeA,reduceCtorEq,Nat.reduceAdd,Nat.reduceSub,Nat.reduceEqDiff,Nat.reduceLeDiff,Int.reduceToNat,Int.reduceLE,Int.reduceLT,Int.reduceAdd,Int.reduceNeg,Nat.reduceMul,T169,dg,dcut,wbu,wm,wdd,wa,dl,dm,convA,ifaceA,AV.boxable]
       refine⟨⟨hJ1n,hJ1⟩,?_⟩
       rw[hps,←hv]
       exact⟨_,1,.inl rfl,rfl⟩
     ·have dg:decide ((d:Int)≥(base:Int))=true:=by simp;omega
      rw[if_neg hdb]at hv
      simp only at hv
      simp (maxSteps:=400000) only[wF,storeA,reduceCtorEq,Nat.reduceAdd,Nat.reduceSub,Nat.reduceEqDiff,Nat.reduceLeDiff,Int.reduceToNat,Int.reduceLE,Int.reduceLT,Int.reduceAdd,Int.reduceNeg,Nat.reduceMul,T169,dg,ifaceA,AV.boxable]
      refine⟨⟨hJ1n,hJ1⟩,?_⟩
      rw[hps,←hv]
      exact⟨0,2,.inr rfl,rfl⟩
   ·have e0:decide ((k:Int)<(l.length:Int))=false:=by simp;omega
    rw[List.drop_eq_nil_of_le (by omega)]at hv
    simp only[parseF]at hv
    simp (maxSteps:=400000) only[wF,storeA,reduceCtorEq,Nat.reduceAdd,Nat.reduceSub,Nat.reduceEqDiff,Nat.reduceLeDiff,Int.reduceToNat,Int.reduceLE,Int.reduceLT,Int.reduceAdd,Int.reduceNeg,Nat.reduceMul,T169,e0]
    refine⟨⟨hJn,hJ⟩,?_⟩
    rw[hps,←hv]
end Go.Ab
