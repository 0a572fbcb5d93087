/- Builders, walked. References, walked. Attributes' values, walked. -/
import Derived.Test.YtojncnpmlhhccaaGreatDoorWA
set_option linter.all false
namespace Go.Ab
open Go Go.Lib Go.Proofs
theorem AInv.retK {P:Program} {G:Nat→Option (List AV)} {f:FuncId} {args:List AV} {H:AHeap} {next:List AV→AHeap→Prop} {d:Option Tmp} {a:List AV} {Kp:AV→AHeap→Prop} {Q:ARes→AHeap→Prop} (hb:bodyT P f=true) (h:ACalls P G f args H Q)
  (hn:∀v H',Q (.ret v) H'→next (putA a d v) H') (hp:∀v H',Q (.pan v) H'→Kp v H'):AInv P G f args H (kNext next d a) Kp:=AInv.call hb h fun r H' hq=>by
 cases r with
 | ret v=>exact hn v H' hq
 | pan v=>exact hp v H' hq
def bytesA (l:List UInt8):List AV:=l.map fun b => .int .u8 b.toNat
theorem bytesA_len (l:List UInt8):(bytesA l).length=l.length:=by simp[bytesA]
theorem bytesA_app (l m:List UInt8):bytesA (l++m)=bytesA l++bytesA m:=by simp[bytesA]
def BldAt (H:AHeap) (k j:Nat) (l:List UInt8):Prop:=
 ∃b0,(b0 = .nilp∨b0 = .ptr k 0)∧H.get k=some (.cells 69 [b0,.slc j l.length])∧H.get j=some (.row 5 1 (bytesA l))
theorem BldAt.ne {H:AHeap} {k j:Nat} {l:List UInt8} (h:BldAt H k j l):k≠j:=by
 obtain⟨b0,_,h1,h2⟩:=h
 intro e
 subst e
 rw[h1]at h2
 cases h2
structure EnvB (G:Nat→Option (List AV)):Prop where
 copyCheck:∀(H:AHeap) (k:Nat) (b0 b1:AV),H.get k=some (.cells 69 [b0,b1])→(b0 = .nilp∨b0 = .ptr k 0)→ACalls Tryz.prog G 75 [.ptr k 0] H fun r H'=>r = .ret (.tup [])∧H'=H.set k (.cells 69 [.ptr k 0,b1])
 copyCheckB:bodyT Tryz.prog 75=true
 string:∀(H:AHeap) (k j:Nat) (l:List UInt8),BldAt H k j l→ACalls Tryz.prog G 39 [.ptr k 0] H fun r H'=>r = .ret (.str l)∧H'.next=H.next∧H'.get=(H.del j).get
 stringB:bodyT Tryz.prog 39=true
def BldPost (H:AHeap) (k j:Nat) (l:List UInt8) (H':AHeap):Prop:=
 ∃j',BldAt H' k j' l∧H.next≤j'∧j'<H'.next∧∀i,i<H.next→i≠k→i≠j→H'.get i=H.get i
theorem writeString_ok {G:Nat→Option (List AV)} (E:EnvB G) {H:AHeap} {k j:Nat} {l s:List UInt8} (hb:BldAt H k j l) (hl:l.length+s.length≤1000000000) :
  ACalls Tryz.prog G 38 [.ptr k 0,.str s] H fun r H'=>r = .ret (.tup [.int .i64 s.length,.nili])∧BldPost H k j (l++s) H':=by
 refine ACalls.wf fun wf=>?_
 have hne:=hb.ne
 obtain⟨b0,hb0,hk,hj⟩:=hb
 have hkn:=wf _ _ hk
 have hjn:=wf _ _ hj
 refine ACalls.of Tryz.func38 S38_eq R38 N38 rfl rfl ?_
 simp (maxSteps:=400000) only[wF,storeA,reduceCtorEq,Nat.reduceAdd,Nat.reduceSub,Nat.reduceEqDiff,Nat.reduceLeDiff,Int.reduceToNat,Int.reduceLE,Int.reduceLT,Int.reduceAdd,Int.reduceNeg,Nat.reduceMul,S38,N38,R38,T38]
 refine AInv.retK E.copyCheckB (E.copyCheck H k b0 _ hk hb0) ?_ ?_
 ·rintro v H1 ⟨hv,rfl⟩
  cases hv
  have hjk:(j=k)=False:=by simp;omega
  have hle:(l.length+s.length≤maxApp)=True:=by simp[maxApp];omega
  have hcl:((bytesA l).length=l.length*1)=True:=by simp[bytesA]
  have hnk:(k=H.next)=False:=by simp;omega
  have hnj:(j=H.next)=False:=by simp;omega
  have hnk':(k=j)=False:=by simp;omega
  simp (maxSteps:=400000) only[wF,storeA,reduceCtorEq,Nat.reduceAdd,Nat.reduceSub,Nat.reduceEqDiff,Nat.reduceLeDiff,Int.reduceToNat,Int.reduceLE,Int.reduceLT,Int.reduceAdd,Int.reduceNeg,Nat.reduceMul,T38,hk,hj,appendA,appSrc,AV.isSlc,hjk,hle,bytesA_len,hnk,hnj,hnk']
  refine⟨H.next,⟨.ptr k 0,.inr rfl,by simp,?_⟩,Nat.le_refl _,?_,fun i h1 h2 h3=>?_⟩
  ·have:H.next≠k:=by omega
   simp[AHeap.get_set,AHeap.get_allocAt,bytesA,this]
  ·simp only[AHeap.next_set,AHeap.next_allocAt,AHeap.next_del]
   omega
  ·have:i≠H.next:=by omega
   simp[AHeap.get_set,AHeap.get_allocAt,AHeap.get_del,h2,h3,this]
 ·rintro v H1 ⟨hv,_⟩
  cases hv
theorem or192 {x:Int} (h0:0≤x) (h1:x<32):IntKind.u8.wrap ((BitVec.ofInt IntKind.u8.bits 192 ||| BitVec.ofInt IntKind.u8.bits x).toNat:Int)=192+x:=by
 obtain⟨n,rfl⟩:=Int.eq_ofNat_of_zero_le h0
 have:∀n:Fin 32,IntKind.u8.wrap (((BitVec.ofInt IntKind.u8.bits 192 ||| BitVec.ofInt IntKind.u8.bits (n.val:Int)).toNat:Nat):Int)=192+(n.val:Int):=by decide
 exact this ⟨n,by omega⟩
theorem or224 {x:Int} (h0:0≤x) (h1:x<16):IntKind.u8.wrap ((BitVec.ofInt IntKind.u8.bits 224 ||| BitVec.ofInt IntKind.u8.bits x).toNat:Int)=224+x:=by
 obtain⟨n,rfl⟩:=Int.eq_ofNat_of_zero_le h0
 have:∀n:Fin 16,IntKind.u8.wrap (((BitVec.ofInt IntKind.u8.bits 224 ||| BitVec.ofInt IntKind.u8.bits (n.val:Int)).toNat:Nat):Int)=224+(n.val:Int):=by decide
 exact this ⟨n,by omega⟩
theorem or240 {x:Int} (h0:0≤x) (h1:x<8):IntKind.u8.wrap ((BitVec.ofInt IntKind.u8.bits 240 ||| BitVec.ofInt IntKind.u8.bits x).toNat:Int)=240+x:=by
 obtain⟨n,rfl⟩:=Int.eq_ofNat_of_zero_le h0
 have:∀n:Fin 8,IntKind.u8.wrap (((BitVec.ofInt IntKind.u8.bits 240 ||| BitVec.ofInt IntKind.u8.bits (n.val:Int)).toNat:Nat):Int)=240+(n.val:Int):=by decide
 exact this ⟨n,by omega⟩
theorem or128 {x:Int} (h0:0≤x) (h1:x<64):IntKind.u8.wrap ((BitVec.ofInt IntKind.u8.bits 128 ||| BitVec.ofInt IntKind.u8.bits x).toNat:Int)=128+x:=by
 obtain⟨n,rfl⟩:=Int.eq_ofNat_of_zero_le h0
 have:∀n:Fin 64,IntKind.u8.wrap (((BitVec.ofInt IntKind.u8.bits 128 ||| BitVec.ofInt IntKind.u8.bits (n.val:Int)).toNat:Nat):Int)=128+(n.val:Int):=by decide
 exact this ⟨n,by omega⟩
theorem u8wrap (z:Int):IntKind.u8.wrap z=z % 256:=by
 simp only[IntKind.wrap,IntKind.bits,IntKind.signed]
 simp
set_option maxRecDepth 10000 in
theorem and63 (z:Int):IntKind.u8.wrap ((BitVec.ofInt IntKind.u8.bits (IntKind.u8.wrap z) &&& BitVec.ofInt IntKind.u8.bits 63).toNat:Int)=z % 64:=by
 rw[u8wrap z]
 obtain⟨n,hn⟩:=Int.eq_ofNat_of_zero_le (show 0≤z % 256 by omega)
 have:∀n:Fin 256,IntKind.u8.wrap (((BitVec.ofInt IntKind.u8.bits (n.val:Int) &&& BitVec.ofInt IntKind.u8.bits 63).toNat:Nat):Int)=(n.val:Int) % 64:=by decide
 have h:=this ⟨n,by omega⟩
 simp only at h
 rw[hn]
 refine h.trans ?_
 have:((n:Nat):Int)=z % 256:=hn.symm
 omega
theorem shr6 (r:Int):shiftA .shr .i32 r 6=some (.int .i32 (r / 64)):=by
 have:r.fdiv 64=r / 64:=Int.fdiv_eq_ediv_of_nonneg _ (by omega)
 simp only[shiftA]
 simpa[IntKind.bits]using this
theorem shr12 (r:Int):shiftA .shr .i32 r 12=some (.int .i32 (r / 4096)):=by
 have:r.fdiv 4096=r / 4096:=Int.fdiv_eq_ediv_of_nonneg _ (by omega)
 simp only[shiftA]
 simpa[IntKind.bits]using this
theorem shr18 (r:Int):shiftA .shr .i32 r 18=some (.int .i32 (r / 262144)):=by
 have:r.fdiv 262144=r / 262144:=Int.fdiv_eq_ediv_of_nonneg _ (by omega)
 simp only[shiftA]
 simpa[IntKind.bits]using this
theorem u32wrap {z:Int} (h0:0≤z) (h1:z<4294967296):IntKind.u32.wrap z=z:=by
 simp only[IntKind.wrap,IntKind.bits,IntKind.signed]
 simp
 omega
def AppPost (H:AHeap) (j:Nat) (l:List UInt8) (r:ARes) (H':AHeap):Prop:=
 ∃j',r = .ret (.slc j' l.length)∧H'.get j'=some (.row 5 1 (bytesA l))∧H.next≤j'∧j'<H'.next∧∀i,i<H.next→i≠j→H'.get i=H.get i
theorem AppPost.of {H:AHeap} {j a b:Nat} {o:AObj} {l e:List UInt8} {c:List AV} (hab:a≠b) (ha:H.next≤a) (hb:H.next≤b) (he:c=bytesA e) {n:Nat} (hn:n=(l++e).length) :
  AppPost H j (l++e) (.ret (.slc b n)) (((H.allocAt a o).del j).allocAt b (.row 5 1 (bytesA l++c))):=by
 subst he hn
 refine⟨b,rfl,by simp[bytesA_app],hb,by simp only[AHeap.next_allocAt];omega,fun i h1 h2=>?_⟩
 have h3:i≠a:=by omega
 have h4:i≠b:=by omega
 simp[AHeap.get_allocAt,AHeap.get_del,h2,h3,h4]
theorem encode_bytes {r:Int} (h:∀z,z∈Lib.encodeRuneZ r→0≤z∧z<256):bytesA (Lib.encodeRune r)=(Lib.encodeRuneZ r).map (AV.int .u8):=by
 unfold bytesA Lib.encodeRune
 rw[List.map_map]
 refine List.map_congr_left fun z hz=>?_
 have:=h z hz
 simp
 omega
set_option maxRecDepth 100000 in
theorem appendNA_ok (G:Nat→Option (List AV)) {H:AHeap} {j:Nat} {l:List UInt8} {r:Int} (hj:H.get j=some (.row 5 1 (bytesA l))) (hl:l.length+4≤1000000000) (hr:(128≤r∧r<55296)∨(57343<r∧r≤1114111)) :
  ACalls Tryz.prog G 164 [.slc j l.length,.int .i32 r] H (AppPost H j (l++Lib.encodeRune r)):=by
 refine ACalls.wf fun wf=>?_
 have hjn:=wf _ _ hj
 refine ACalls.of Tryz.func164 S164_eq R164 N164 rfl rfl ?_
 have hu:IntKind.u32.wrap r=r:=u32wrap (by omega) (by omega)
 have hcl:((bytesA l).length=l.length*1)=True:=by simp[bytesA]
 have hnj:(j=H.next)=False:=by simp;omega
 have hjn1:(H.next==j)=false:=by simp;omega
 have hle2:(l.length+2≤maxApp)=True:=by simp[maxApp];omega
 have hle3:(l.length+3≤maxApp)=True:=by simp[maxApp];omega
 have hle4:(l.length+4≤maxApp)=True:=by simp[maxApp];omega
 by_cases h2:r≤2047
 ·have z:=Lib.encodeRuneZ_two (show 128≤r by omega) h2
  have e1:IntKind.u8.wrap ((BitVec.ofInt IntKind.u8.bits 192 ||| BitVec.ofInt IntKind.u8.bits (IntKind.u8.wrap (r / 64))).toNat:Int)=192+r / 64:=by
   rw[u8wrap (r / 64),show r / 64 % 256=r / 64 by omega,or192 (by omega) (by omega)]
  have e2:IntKind.u8.wrap ((BitVec.ofInt IntKind.u8.bits 128 ||| BitVec.ofInt IntKind.u8.bits (r % 64)).toNat:Int)=128+r % 64:=or128 (by omega) (by omega)
  have d1:decide (r≤2047)=true:=decide_eq_true h2
  have he:[AV.int .u8 (192+r / 64),AV.int .u8 (128+r % 64)]=bytesA (Lib.encodeRune r):=by
   rw[encode_bytes (by rw[z];simp;omega),z];rfl
  simp (maxSteps:=400000) only[wF,storeA,reduceCtorEq,Nat.reduceAdd,Nat.reduceSub,Nat.reduceEqDiff,Nat.reduceLeDiff,Int.reduceToNat,Int.reduceLE,Int.reduceLT,Int.reduceAdd,Int.reduceNeg,Nat.reduceMul,S164,N164,R164,T164,convA,hu,d1,shr6,shr12,shr18,e1,e2,and63,hj,appendA,appSrc,AV.isSlc,sliceLit,fillA,zerosA,srcCells,hle2,hle3,hle4,hcl,hnj,hjn1,AV.boxable,Nat.reduceMul,Nat.le_refl,Nat.reduceLT,Nat.one_mul,Nat.mul_one,bytesA_len,eq_self]
  refine AppPost.of (by omega) (Nat.le_refl _) (Nat.le_succ _) he ?_
  rw[List.length_append,←bytesA_len (Lib.encodeRune r),←he]
  rfl
 ·have d1:decide (r≤2047)=false:=decide_eq_false h2
  by_cases h3:r≤65535
  ·have z:=Lib.encodeRuneZ_three (r:=r) (by omega)
   have e1:IntKind.u8.wrap ((BitVec.ofInt IntKind.u8.bits 224 ||| BitVec.ofInt IntKind.u8.bits (IntKind.u8.wrap (r / 4096))).toNat:Int)=224+r / 4096:=by
    rw[u8wrap (r / 4096),show r / 4096 % 256=r / 4096 by omega,or224 (by omega) (by omega)]
   have e2:IntKind.u8.wrap ((BitVec.ofInt IntKind.u8.bits 128 ||| BitVec.ofInt IntKind.u8.bits (r / 64 % 64)).toNat:Int)=128+r / 64 % 64:=or128 (by omega) (by omega)
   have e3:IntKind.u8.wrap ((BitVec.ofInt IntKind.u8.bits 128 ||| BitVec.ofInt IntKind.u8.bits (r % 64)).toNat:Int)=128+r % 64:=or128 (by omega) (by omega)
   have he:[AV.int .u8 (224+r / 4096),AV.int .u8 (128+r / 64 % 64),AV.int .u8 (128+r % 64)]=bytesA (Lib.encodeRune r):=by
    rw[encode_bytes (by rw[z];simp;omega),z];rfl
   have d3:decide (r≤65535)=true:=decide_eq_true h3
   cases d2:decide (r<55296)with
   | true=>
    simp (maxSteps:=400000) only[wF,storeA,reduceCtorEq,Nat.reduceAdd,Nat.reduceSub,Nat.reduceEqDiff,Nat.reduceLeDiff,Int.reduceToNat,Int.reduceLE,Int.reduceLT,Int.reduceAdd,Int.reduceNeg,Nat.reduceMul,S164,N164,R164,T164,convA,hu,d1,d2,shr6,shr12,shr18,e1,e2,e3,and63,hj,appendA,appSrc,AV.isSlc,sliceLit,fillA,zerosA,srcCells,hle2,hle3,hle4,hcl,hnj,hjn1,AV.boxable,Nat.reduceMul,Nat.le_refl,Nat.reduceLT,Nat.one_mul,Nat.mul_one,bytesA_len,eq_self]
    refine AppPost.of (by omega) (Nat.le_refl _) (Nat.le_succ _) he ?_
    rw[List.length_append,←bytesA_len (Lib.encodeRune r),←he]
    rfl
   | false=>
    have d4:decide (57343<r)=true:=by simp at d2 ⊢;omega
    simp (maxSteps:=400000) only[wF,storeA,reduceCtorEq,Nat.reduceAdd,Nat.reduceSub,Nat.reduceEqDiff,Nat.reduceLeDiff,Int.reduceToNat,Int.reduceLE,Int.reduceLT,Int.reduceAdd,Int.reduceNeg,Nat.reduceMul,S164,N164,R164,T164,convA,hu,d1,d2,d3,d4,shr6,shr12,shr18,e1,e2,e3,and63,hj,appendA,appSrc,AV.isSlc,sliceLit,fillA,zerosA,srcCells,hle2,hle3,hle4,hcl,hnj,hjn1,AV.boxable,Nat.reduceMul,Nat.le_refl,Nat.reduceLT,Nat.one_mul,Nat.mul_one,bytesA_len,eq_self]
    refine AppPost.of (by omega) (Nat.le_refl _) (Nat.le_succ _) he ?_
    rw[List.length_append,←bytesA_len (Lib.encodeRune r),←he]
    rfl
  ·have z:=Lib.encodeRuneZ_four (show 65536≤r by omega) (by omega)
   have e1:IntKind.u8.wrap ((BitVec.ofInt IntKind.u8.bits 240 ||| BitVec.ofInt IntKind.u8.bits (IntKind.u8.wrap (r / 262144))).toNat:Int)=240+r / 262144:=by
    rw[u8wrap (r / 262144),show r / 262144 % 256=r / 262144 by omega,or240 (by omega) (by omega)]
   have e2:IntKind.u8.wrap ((BitVec.ofInt IntKind.u8.bits 128 ||| BitVec.ofInt IntKind.u8.bits (r / 4096 % 64)).toNat:Int)=128+r / 4096 % 64:=or128 (by omega) (by omega)
   have e3:IntKind.u8.wrap ((BitVec.ofInt IntKind.u8.bits 128 ||| BitVec.ofInt IntKind.u8.bits (r / 64 % 64)).toNat:Int)=128+r / 64 % 64:=or128 (by omega) (by omega)
   have e4:IntKind.u8.wrap ((BitVec.ofInt IntKind.u8.bits 128 ||| BitVec.ofInt IntKind.u8.bits (r % 64)).toNat:Int)=128+r % 64:=or128 (by omega) (by omega)
   have he:[AV.int .u8 (240+r / 262144),AV.int .u8 (128+r / 4096 % 64),AV.int .u8 (128+r / 64 % 64),AV.int .u8 (128+r % 64)]=bytesA (Lib.encodeRune r):=by
    rw[encode_bytes (by rw[z];simp;omega),z];rfl
   have d2:decide (r<55296)=false:=by simp;omega
   have d3:decide (r≤65535)=false:=decide_eq_false h3
   have d4:decide (57343<r)=true:=by simp;omega
   have d5:decide (r>65535)=true:=by simp;omega
   have d6:decide (r≤1114111)=true:=by simp;omega
   simp (maxSteps:=400000) only[wF,storeA,reduceCtorEq,Nat.reduceAdd,Nat.reduceSub,Nat.reduceEqDiff,Nat.reduceLeDiff,Int.reduceToNat,Int.reduceLE,Int.reduceLT,Int.reduceAdd,Int.reduceNeg,Nat.reduceMul,S164,N164,R164,T164,convA,hu,d1,d2,d3,d4,d5,d6,shr6,shr12,shr18,e1,e2,e3,e4,and63,hj,appendA,appSrc,AV.isSlc,sliceLit,fillA,zerosA,srcCells,hle2,hle3,hle4,hcl,hnj,hjn1,AV.boxable,Nat.reduceMul,Nat.le_refl,Nat.reduceLT,Nat.one_mul,Nat.mul_one,bytesA_len,eq_self]
   refine AppPost.of (by omega) (Nat.le_refl _) (Nat.le_succ _) he ?_
   rw[List.length_append,←bytesA_len (Lib.encodeRune r),←he]
   rfl
theorem appendRune_ok (G:Nat→Option (List AV)) {H:AHeap} {j:Nat} {l:List UInt8} {r:Int} (hj:H.get j=some (.row 5 1 (bytesA l))) (hl:l.length+4≤1000000000) (hr:(0≤r∧r<55296)∨(57343<r∧r≤1114111)) :
  ACalls Tryz.prog G 145 [.slc j l.length,.int .i32 r] H (AppPost H j (l++Lib.encodeRune r)):=by
 refine ACalls.wf fun wf=>?_
 have hjn:=wf _ _ hj
 refine ACalls.of Tryz.func145 S145_eq R145 N145 rfl rfl ?_
 have hu:IntKind.u32.wrap r=r:=u32wrap (by omega) (by omega)
 have hcl:((bytesA l).length=l.length*1)=True:=by simp[bytesA]
 have hnj:(j=H.next)=False:=by simp;omega
 have hjn1:(H.next==j)=false:=by simp;omega
 have hle1:(l.length+1≤maxApp)=True:=by simp[maxApp];omega
 cases d1:decide (r≤127)with
 | true=>
  simp at d1
  have d1':decide (r≤127)=true:=by simp[d1]
  have z:=Lib.encodeRuneZ_one (show 0≤r by omega) d1
  have hw:IntKind.u8.wrap r=r:=by rw[u8wrap];omega
  have he:[AV.int .u8 r]=bytesA (Lib.encodeRune r):=by
   rw[encode_bytes (by rw[z];simp;omega),z];rfl
  simp (maxSteps:=400000) only[wF,storeA,reduceCtorEq,Nat.reduceAdd,Nat.reduceSub,Nat.reduceEqDiff,Nat.reduceLeDiff,Int.reduceToNat,Int.reduceLE,Int.reduceLT,Int.reduceAdd,Int.reduceNeg,Nat.reduceMul,S145,N145,R145,T145,convA,hu,hw,d1',hj,appendA,appSrc,AV.isSlc,sliceLit,fillA,zerosA,srcCells,hle1,hcl,hnj,hjn1,AV.boxable,Nat.reduceMul,Nat.le_refl,Nat.reduceLT,Nat.one_mul,Nat.mul_one,bytesA_len,eq_self]
  refine AppPost.of (by omega) (Nat.le_refl _) (Nat.le_succ _) he ?_
  rw[List.length_append,←bytesA_len (Lib.encodeRune r),←he]
  rfl
 | false=>
  simp at d1
  have d1':decide (r≤127)=false:=by simp;omega
  simp (maxSteps:=400000) only[wF,storeA,reduceCtorEq,Nat.reduceAdd,Nat.reduceSub,Nat.reduceEqDiff,Nat.reduceLeDiff,Int.reduceToNat,Int.reduceLE,Int.reduceLT,Int.reduceAdd,Int.reduceNeg,Nat.reduceMul,S145,N145,R145,T145,convA,hu,d1']
  refine AInv.retK B164 (appendNA_ok G hj hl (by omega)) (fun v H' hq=>?_) (fun v H' hq=>by obtain⟨_,h,_⟩:=hq;cases h)
  obtain⟨j',h1,h2⟩:=hq
  cases h1
  simp (maxSteps:=400000) only[wF,storeA,reduceCtorEq,Nat.reduceAdd,Nat.reduceSub,Nat.reduceEqDiff,Nat.reduceLeDiff,Int.reduceToNat,Int.reduceLE,Int.reduceLT,Int.reduceAdd,Int.reduceNeg,Nat.reduceMul,T145]
  exact⟨j',rfl,h2⟩
theorem writeRune_ok {G:Nat→Option (List AV)} (E:EnvB G) {H:AHeap} {k j:Nat} {l:List UInt8} {r:Int} (hb:BldAt H k j l) (hl:l.length+4≤1000000000) (hr:(0≤r∧r<55296)∨(57343<r∧r≤1114111)) :
  ACalls Tryz.prog G 122 [.ptr k 0,.int .i32 r] H fun x H'=>(∃n,x = .ret (.tup [.int .i64 n,.nili]))∧BldPost H k j (l++Lib.encodeRune r) H':=by
 refine ACalls.wf fun wf=>?_
 have hne:=hb.ne
 obtain⟨b0,hb0,hk,hj⟩:=hb
 have hkn:=wf _ _ hk
 have hjn:=wf _ _ hj
 refine ACalls.of Tryz.func122 S122_eq R122 N122 rfl rfl ?_
 simp (maxSteps:=400000) only[wF,storeA,reduceCtorEq,Nat.reduceAdd,Nat.reduceSub,Nat.reduceEqDiff,Nat.reduceLeDiff,Int.reduceToNat,Int.reduceLE,Int.reduceLT,Int.reduceAdd,Int.reduceNeg,Nat.reduceMul,S122,N122,R122,T122]
 refine AInv.retK E.copyCheckB (E.copyCheck H k b0 _ hk hb0) ?_ ?_
 ·rintro v H1 ⟨hv,rfl⟩
  cases hv
  have hjk:(j=k)=False:=by simp;omega
  simp (maxSteps:=400000) only[wF,storeA,reduceCtorEq,Nat.reduceAdd,Nat.reduceSub,Nat.reduceEqDiff,Nat.reduceLeDiff,Int.reduceToNat,Int.reduceLE,Int.reduceLT,Int.reduceAdd,Int.reduceNeg,Nat.reduceMul,T122,hk,hj]
  refine AInv.retK B145 (appendRune_ok G (H:=H.set k (.cells 69 [.ptr k 0,.slc j l.length])) (j:=j) (l:=l) (by rw[AHeap.get_set_ne _ _ (by omega)];exact hj) hl hr) (fun v H2 hq=>?_) (fun v H' hq=>by obtain⟨_,h,_⟩:=hq;cases h)
  obtain⟨j',h1,h2,h3,h4,h5⟩:=hq
  cases h1
  simp only[AHeap.next_set]at h3 h5
  have hk2:=h5 k hkn (by omega)
  rw[AHeap.get_set_same]at hk2
  have hkj':(k=j')=False:=by simp;omega
  simp (maxSteps:=400000) only[wF,storeA,reduceCtorEq,Nat.reduceAdd,Nat.reduceSub,Nat.reduceEqDiff,Nat.reduceLeDiff,Int.reduceToNat,Int.reduceLE,Int.reduceLT,Int.reduceAdd,Int.reduceNeg,Nat.reduceMul,T122,hk2]
  refine⟨⟨_,rfl⟩,j',⟨.ptr k 0,.inr rfl,by simp,?_⟩,h3,by simp only[AHeap.next_set];omega,fun i g1 g2 g3=>?_⟩
  ·rw[AHeap.get_set_ne _ _ (by omega)]
   exact h2
  ·rw[AHeap.get_set_ne _ _ g2,h5 i g1 g3,AHeap.get_set_ne _ _ g2]
 ·rintro v H1 ⟨hv,_⟩
  cases hv
end Go.Ab
namespace Go.Ab
open Go Go.Lib Go.Proofs
theorem Weak.builder (G:Nat→Option (List AV)) {H:AHeap} {k:Nat} (hk:H.get k=some (.cells 69 [.nilp,.nils])) (hkn:k<H.next) :
  ∃H',(∀a,Weak G a H a H')∧BldAt H' k H.next []∧H'.next=H.next+1∧∀j,j≠k→j≠H.next→H'.get j=H.get j:=by
 refine⟨⟨H.next+1,fun j=>if j=H.next then some (.row 5 1 [])else if j=k then some (.cells 69 [.nilp,.slc H.next 0])else H.get j⟩,fun a=>Weak.nilRow H.next 5 1 (Nat.le_refl _) (Nat.lt_succ_self _) (by simp) ?_ (Tzs.refl a),⟨.nilp,.inl rfl,?_,?_⟩,rfl,?_⟩
 ·intro j
  by_cases h1:j=H.next
  ·exact .inl h1
  ·by_cases h2:j=k
   ·subst h2
    exact .inr (.inr ⟨_,.cells 69 [.nilp,.slc H.next 0],hk,by simp[h1],.cells _ _ _ (show Tzs _ _ _ _ _ from ⟨.same _,.nil _ rfl,trivial⟩)⟩)
   ·cases hg:H.get j with
    | none=>exact .inr (.inl (by simp[h1,h2,hg]))
    | some o=>exact .inr (.inr ⟨o,o,rfl,by simp[h1,h2,hg],.same o⟩)
 ·have:k≠H.next:=by omega
  simp[this]
 ·simp[bytesA]
 ·intro j h1 h2
  simp[h1,h2]
structure EnvP (G:Nat→Option (List AV)):Prop where
 parse:∀(H:AHeap) (l:List UInt8) (base:Nat),base=10∨base=16→l.length≤1000000000→ACalls Tryz.prog G 157 [.str l,.int .i64 base,.int .i64 31] H fun r H'=>Kept H H' ∧
  match parseS base l with
  | some n=>r = .ret (.tup [.int .u64 n,.nili])
  | none=>∃n t v,r = .ret (.tup [.int .u64 n,.iface t v])
 parseB:bodyT Tryz.prog 157=true
 any:∀(l:List UInt8) (base n:Nat),parseS base l=some n→l.length≤1000000000→PureCall Tryz.prog G 85 [.str l,.str [43,45,95]] (.bool false)
 anyB:bodyT Tryz.prog 85=true
theorem isCharS_valid {n:Int} (h:isCharS n=true):(0≤n∧n<55296)∨(57343<n∧n≤1114111):=by
 simp[isCharS]at h
 omega
def FromAt (m:Nat) (n:Nat) (H:AHeap) (x:Nat × Nat × AHeap):Prop:=
 (x.1=0∧BldAt x.2.2 H.next x.2.1 []∨x.1=1∧isCharS n=true∧BldAt x.2.2 H.next x.2.1 (Lib.encodeRune n))∧H.next<x.2.1∧H.next<x.2.2.next∧∀j,j<H.next→x.2.2.get j=H.get j
theorem from_ok {G:Nat→Option (List AV)} (E:EnvB G) {H:AHeap} {m n:Nat} (hm:H.get m=some (.row 3 1 [.int .i64 n])) (hn:n≤2147483647) :
  ACalls Tryz.prog G 82 [.slc m 1] H fun r H'=>r = .ret (.tup [.str (charS n).1,.int .i64 (if(charS n).2=true then 0 else 10)])∧Kept H H':=by
 refine ACalls.wf fun wf=>?_
 have hmn:=wf _ _ hm
 refine ACalls.of Tryz.func82 S82_eq R82 N82 rfl rfl ?_
 simp (maxSteps:=400000) only[wF,storeA,reduceCtorEq,Nat.reduceAdd,Nat.reduceSub,Nat.reduceEqDiff,Nat.reduceLeDiff,Int.reduceToNat,Int.reduceLE,Int.reduceLT,Int.reduceAdd,Int.reduceNeg,Nat.reduceMul,S82,N82,R82,T82,hm]
 generalize hH1:H.allocAt H.next _=H1
 have hb1:H1.get H.next=some (.cells 69 [.nilp,.nils]):=by rw[←hH1];simp
 have hn1:H1.next=H.next+1:=by rw[←hH1];simp[AHeap.next_allocAt]
 have hg1:∀j,j<H.next→H1.get j=H.get j:=fun j hj=>by rw[←hH1,AHeap.get_allocAt_ne _ _ (by omega)]
 obtain⟨H2,hw,hb2,hn2,hg2⟩:=Weak.builder G hb1 (by omega)
 rw[hn1]at hb2 hn2 hg2
 refine ATrS.weak (hw _) (ATrS.loopK (κ:=Nat × Nat × AHeap) (fun x=>[.slc m 1,.und,.und,.und,.ptr H.next 0,.und,.und,.slc m 1,.int .i64 1,.int .i64 x.1]++List.replicate 20 .und) (fun x=>x.2.2)
  (FromAt m n H) (fun x=>1-x.1) ⟨(0,H.next+1,H2),⟨.inl ⟨rfl,hb2⟩,Nat.lt_succ_self _,by simp only;omega,fun j hj=>by simp only;rw[hg2 j (by omega) (by omega),hg1 j hj]⟩,by simp[Fg],HW.refl _⟩ ?_)
 rintro⟨i,k,J⟩ ⟨hx,hk,hJn,hJ⟩
 simp only at hx hk hJn hJ
 have hJm:J.get m=some (.row 3 1 [.int .i64 n]):=by rw[hJ m hmn];exact hm
 have c0:((0:Nat):Int)=0:=rfl
 have c1:((1:Nat):Int)=1:=rfl
 rcases hx with ⟨rfl,hb⟩ | ⟨rfl,hc,hb⟩
 ·have d1:decide ((n:Int)<0)=false:=by simp
  cases d2:decide ((n:Int)>1114111)with
  | true=>
   simp (maxSteps:=400000) only[wF,storeA,reduceCtorEq,Nat.reduceAdd,Nat.reduceSub,Nat.reduceEqDiff,Nat.reduceLeDiff,Int.reduceToNat,Int.reduceLE,Int.reduceLT,Int.reduceAdd,Int.reduceNeg,Nat.reduceMul,T82,indexAddrA,hJm,c0,c1,d1,d2]
   have:charS n=([],false):=by
    have:isCharS n=false:=by simp[isCharS]at d2 ⊢;omega
    simp[charS,this]
   refine⟨by rw[this];rfl,by omega,hJ⟩
  | false=>
   have hw32:IntKind.i32.wrap (n:Int)=n:=wrap32 (by omega) (by omega)
   simp (maxSteps:=400000) only[wF,storeA,reduceCtorEq,Nat.reduceAdd,Nat.reduceSub,Nat.reduceEqDiff,Nat.reduceLeDiff,Int.reduceToNat,Int.reduceLE,Int.reduceLT,Int.reduceAdd,Int.reduceNeg,Nat.reduceMul,T82,indexAddrA,hJm,c0,c1,d1,d2,convA,hw32]
   refine AInv.pureK B58 (isChar_ok G _) fun J1 h1=>?_
   cases hc:isCharS n with
   | false=>
    simp (maxSteps:=400000) only[wF,storeA,reduceCtorEq,Nat.reduceAdd,Nat.reduceSub,Nat.reduceEqDiff,Nat.reduceLeDiff,Int.reduceToNat,Int.reduceLE,Int.reduceLT,Int.reduceAdd,Int.reduceNeg,Nat.reduceMul,T82,hc]
    have:charS n=([],false):=by simp[charS,hc]
    have h2:=h1.1
    refine⟨by rw[this];rfl,by omega,fun j hj=>by rw[h1.2];exact hJ j hj⟩
   | true=>
    simp (maxSteps:=400000) only[wF,storeA,reduceCtorEq,Nat.reduceAdd,Nat.reduceSub,Nat.reduceEqDiff,Nat.reduceLeDiff,Int.reduceToNat,Int.reduceLE,Int.reduceLT,Int.reduceAdd,Int.reduceNeg,Nat.reduceMul,T82,hc,convA,hw32]
    have hb1:BldAt J1 H.next k []:=by unfold BldAt;rw[h1.2];exact hb
    refine AInv.retK B122 (writeRune_ok E hb1 (by simp) (isCharS_valid hc)) (fun v J2 hq=>?_) (fun v J2 hq=>by obtain⟨⟨_,h⟩,_⟩:=hq;cases h)
    obtain⟨⟨q,hq⟩,k',hb2,hk',hn2,hg2⟩:=hq
    cases hq
    have h11:=h1.1
    have hw1:IntKind.i64.wrap 1=((1:Nat):Int):=by rw[wrap64]<;>omega
    simp (maxSteps:=400000) only[wF,storeA,reduceCtorEq,Nat.reduceAdd,Nat.reduceSub,Nat.reduceEqDiff,Nat.reduceLeDiff,Int.reduceToNat,Int.reduceLE,Int.reduceLT,Int.reduceAdd,Int.reduceNeg,Nat.reduceMul,T82,hw1]
    refine⟨(1,k',J2),⟨.inr ⟨rfl,hc,hb2⟩,by simp only;omega,by simp only;omega,fun j hj=>?_⟩,by simp,by simp[Fg],HW.refl _⟩
    simp only
    rw[hg2 j (by omega) (by omega) (by omega),h1.2]
    exact hJ j hj
 ·simp (maxSteps:=400000) only[wF,storeA,reduceCtorEq,Nat.reduceAdd,Nat.reduceSub,Nat.reduceEqDiff,Nat.reduceLeDiff,Int.reduceToNat,Int.reduceLE,Int.reduceLT,Int.reduceAdd,Int.reduceNeg,Nat.reduceMul,T82,c1]
  refine AInv.retK E.stringB (E.string J H.next k _ hb) (fun v J2 hq=>?_) (fun v J2 hq=>by cases hq.1)
  obtain⟨hv,hn2,hg2⟩:=hq
  cases hv
  simp (maxSteps:=400000) only[wF,storeA,reduceCtorEq,Nat.reduceAdd,Nat.reduceSub,Nat.reduceEqDiff,Nat.reduceLeDiff,Int.reduceToNat,Int.reduceLE,Int.reduceLT,Int.reduceAdd,Int.reduceNeg,Nat.reduceMul,T82]
  have:charS n=(Lib.encodeRune n,true):=by simp[charS,hc]
  refine⟨by rw[this];rfl,by omega,fun j hj=>?_⟩
  rw[hg2,AHeap.get_del_ne _ (by omega)]
  exact hJ j hj
theorem parseF_le (base:Nat):∀(l:List UInt8) (n m:Nat),n≤2147483647→parseF base n l=some m→m≤2147483647
 | [],n,m,hn,h=>by simp only[parseF,Option.some.injEq]at h;omega
 | c::l,n,m,hn,h=>by
  simp only[parseF]at h
  split at h
  ·cases h
  ·split at h
   ·rename_i hle
    exact parseF_le base l _ m hle h
   ·cases h
theorem parseS_some {base:Nat} {l:List UInt8} {n:Nat} (h:parseS base l=some n):l≠[]∧n≤2147483647:=by
 unfold parseS at h
 split at h
 ·cases h
 ·rename_i hl
  exact⟨hl,parseF_le base l 0 n (by omega) h⟩
theorem numS_none {name:List UInt8} (h:Lib.hasPrefix name [35]=false):numS name=none:=by simp[numS,h]
end Go.Ab
namespace Go.Ab
open Go Go.Lib Go.Proofs
theorem encodeRune_len (r:Int):(Lib.encodeRune r).length≤4:=by
 simp only[Lib.encodeRune,List.length_map,Lib.encodeRuneZ]
 repeat' split
 all_goals simp
theorem hasPrefix_nil (p:List UInt8) (h:p≠[]):Lib.hasPrefix [] p=false:=by
 cases p with
 | nil=>exact absurd rfl h
 | cons=>rfl
theorem numS_len {name:List UInt8} {n:Nat} (h:numS name=some n):2≤name.length:=by
 unfold numS at h
 split at h
 ·rename_i h1
  have:=hasPrefix_len h1
  simp only[List.length_cons,List.length_nil]at this
  have hne:name.drop 1≠[]:=by
   split at h
   ·rename_i h2
    intro e
    rw[e]at h2
    simp[hasPrefix_nil]at h2
   ·exact(parseS_some h).1
  have:(name.drop 1).length≠0:=fun e=>hne (List.length_eq_zero_iff.1 e)
  simp only[List.length_drop]at this
  omega
 ·cases h
theorem entityS_len (l:List UInt8):(entityS l).1.length≤1:=by
 unfold entityS
 repeat' split
 all_goals simp
end Go.Ab
