/- strings.ContainsAny of one byte that is none of ASCII, walked. What the walks of reparse and tree ask of the library, paid by its contracts. The start, with unicode's table of cases. -/
import Derived.Test.YtojncnpmlhhccaaGreatDoorHT14
import Derived.Test.YtojncnpmlhhccaaGreatDoorXB
import Derived.Lib.LaidCase
set_option linter.all false
namespace Go.Ab
open Go Go.Lib Go.Proofs
theorem useSet_ok (G:Nat→Option (List AV)) (n:Nat) (h:n≤8):PureCall Tryz.prog G 150 [.int .i64 n] (.bool false):=by
 intro H
 refine ACalls.keep (ACalls.of Tryz.func150 S150_eq R150 N150 rfl rfl ?_)
 have d:decide ((n:Int)>8)=false:=by simp;omega
 simp (maxSteps:=400000) only[wF,storeA,reduceCtorEq,Nat.reduceAdd,Nat.reduceSub,Nat.reduceEqDiff,Nat.reduceLeDiff,Int.reduceToNat,Int.reduceLE,Int.reduceLT,Int.reduceAdd,Int.reduceNeg,Nat.reduceMul,S150,N150,R150,T150,d]
 exact⟨Nat.le_refl _,fun _ _=>trivial⟩
def wsA:List UInt8:=[32,9,13,10]
theorem dec_wsA:∀i:Fin 4,Utf8.decode ⟨wsA.toArray⟩ i.val=((wsA.getD i.val 0).toNat,1):=by decide
theorem wsA_ne:∀i:Fin 4,(((wsA.getD i.val 0).toNat:Int)==65533)=false:=by decide
set_option maxRecDepth 100000 in
theorem dec_hi:∀n:Fin 256,128≤n.val→Utf8.decode ⟨#[UInt8.ofNat n.val]⟩ 0=(65533,1):=by decide
set_option maxHeartbeats 4000000 in
set_option maxRecDepth 100000 in
theorem indexRune_ok (G:Nat→Option (List AV)):PureCall Tryz.prog G 149 [.str wsA,.int .i32 65533] (.int .i64 (-1)):=by
 intro H
 refine ACalls.keep (ACalls.of Tryz.func149 S149_eq R149 N149 rfl rfl ?_)
 have d0:decide ((0:Int)≤65533)=true:=by decide
 have d1:decide ((65533:Int)<128)=false:=by decide
 have e0:((65533:Int)==65533)=true:=rfl
 simp (maxSteps:=400000) only[wF,storeA,reduceCtorEq,Nat.reduceAdd,Nat.reduceSub,Nat.reduceEqDiff,Nat.reduceLeDiff,Int.reduceToNat,Int.reduceLE,Int.reduceLT,Int.reduceAdd,Int.reduceNeg,Nat.reduceMul,S149,N149,R149,T149,d0,d1,e0]
 refine ATrS.loopK (κ:=Nat) (fun i=>List.replicate 175 .und++[.ptr H.next 0]++List.replicate 11 .und) (fun i=>H.allocAt H.next (.iter wsA i))
  (fun i=>i≤4) (fun i=>4-i) ⟨0,Nat.zero_le _,by simp[Fg],HW.refl _⟩ ?_
 intro i hi
 have hg:(H.allocAt H.next (AObj.iter wsA i)).get H.next=some (.iter wsA i):=AHeap.get_allocAt_same _ _ _
 have hs:∀k,(H.allocAt H.next (AObj.iter wsA i)).set H.next (.iter wsA k)=H.allocAt H.next (.iter wsA k):=fun k=>by
  simp only[AHeap.set,AHeap.allocAt,AHeap.mk.injEq,true_and]
  funext j
  split<;>rfl
 have hl:wsA.length=4:=rfl
 by_cases hlt:i<4
 ·have hd:=dec_wsA ⟨i,hlt⟩
  have hn:=wsA_ne ⟨i,hlt⟩
  have q:(i<wsA.length)=True:=by simp[hl,hlt]
  simp only at hd hn
  simp (maxSteps:=400000) only[wF,storeA,reduceCtorEq,Nat.reduceAdd,Nat.reduceSub,Nat.reduceEqDiff,Nat.reduceLeDiff,Int.reduceToNat,Int.reduceLE,Int.reduceLT,Int.reduceAdd,Int.reduceNeg,Nat.reduceMul,T149,nextA,hg,q,hd,hn,hs]
  exact⟨i+1,hlt,by omega,by simp[Fg],HW.refl _⟩
 ·have q:(i<wsA.length)=False:=by simp[hl];omega
  simp (maxSteps:=400000) only[wF,storeA,reduceCtorEq,Nat.reduceAdd,Nat.reduceSub,Nat.reduceEqDiff,Nat.reduceLeDiff,Int.reduceToNat,Int.reduceLE,Int.reduceLT,Int.reduceAdd,Int.reduceNeg,Nat.reduceMul,T149,nextA,hg,q]
  exact⟨by omega,fun j hj=>by rw[if_neg (by omega)]⟩
set_option maxHeartbeats 4000000 in
set_option maxRecDepth 100000 in
theorem indexAny_ok (G:Nat→Option (List AV)) (b:UInt8) (hb:128≤b.toNat):PureCall Tryz.prog G 125 [.str [b],.str wsA] (.int .i64 (-1)):=by
 intro H
 refine ACalls.keep (ACalls.of Tryz.func125 S125_eq R125 N125 rfl rfl ?_)
 have e0:(wsA==[])=false:=by decide
 have e1:(((wsA.length:Nat):Int)==1)=false:=by decide
 have hd:=dec_hi ⟨b.toNat,b.toNat_lt⟩ hb
 rw[show UInt8.ofNat b.toNat=b from UInt8.ofNat_toNat]at hd
 simp (maxSteps:=400000) only[wF,storeA,reduceCtorEq,Nat.reduceAdd,Nat.reduceSub,Nat.reduceEqDiff,Nat.reduceLeDiff,Int.reduceToNat,Int.reduceLE,Int.reduceLT,Int.reduceAdd,Int.reduceNeg,Nat.reduceMul,S125,N125,R125,T125,e0,e1]
 refine AInv.pureK B150 (useSet_ok G 1 (by omega)) fun H1 h1=>?_
 have p1:=h1.1
 simp (maxSteps:=400000) only[wF,storeA,reduceCtorEq,Nat.reduceAdd,Nat.reduceSub,Nat.reduceEqDiff,Nat.reduceLeDiff,Int.reduceToNat,Int.reduceLE,Int.reduceLT,Int.reduceAdd,Int.reduceNeg,Nat.reduceMul,T125]
 refine ATrS.loopK (κ:=Nat × AHeap) (fun x=>[.str [b],.str wsA]++List.replicate 43 .und++[.ptr H1.next 0]++List.replicate 9 .und) (fun x=>x.2)
  (fun x=>x.1≤1∧x.2.get H1.next=some (.iter [b] x.1)∧H.next≤x.2.next∧∀j,j<H.next→x.2.get j=H.get j) (fun x=>1-x.1) ⟨(0,_),⟨Nat.zero_le _,AHeap.get_allocAt_same _ _ _,by simp only[AHeap.next_allocAt];omega,fun j hj=>by show(if j=H1.next then _ else H1.get j)=_;rw[if_neg (by omega),h1.2]⟩,by simp[Fg],HW.refl _⟩ ?_
 rintro⟨i,J⟩ ⟨hi,hg,hn,hJ⟩
 simp only at hi hg hn hJ
 by_cases hlt:i<1
 ·have hi0:i=0:=by omega
  subst hi0
  have d0:decide ((-1:Int)≥0)=false:=by decide
  have q:((0:Nat)<1)=True:=by simp
  simp (maxSteps:=400000) only[wF,storeA,reduceCtorEq,Nat.reduceAdd,Nat.reduceSub,Nat.reduceEqDiff,Nat.reduceLeDiff,Int.reduceToNat,Int.reduceLE,Int.reduceLT,Int.reduceAdd,Int.reduceNeg,Nat.reduceMul,T125,nextA,hg,q,hd]
  refine AInv.pureK B149 (indexRune_ok G) fun J1 j1=>?_
  have p2:=j1.1
  simp (maxSteps:=400000) only[wF,storeA,reduceCtorEq,Nat.reduceAdd,Nat.reduceSub,Nat.reduceEqDiff,Nat.reduceLeDiff,Int.reduceToNat,Int.reduceLE,Int.reduceLT,Int.reduceAdd,Int.reduceNeg,Nat.reduceMul,T125,d0]
  exact⟨(1,J1),⟨Nat.le_refl _,by simp only;rw[j1.2,AHeap.get_set_same],by simp only[AHeap.next_set]at p2 ⊢;omega,fun j hj=>by simp only;rw[j1.2,AHeap.get_set_ne _ _ (by omega)];exact hJ j hj⟩,by simp only;omega,by simp[Fg],HW.refl _⟩
 ·have q:(i<1)=False:=by simp;omega
  simp (maxSteps:=400000) only[wF,storeA,reduceCtorEq,Nat.reduceAdd,Nat.reduceSub,Nat.reduceEqDiff,Nat.reduceLeDiff,Int.reduceToNat,Int.reduceLE,Int.reduceLT,Int.reduceAdd,Int.reduceNeg,Nat.reduceMul,T125,nextA,hg,q]
  exact⟨hn,hJ⟩
theorem containsAnyHi_ok (G:Nat→Option (List AV)) (b:UInt8) (hb:128≤b.toNat):PureCall Tryz.prog G 85 [.str [b],.str wsA] (.bool false):=by
 intro H
 refine ACalls.keep (ACalls.of Tryz.func85 S85_eq R85 N85 rfl rfl ?_)
 have d0:decide ((-1:Int)≥0)=false:=by decide
 simp (maxSteps:=400000) only[wF,storeA,reduceCtorEq,Nat.reduceAdd,Nat.reduceSub,Nat.reduceEqDiff,Nat.reduceLeDiff,Int.reduceToNat,Int.reduceLE,Int.reduceLT,Int.reduceAdd,Int.reduceNeg,Nat.reduceMul,S85,N85,R85,T85]
 refine AInv.pureK B125 (indexAny_ok G b hb) fun H1 h1=>?_
 simp (maxSteps:=400000) only[wF,storeA,reduceCtorEq,Nat.reduceAdd,Nat.reduceSub,Nat.reduceEqDiff,Nat.reduceLeDiff,Int.reduceToNat,Int.reduceLE,Int.reduceLT,Int.reduceAdd,Int.reduceNeg,Nat.reduceMul,T85,d0]
 first | exact⟨rfl,h1.post⟩ | exact h1.post
end Go.Ab
namespace Go.Ab
open Go Go.Lib Go.Proofs Go.RowKit
def CaseG (G:Nat→Option (List AV)):Prop:=∀(C:Ctx) (w:World),Rel G C w→CaseVar 3 caseA w
theorem has_ab {G:Nat→Option (List AV)} (g:Glob G) (s p:List UInt8) (hs:s.length≤1000000000):PureCall Tryz.prog G 84 [.str s,.str p] (.bool (Lib.contains s p)):=
 PureCall.shelf (vs:=[.string ⟨s.toArray⟩,.string ⟨p.toArray⟩]) rfl (fun C => .bool _) fun C w R=>by
  obtain⟨m,hm⟩:=g.maxlen C w R
  exact(Tryz.strings_Contains ⟨s.toArray⟩ ⟨p.toArray⟩ m w (by rw[size_of];omega) hm).mono fun e w' ⟨h1,h2⟩=>⟨by simpa using h1,h2▸Below.refl _ _⟩
theorem trim_ab (G:Nat→Option (List AV)) (s p:List UInt8):PureCall Tryz.prog G 12 [.str s,.str p] (.str (Lib.trimPrefix s p)):=
 PureCall.shelf (vs:=[.string ⟨s.toArray⟩,.string ⟨p.toArray⟩]) rfl (fun C => .str _) fun C w R=>
  (Tryz.strings_TrimPrefix ⟨s.toArray⟩ ⟨p.toArray⟩ w).mono fun e w' ⟨h1,h2⟩=>⟨by simpa using h1,h2▸Below.refl _ _⟩
theorem suf_ab (G:Nat→Option (List AV)) (s p:List UInt8) (hs:s.length≤1000000000):PureCall Tryz.prog G 88 [.str s,.str p] (.bool (Lib.hasSuffix s p)):=
 PureCall.shelf (vs:=[.string ⟨s.toArray⟩,.string ⟨p.toArray⟩]) rfl (fun C => .bool _) fun C w R=>
  (Tryz.strings_HasSuffix ⟨s.toArray⟩ ⟨p.toArray⟩ w (by rw[size_of];omega)).mono fun e w' ⟨h1,h2⟩=>⟨by simpa using h1,h2▸Below.refl _ _⟩
theorem low_ab {G:Nat→Option (List AV)} (g:Glob G) (k:CaseG G) (s:List UInt8) (hs:s.length≤1000000000):PureCall Tryz.prog G 89 [.str s] (.str (Lib.toLowerD s)):=
 PureCall.shelf (vs:=[.string ⟨s.toArray⟩]) rfl (fun C => .str _) fun C w R=>
  (Tryz.strings_ToLower_any ⟨s.toArray⟩ w (by rw[size_of];omega) (k C w R) (g.tabs C w R)).mono fun e w' ⟨h1,h2⟩=>⟨by simpa using h1,h2⟩
theorem any2_ab (G:Nat→Option (List AV)) (s:List UInt8) (hs:s.length≤1):PureCall Tryz.prog G 85 [.str s,.str [32,9,13,10]] (.bool (Lib.containsAny s [32,9,13,10])):=by
 have hp:∀b∈([32,9,13,10]:List UInt8),b.toNat<128:=by decide
 by_cases ha:∀b∈s,b.toNat<128
 ·refine PureCall.shelf (vs:=[.string ⟨s.toArray⟩,.string ⟨#[32,9,13,10]⟩]) rfl (fun C => .bool _) fun C w R=>?_
  refine(Tryz.strings_ContainsAny_laid ⟨s.toArray⟩ ⟨#[32,9,13,10]⟩ w (by rw[size_of];omega) (by decide) (fun j b hb=>ha b (List.mem_of_getElem? (by simpa using hb))) (fun j b hb=>hp b (List.mem_of_getElem? (by simpa using hb)))).mono fun e w' ⟨h1,h2⟩=>⟨by simpa using h1,h2⟩
 ·match s,hs,ha with
  | [],_,ha=>exact absurd (fun b hb=>by cases hb) ha
  | [b],_,ha=>
   have hb:128≤b.toNat:=by
    refine Nat.le_of_not_lt fun h=>ha fun x hx=>?_
    simp only[List.mem_singleton]at hx
    rw[hx];exact h
   have hno:Lib.containsAny [b] [32,9,13,10]=false:=by
    have:Lib.indexAny [b] [32,9,13,10] = -1:=Lib.indexAny_none fun j x hj hx=>by
     cases j with
     | zero=>
      simp only[List.getElem?_cons_zero,Option.some.injEq]at hx
      subst hx
      refine Bool.eq_false_iff.2 fun h=>?_
      have:=hp b (by simpa using h)
      omega
     | succ j=>simp at hx
    unfold Lib.containsAny
    rw[this]
    rfl
   rw[hno]
   exact containsAnyHi_ok G b hb
  | _::_::_,hs,_=>simp at hs
theorem theEnvH {G:Nat→Option (List AV)} (g:Glob G):EnvH G:={
 has:=has_ab g
 hasB:=by kernel_rfl
 trim:=trim_ab G
 trimB:=by kernel_rfl }
theorem theEnvT {G:Nat→Option (List AV)} (g:Glob G) (k:CaseG G):EnvT G:={
 suf:=suf_ab G
 sufB:=by kernel_rfl
 low:=low_ab g k
 lowB:=by kernel_rfl
 any:=any2_ab G
 anyB:=by kernel_rfl }
end Go.Ab
namespace Go.Ab
open Go Go.Lib Go.Proofs Go.RowKit
def rowA (x:CaseRow):List AV:=[.int .u32 x.1,.int .u32 x.2.1,.int .i32 x.2.2.1,.int .i32 x.2.2.2.1,.int .i32 x.2.2.2.2]
def rowsA (l:List CaseRow):List AV:=l.flatMap rowA
theorem rowsA_at:∀(l:List CaseRow) (i j:Nat),i<l.length→j<5→(rowsA l)[i*5+j]?=(rowA (l.getD i (0,0,0,0,0)))[j]?
 | [],i,j,h,_=>by simp at h
 | x::l,0,j,_,hj=>by
  simp only[rowsA,List.flatMap_cons,Nat.zero_mul,Nat.zero_add]
  rw[List.getElem?_append_left (by simpa[rowA]using hj)]
  rfl
 | x::l,i+1,j,h,hj=>by
  have:=rowsA_at l i j (by simpa using h) hj
  simp only[rowsA,List.flatMap_cons]at this ⊢
  rw[List.getElem?_append_right (by simp[rowA];omega),show(i+1)*5+j-(rowA x).length=i*5+j by simp[rowA];omega,this]
  rfl
theorem lst_inv {C:Ctx} {n:Nat} {cs:List AV} {y:Value} (h:VR C (.lst n cs) y) (hne:cs≠[]) :
  ∃c off cap arr,y = .slice (some ⟨c,off,none⟩) n cap∧C.I c=some arr∧∀i x,cs[i]?=some x→∃v,arr[off+i]?=some v∧VR C x v:=by
 cases h with
 | lst _ _ c off cap arr f hI hl h1 h2=>exact⟨c,off,cap,arr,rfl,hI,fun i x hx=>⟨f i,h1 i x hx,h2 i x hx⟩⟩
 | lstNil=>exact absurd rfl hne
theorem case_reads {W:World} (h:laidMet Tryz.prog laidAll W):VarReads Tryz.prog W "unicode.CaseRanges" caseData:=by
 rw[←Pinned.caseRanges_eq]
 exact Lib.laidMet.reads h (by simp[laidAll,Go.Proofs.YtojncnpmlhhccaaGreatDoor.Rows.reparseAgainRow,Go.Proofs.YtojncnpmlhhccaaGreatDoor.Rows.laid_unicode_CaseRanges])
def ren274:Go.Shelf.Ren:={ Tryz.lays274_ren with g:=fun | 13=>3 | n=>n }
theorem laid274:Go.Proofs.Lays.n274 Tryz.prog ren274:={ Tryz.lays274 with }
theorem case_of {W:World} (h:laidMet Tryz.prog laidAll W):CaseVar 3 caseA W:=
 caseVar_of_reads (ρ:=ren274) laid274 (by kernel_rfl) ⟨by kernel_rfl,by kernel_rfl,by kernel_rfl,by kernel_rfl,by kernel_rfl,by kernel_rfl⟩ (case_reads h)
theorem case_cap {W:World} (h:laidMet Tryz.prog laidAll W):∃a len cap,W.cell? ⟨3,0,none⟩=some (.slice a len cap)∧len≤cap:=by
 obtain⟨g,t,cs,fuel,p,hg,hty,hvar,hd⟩:=case_reads h
 obtain rfl:=Option.some.inj ((show Tryz.prog.globalNamed "unicode.CaseRanges"=some 3 by kernel_rfl).symm.trans hg)
 have hty2:(Tryz.prog.globals[3]?).map (·.type)=some (Tryz.lays274_ren.t 162):=by kernel_rfl
 obtain rfl:=Option.some.inj (hty2.symm.trans hty)
 have at0:∀v,cs.toList=[v]→W.cell? ⟨3,0,none⟩=some v:=fun v hv=>by
  rw[World.var?_cell hg hvar 0,←Array.getElem?_toList,hv];rfl
 rcases DataW.trod_slice Tryz.lays274.t162 hd with ⟨hc0,_⟩ | ⟨a',len,cap,el,rs,m,_,hc0,_,_,hlc,_⟩
 ·exact⟨none,0,0,at0 _ hc0,Nat.le_refl _⟩
 ·exact⟨some a',len,cap,at0 _ hc0,hlc⟩
def caseAt (W:World):Nat:=match W.cell? ⟨3,0,none⟩with | some (.slice (some a) _ _)=>a.block | _=>0
def cellsAt (W:World) (g:Nat):Option (List Value):=match W.heap[g]? with | some (.cells arr _ _)=>some arr.toList | _=>none
def startI2 (W:World) (g:Nat):Option (List Value):=if g≤7∨g=caseAt W then cellsAt W g else none
def startG2 (W:World) (g:Nat):Option (List AV):=if g=3 then(cellsAt W g).map fun l => .lst caseA.size (rowsA caseA.toList)::l.tail.map absV else startG W g
def startC2 (W:World):Ctx:=⟨startH,fun _=>none,startI2 W⟩
theorem cellsAt_cell {W:World} {c i:Nat} {v:Value} (h:W.cell? ⟨c,i,none⟩=some v):∃l,cellsAt W c=some l∧l[i]?=some v:=by
 unfold World.cell? at h
 simp only at h
 split at h
 ·rename_i arr e fz h1
  simp only[Option.isSome_none,Bool.false_eq_true,if_false]at h
  exact⟨arr.toList,by unfold cellsAt;rw[h1],by rw[Array.getElem?_toList];exact h⟩
 ·cases h
theorem cellsAt_eq {W:World} {g:Nat} {a:List Value} (h:cellsAt W g=some a):∃arr e fz,W.heap[g]?=some (.cells arr e fz)∧arr.toList=a:=by
 unfold cellsAt at h
 split at h
 ·rename_i arr e fz h1
  exact⟨arr,e,fz,h1,Option.some.inj h⟩
 ·cases h
theorem startI_cells {W:World} {g:Nat} (hg:g≤7):startI W g=cellsAt W g:=by
 unfold startI cellsAt
 rw[if_pos hg]
 cases W.heap[g]? with
 | none=>rfl
 | some o=>cases o<;>rfl
theorem rowsA_len:∀l:List CaseRow,(rowsA l).length=l.length*5:=fun l=>by
 induction l with
 | nil=>rfl
 | cons y l ih=>simp only[rowsA,List.flatMap_cons,List.length_append,rowA,List.length_cons,List.length_nil]at ih ⊢;rw[ih];omega
theorem case_size:caseA.size=336:=by kernel_rfl
theorem rowsT_at {T:Array CaseRow} {i j:Nat} (hi:i<T.size) (hj:j<5):(rowsA T.toList)[i*5+j]?=(rowA (T.getD i (0,0,0,0,0)))[j]?:=by
 have hd:T.toList.getD i (0,0,0,0,0)=T.getD i (0,0,0,0,0):=by simp[Array.getD_eq_getD_getElem?]
 rw[rowsA_at _ _ _ (by rw[Array.length_toList];exact hi) hj,hd]
theorem rowsT_ne {T:Array CaseRow} (h:0<T.size):rowsA T.toList≠[]:=fun e=>by
 have:=rowsA_len T.toList
 rw[e]at this
 have h0:([]:List AV).length=0:=rfl
 rw[h0,Array.length_toList]at this
 omega
theorem caseTab_at {T:Array CaseRow} {R oR:Nat} {w:World} (h:CaseTab R oR T w) {i:Nat} {x:AV} (hx:(rowsA T.toList)[i]?=some x):∃v,w.cell? ⟨R,oR+i,none⟩=some v∧∀C,VR C x v:=by
 have hlen:(rowsA T.toList).length=T.size*5:=by rw[rowsA_len,Array.length_toList]
 have hil:i<T.size*5:=by rw[←hlen];exact(List.getElem?_eq_some_iff.1 hx).1
 obtain⟨q,j,rfl,hj⟩:∃q j,i=q*5+j∧j<5:=⟨i / 5,i % 5,by omega,by omega⟩
 have hq:q<T.size:=by omega
 rw[rowsT_at hq hj]at hx
 obtain⟨h0,h1,h2,h3,h4⟩:=h q hq
 rw[←Nat.add_assoc]
 match j,hj,hx with
 | 0,_,hx=>simp only[rowA,List.getElem?_cons_zero,Option.some.injEq]at hx;subst hx;exact⟨_,h0,fun C => .int _ _⟩
 | 1,_,hx=>simp only[rowA,List.getElem?_cons_zero,List.getElem?_cons_succ,Option.some.injEq]at hx;subst hx;exact⟨_,h1,fun C => .int _ _⟩
 | 2,_,hx=>simp only[rowA,List.getElem?_cons_zero,List.getElem?_cons_succ,Option.some.injEq]at hx;subst hx;exact⟨_,h2,fun C => .int _ _⟩
 | 3,_,hx=>simp only[rowA,List.getElem?_cons_zero,List.getElem?_cons_succ,Option.some.injEq]at hx;subst hx;exact⟨_,h3,fun C => .int _ _⟩
 | 4,_,hx=>simp only[rowA,List.getElem?_cons_zero,List.getElem?_cons_succ,Option.some.injEq]at hx;subst hx;exact⟨_,h4,fun C => .int _ _⟩
theorem absV_vrs (C:Ctx) (l:List Value):VRs C (l.map absV) l:=⟨by simp,fun i x y hx hy=>by
 rw[List.getElem?_map,hy]at hx
 simp only[Option.map_some,Option.some.injEq]at hx
 subst hx
 exact absV_vr _ _⟩
theorem start_rel2 {W:World} (h:laidMet Tryz.prog laidAll W):Rel (startG2 W) (startC2 W) W:={
 pres:=fun k o hk=>by cases hk
 inj:=fun k1 k2 o1 o2 c c1 c2 h=>by cases h
 imm:=fun c a hc=>by
  have hc:startI2 W c=some a:=hc
  unfold startI2 at hc
  split at hc
  ·exact⟨(fun h=>by obtain⟨k,o,cap,hk,_⟩:=h;cases hk),cellsAt_eq hc⟩
  ·cases hc
 glob:=fun g cs hg=>by
  unfold startG2 at hg
  split at hg
  ·rename_i hgc
   subst hgc
   obtain⟨R,oR,cap,hc,hT⟩:=case_of h
   obtain⟨a,len,cap',hc',hle⟩:=case_cap h
   have hca:caseAt W=R:=by unfold caseAt;rw[hc]
   rw[hc]at hc'
   cases hc'
   obtain⟨l,hl,hl0⟩:=cellsAt_cell hc
   rw[hl]at hg
   simp only[Option.map_some,Option.some.injEq]at hg
   subst hg
   refine⟨l,by have e:(startC2 W).I 3=startI2 W 3:=rfl;rw[e];unfold startI2;rw[if_pos (.inl (by decide))];exact hl,?_⟩
   match l,hl0 with
   | [],hl0=>simp at hl0
   | y::l,hl0=>
    simp only[List.getElem?_cons_zero,Option.some.injEq]at hl0
    subst hl0
    obtain⟨arr,harr,_⟩:=cellsAt_cell (hT 0 (by rw[case_size];omega)).1
    refine VRs.cons (.lst _ _ R oR cap arr (fun i=>arr.getD (oR+i) undef) (show startI2 W R=some arr by unfold startI2;rw[if_pos (.inr hca.symm)];exact harr) hle ?_ ?_) (absV_vrs _ l)
    ·intro i x hx
     obtain⟨v,hv,_⟩:=caseTab_at hT hx
     obtain⟨l2,h2,h3⟩:=cellsAt_cell hv
     rw[harr]at h2
     cases h2
     rw[List.getD_eq_getElem?_getD,h3];rfl
    ·intro i x hx
     obtain⟨v,hv,hvr⟩:=caseTab_at hT hx
     obtain⟨l2,h2,h3⟩:=cellsAt_cell hv
     rw[harr]at h2
     cases h2
     rw[List.getD_eq_getElem?_getD,h3]
     exact hvr _
  ·obtain⟨a,ha,hv⟩:=(start_rel W).glob g cs hg
   have ha':startI W g=some a:=ha
   have hg7:g≤7:=by
    unfold startI at ha'
    split at ha'
    ·assumption
    ·cases ha'
   refine⟨a,by have e:(startC2 W).I g=startI2 W g:=rfl;rw[e];unfold startI2;rw[if_pos (.inl hg7),←startI_cells hg7];exact ha',?_⟩
   unfold startG at hg
   rw[ha']at hg
   simp only[Option.map_some,Option.some.injEq]at hg
   subst hg
   exact absV_vrs _ a }
theorem rel2_rel {W:World} (h:laidMet Tryz.prog laidAll W) {C:Ctx} {w:World} (R:Rel (startG2 W) C w):Rel (startG W) C w:={
 pres:=R.pres
 inj:=R.inj
 imm:=R.imm
 glob:=fun g cs hg=>by
  by_cases hgc:g=3
  ·subst hgc
   unfold startG at hg
   rw[startI_cells (by decide)]at hg
   obtain⟨R0,oR,cap,hc,_⟩:=case_of h
   obtain⟨l,hl,hl0⟩:=cellsAt_cell hc
   rw[hl]at hg
   simp only[Option.map_some,Option.some.injEq]at hg
   subst hg
   obtain⟨a,ha,hv⟩:=R.glob 3 (.lst caseA.size (rowsA caseA.toList)::l.tail.map absV) (by unfold startG2;rw[if_pos rfl,hl];rfl)
   refine⟨a,ha,?_⟩
   match l,a,hv,hl0 with
   | [],a,hv,hl0=>simp at hl0
   | y::l,z::a,hv,hl0=>
    simp only[List.getElem?_cons_zero,Option.some.injEq]at hl0
    subst hl0
    exact VRs.cons (.und z) ⟨by have:=hv.1;simpa using this,fun i x y hx hy=>hv.2 (i+1) x y (by simpa using hx) (by simpa using hy)⟩
   | y::l,[],hv,hl0=>have:=hv.1;simp at this
  ·exact R.glob g cs (by unfold startG2;rw[if_neg hgc];exact hg) }
theorem case_later {W:World} (h:laidMet Tryz.prog laidAll W):CaseG (startG2 W):=fun C w R=>by
 obtain⟨R0,oR,cap,hc,_⟩:=case_of h
 obtain⟨l,hl,_⟩:=cellsAt_cell hc
 obtain⟨a,ha,hv⟩:=R.glob 3 (.lst caseA.size (rowsA caseA.toList)::l.tail.map absV) (by unfold startG2;rw[if_pos rfl,hl];rfl)
 obtain⟨y,hy,hvy⟩:=hv.get (i:=0) rfl
 have hne:rowsA caseA.toList≠[]:=rowsT_ne (by rw[case_size];omega)
 obtain⟨c,off,cap2,arr,rfl,hI,hrows⟩:=lst_inv hvy hne
 have cellI:∀{c:Nat} {b:List Value} {i:Nat} {v:Value},C.I c=some b→b[i]?=some v→w.cell? ⟨c,i,none⟩=some v:=fun {c b i v} hb hi=>by
  obtain⟨_,arr',e',fz',h2,h3⟩:=R.imm c b hb
  unfold World.cell?
  simp only
  rw[h2]
  simp only[Option.isSome_none,Bool.false_eq_true,if_false]
  rw[←Array.getElem?_toList,h3]
  exact hi
 refine⟨c,off,cap2,cellI ha hy,fun i hi=>?_⟩
 have at5:∀j,j<5→∀k n,(rowA (caseA.getD i (0,0,0,0,0)))[j]?=some (.int k n)→w.cell? ⟨c,off+i*5+j,none⟩=some (.int k n):=fun j hj k n hr=>by
  have:=rowsT_at hi hj
  rw[hr]at this
  obtain⟨v,hv,hvr⟩:=hrows _ _ this
  cases hvr
  rw[Nat.add_assoc]
  exact cellI hI hv
 exact⟨at5 0 (by omega) _ _ rfl,at5 1 (by omega) _ _ rfl,at5 2 (by omega) _ _ rfl,at5 3 (by omega) _ _ rfl,at5 4 (by omega) _ _ rfl⟩
theorem start_glob2 {W:World} (h:laidMet Tryz.prog laidAll W) (hs:W.ShapedOpen Tryz.prog):Glob (startG2 W):=
 let g:=start_glob h hs
 { maxlen:=fun C w R=>g.maxlen C w (rel2_rel h R),tabs:=fun C w R=>g.tabs C w (rel2_rel h R),errs:=fun C w R=>g.errs C w (rel2_rel h R),errr:=fun C w R=>g.errr C w (rel2_rel h R) }
end Go.Ab
