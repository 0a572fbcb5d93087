/- strconv's ParseUint: the inner one's answer, with its error made public. strings.EqualFold against "xml": where a byte is none of ASCII the code behind its label is walked. The start: what the laid variables give, and how a law's row is met. -/
import Derived.Test.YtojncnpmlhhccaaGreatDoorXA
import Derived.Shelf.Pu.ToErrorRange
import Derived.ScopeJumps
import Derived.WalkMore
import Derived.Test.YtojncnpmlhhccaaGreatDoorTie
import Derived.OpenShut
import Derived.LaidMore
import Derived.Lay
import Derived.Stop.Joined
import Derived.Stop.LaidErr
import Derived.HandedShaped
import Derived.Shelf.Vars
import Derived.Lib.LaidU8T
import Derived.PinnedBridge
set_option linter.all false
namespace Go.Ab
open Go Go.Lib Go.Proofs Go.RowKit
theorem VRs.err5 {C:Ctx} {a b:List UInt8} {m n c:Int} {t:TypeId} {ys:Array Value} (h:VRs C [.str a,.str b,.int .i64 m,.int .i64 n,.iface t (.int .i64 c)] ys.toList):ys=#[.string ⟨a.toArray⟩,.string ⟨b.toArray⟩,.int .i64 m,.int .i64 n,.iface t (.int .i64 c)]:=by
 obtain⟨l⟩:=ys
 match l,h with
 | [y0,y1,y2,y3,y4],h=>
  have h0:=h.2 0 _ y0 rfl rfl
  have h1:=h.2 1 _ y1 rfl rfl
  have h2:=h.2 2 _ y2 rfl rfl
  have h3:=h.2 3 _ y3 rfl rfl
  have h4:=h.2 4 _ y4 rfl rfl
  cases h0;cases h1;cases h2;cases h3
  cases h4 with
  | iface t x y h5=>cases h5;rfl
 | [],h=>have:=h.1;simp at this
 | [_],h=>have:=h.1;simp at this
 | [_,_],h=>have:=h.1;simp at this
 | [_,_,_],h=>have:=h.1;simp at this
 | [_,_,_,_],h=>have:=h.1;simp at this
 | _::_::_::_::_::_::_,h=>have:=h.1;simp at this
theorem toError_ab {G:Nat→Option (List AV)} (g:Glob G) (H:AHeap) (fn s:List UInt8) (base bits c:Int) (hc:c=1∨c=2) (hs:s.length≤1000000000) :
  ACalls Tryz.prog G 170 [.str fn,.str s,.int .i64 base,.int .i64 bits,.iface 225 (.int .i64 c)] H fun r H'=>r = .ret (.iface 227 .anyp)∧Keeps H H':=by
 refine ACalls.of_calls fun C w args' R hv=>?_
 rw[VRs.err5 hv]
 have hsz:(⟨s.toArray⟩:ByteArray).size≤281474976710656:=by rw[size_of];omega
 rcases hc with rfl | rfl
 ·obtain⟨v,h1,h2⟩:=g.errr C w R
  refine(AnyPu.strconv_toError_range { Tryz.laysPu14 with } ⟨fn.toArray⟩ ⟨s.toArray⟩ base bits v w hsz h1 h2).mono ?_
  rintro e w' ⟨N,rfl,_,_,B⟩
  exact⟨⟨_,rfl,VR.iface _ _ _ (VR.anyp _)⟩,B⟩
 ·obtain⟨v,h1,h2⟩:=g.errs C w R
  refine(AnyPu.strconv_toError_syntax { Tryz.laysPu14 with } ⟨fn.toArray⟩ ⟨s.toArray⟩ base bits v w hsz h1 h2).mono ?_
  rintro e w' ⟨N,rfl,_,_,B⟩
  exact⟨⟨_,rfl,VR.iface _ _ _ (VR.anyp _)⟩,B⟩
theorem parse_ab {G:Nat→Option (List AV)} (g:Glob G) (H:AHeap) (l:List UInt8) (base:Nat) (hb:base=10∨base=16) (hl:l.length≤1000000000) :
  ACalls Tryz.prog G 157 [.str l,.int .i64 base,.int .i64 31] H fun r H'=>Kept H H' ∧
  match parseS base l with
  | some n=>r = .ret (.tup [.int .u64 n,.nili])
  | none=>∃n t v,r = .ret (.tup [.int .u64 n,.iface t v]):=by
 refine ACalls.of Tryz.func157 S157_eq R157 N157 rfl rfl ?_
 simp (maxSteps:=400000) only[wF,storeA,reduceCtorEq,Nat.reduceAdd,Nat.reduceSub,Nat.reduceEqDiff,Nat.reduceLeDiff,Int.reduceToNat,Int.reduceLE,Int.reduceLT,Int.reduceAdd,Int.reduceNeg,Nat.reduceMul,S157,N157,R157,T157,eqNeq,AV.isConst,Bool.or_true]
 refine AInv.call B169 (inner_ok G H l base hb hl) ?_
 rintro r H1 ⟨hk,hr⟩
 split at hr
 ·rename_i n hn
  subst hr
  simp (maxSteps:=400000) only[wF,storeA,reduceCtorEq,Nat.reduceAdd,Nat.reduceSub,Nat.reduceEqDiff,Nat.reduceLeDiff,Int.reduceToNat,Int.reduceLE,Int.reduceLT,Int.reduceAdd,Int.reduceNeg,Nat.reduceMul,T157,eqNeq,AV.isConst,Bool.or_true]
  exact⟨hk,by rw[hn]⟩
 ·rename_i hn
  obtain⟨n,c,hc,rfl⟩:=hr
  simp (maxSteps:=400000) only[wF,storeA,reduceCtorEq,Nat.reduceAdd,Nat.reduceSub,Nat.reduceEqDiff,Nat.reduceLeDiff,Int.reduceToNat,Int.reduceLE,Int.reduceLT,Int.reduceAdd,Int.reduceNeg,Nat.reduceMul,T157,eqNeq,AV.isConst,Bool.or_true]
  refine AInv.call B170 (toError_ab g H1 _ _ _ _ c hc hl) ?_
  rintro r H2 ⟨rfl,h2⟩
  simp (maxSteps:=400000) only[wF,storeA,reduceCtorEq,Nat.reduceAdd,Nat.reduceSub,Nat.reduceEqDiff,Nat.reduceLeDiff,Int.reduceToNat,Int.reduceLE,Int.reduceLT,Int.reduceAdd,Int.reduceNeg,Nat.reduceMul,T157,eqNeq,AV.isConst,Bool.or_true]
  exact⟨hk.trans h2.kept,by rw[hn];exact⟨_,_,_,rfl⟩⟩
end Go.Ab
namespace Go.Ab
open Go Go.Lib Go.Proofs Go.RowKit
structure FoldT (G:Nat→Option (List AV)):Prop where
end Go.Ab
namespace Go.Ab
open Go Go.Lib Go.Proofs Go.RowKit
def absV:Value→AV
 | .int k n => .int k n
 | .nilIface => .nili
 | .iface t _ => .iface t .und
 | _ => .und
theorem absV_vr (C:Ctx) (v:Value):VR C (absV v) v:=by
 cases v<;>first | exact .und _ | exact .int _ _ | exact .nili | exact .iface _ _ _ (.und _)
def startI (W:World) (g:Nat):Option (List Value):=if g≤7 then(match W.heap[g]? with | some (.cells arr _ _)=>some arr.toList | _=>none)else none
def startG (W:World) (g:Nat):Option (List AV):=(startI W g).map fun l=>l.map absV
def startH:AHeap:=⟨0,fun _=>none⟩
def startC (W:World):Ctx:=⟨startH,fun _=>none,startI W⟩
theorem startI_eq {W:World} {g:Nat} {a:List Value} (h:startI W g=some a):∃arr e fz,W.heap[g]?=some (.cells arr e fz)∧arr.toList=a:=by
 unfold startI at h
 split at h
 ·split at h
  ·rename_i arr e fz h1
   exact⟨arr,e,fz,h1,Option.some.inj h⟩
  ·cases h
 ·cases h
theorem start_rel (W:World):Rel (startG W) (startC W) W:={
 pres:=fun k o hk=>by cases hk
 inj:=fun k1 k2 o1 o2 c c1 c2 h=>by cases h
 imm:=fun c a hc=>⟨(fun h=>by obtain⟨k,o,cap,hk,_⟩:=h;cases hk),startI_eq hc⟩
 glob:=fun g cs hg=>by
  unfold startG at hg
  cases hi:startI W g with
  | none=>rw[hi]at hg;cases hg
  | some a=>
   rw[hi]at hg
   simp only[Option.map_some,Option.some.injEq]at hg
   subst hg
   refine⟨a,hi,by simp,fun i x y hx hy=>?_⟩
   rw[List.getElem?_map,hy]at hx
   simp only[Option.map_some,Option.some.injEq]at hx
   subst hx
   exact absV_vr _ _ }
theorem start_cell {W:World} {C:Ctx} {w:World} (R:Rel (startG W) C w) {g i:Nat} {v:Value} (hg:g≤7) (h:W.cell? ⟨g,i,none⟩=some v):∃v',w.cell? ⟨g,i,none⟩=some v'∧VR C (absV v) v':=by
 unfold World.cell? at h
 simp only at h
 split at h
 ·rename_i arr e fz h1
  simp only[Option.isSome_none,Bool.false_eq_true,if_false]at h
  have hi:startI W g=some arr.toList:=by
   unfold startI
   rw[if_pos hg,h1]
  obtain⟨a,ha,hv⟩:=R.glob g (arr.toList.map absV) (by unfold startG;rw[hi];rfl)
  obtain⟨_,arr',e',fz',h2,h3⟩:=R.imm g a ha
  have hx:(arr.toList.map absV)[i]?=some (absV v):=by
   rw[List.getElem?_map,Array.getElem?_toList,h]
   rfl
  obtain⟨y,hy,hxy⟩:=VRs.get hv hx
  refine⟨y,?_,hxy⟩
  unfold World.cell?
  simp only
  rw[h2]
  simp only[Option.isSome_none,Bool.false_eq_true,if_false]
  rw[←Array.getElem?_toList,h3]
  exact hy
 ·cases h
theorem start_int {W:World} {C:Ctx} {w:World} (R:Rel (startG W) C w) {g i:Nat} {k:IntKind} {n:Int} (hg:g≤7) (h:W.cell? ⟨g,i,none⟩=some (.int k n)):w.cell? ⟨g,i,none⟩=some (.int k n):=by
 obtain⟨v',h1,h2⟩:=start_cell R hg h
 cases h2
 exact h1
theorem start_err {W:World} {C:Ctx} {w:World} (R:Rel (startG W) C w) {g:Nat} {t:TypeId} {p:Value} (hg:g≤7) (h:W.cell? ⟨g,0,none⟩=some (.iface t p)):∃v,w.cell? ⟨g,0,none⟩=some v∧(v = .nilIface∨∃te pe,v = .iface te pe):=by
 obtain⟨v',h1,h2⟩:=start_cell R hg h
 cases h2
 exact⟨_,h1,.inr ⟨_,_,rfl⟩⟩
/-! What the laid variables hold. -/
noncomputable abbrev laidAll:List (String × DataW Unit):=Go.Proofs.YtojncnpmlhhccaaGreatDoor.Rows.reparseAgainRow.laid
theorem own:ownKnob Tryz.prog.godebug=none:=by kernel_rfl
theorem star: "*"++ "errors.errorString"= "*errors.errorString":=by decide
theorem rowErr (u:TypeId) (h:Tryz.prog.typeName? 3 u=some "*errors.errorString"):u=237:=
 typeName_ptr_named (nm:= "errors.errorString") (by rw[star];kernel_rfl) (by kernel_rfl) (by decide) u (by rw[star];exact h)
theorem utf8_of {W:World} (h:laidMet Tryz.prog laidAll W):Lib.Utf8Tabs 4 5 W:=
 utf8Tabs_of_readsT (ρ:=Tryz.lays260_ren) (.of260 Tryz.lays260) ⟨by kernel_rfl,by kernel_rfl,by kernel_rfl,by kernel_rfl,by kernel_rfl,by kernel_rfl,by kernel_rfl⟩
  (by rw[←Pinned.utf8First_eq];exact Lib.laidMet.reads h (by simp[laidAll,Go.Proofs.YtojncnpmlhhccaaGreatDoor.Rows.reparseAgainRow,Go.Proofs.YtojncnpmlhhccaaGreatDoor.Rows.laid_unicode_utf8_first]))
  (Lib.laidMet.reads h (by
   have:(acceptData:DataW Unit)=Go.Proofs.YtojncnpmlhhccaaGreatDoor.Rows.laid_unicode_utf8_acceptRanges:=by kernel_rfl
   rw[this]
   simp[laidAll,Go.Proofs.YtojncnpmlhhccaaGreatDoor.Rows.reparseAgainRow]))
theorem errs_of {W:World} (h:laidMet Tryz.prog laidAll W):(∃t p,W.cell? ⟨6,0,none⟩=some (.iface t p))∧∃t p,W.cell? ⟨7,0,none⟩=some (.iface t p):=by
 have h4:=h.tail.tail.tail.tail
 obtain⟨a1,t1,hv1,hc1,_⟩:=laid_sentinel (g:=7) h4 (by kernel_rfl) (by kernel_rfl) Tryz.underlying74 rowErr Tryz.underlying237 Tryz.underlying239 rfl rfl Tryz.underlying9 (by kernel_rfl) (by kernel_rfl)
 obtain⟨a0,t0,hv0,hc0,_⟩:=laid_sentinel (g:=6) h4.tail (by kernel_rfl) (by kernel_rfl) Tryz.underlying74 rowErr Tryz.underlying237 Tryz.underlying239 rfl rfl Tryz.underlying9 (by kernel_rfl) (by kernel_rfl)
 exact⟨⟨_,_,by simpa using World.var?_cell (g:=6) (by kernel_rfl) hv0 0⟩,⟨_,_,by simpa using World.var?_cell (g:=7) (by kernel_rfl) hv1 0⟩⟩
theorem maxLen_of {W:World} (h:W.ShapedOpen Tryz.prog):∃m,W.cell? ⟨1,0,none⟩=some (.int .i64 m):=
 cell_of_shapedOpen_int (t:=3) (zero:=#[.int .i64 0]) h (of_decide_eq_true (by kernel_rfl)) (by kernel_rfl) rfl (by kernel_rfl) (by kernel_rfl) Tryz.underlying3
theorem start_glob {W:World} (h:laidMet Tryz.prog laidAll W) (hs:W.ShapedOpen Tryz.prog):Glob (startG W):={
 maxlen:=fun C w R=>by
  obtain⟨m,hm⟩:=maxLen_of hs
  exact⟨m,start_int R (by decide) hm⟩
 tabs:=fun C w R=>by
  obtain⟨h1,h2⟩:=utf8_of h
  exact⟨fun c hc=>start_int R (by decide) (h1 c hc),fun i hi=>⟨start_int R (by decide) (h2 i hi).1,start_int R (by decide) (h2 i hi).2⟩⟩
 errs:=fun C w R=>by
  obtain⟨⟨t,p,h1⟩,_⟩:=errs_of h
  exact start_err R (by decide) h1
 errr:=fun C w R=>by
  obtain⟨_,t,p,h1⟩:=errs_of h
  exact start_err R (by decide) h1 }
theorem theEnv {G:Nat→Option (List AV)} (g:Glob G) (F:FoldT G):Env G:={
 cutPre:=cutPre_ab G
 cutPreB:=by kernel_rfl
 cut:=cut_ab g
 cutB:=by kernel_rfl
 hasPre:=hasPre_ab G
 hasPreB:=by kernel_rfl
 index:=index_ab g
 indexB:=by kernel_rfl
 indexByte:=indexByte_ab G
 indexByteB:=by kernel_rfl
 dec:=dec_ab g
 decB:=by kernel_rfl }
theorem theEnvP {G:Nat→Option (List AV)} (g:Glob G):EnvP G:={
 parse:=parse_ab g
 parseB:=by kernel_rfl
 any:=any_ab G
 anyB:=by kernel_rfl }
theorem laid_heap {w w':World} (hh:w.heap=w'.heap) (h:laidMetH Tryz.prog laidAll w):laidMetH Tryz.prog laidAll w':=h.of_heap hh
theorem laidPlain {w:World}:laidMetH Tryz.prog laidAll w=laidMet Tryz.prog laidAll w:=MakeChecks.laidMetH_plain _ _ _ (by kernel_rfl)
noncomputable abbrev W0 (os:Os):World:=World.laidAll Tryz.prog os laidAll
theorem W0_met (os:Os) (args:Array Value):laidMetH Tryz.prog laidAll ((W0 os).forCall (fun _ _=>0) ⟨#[],args,[]⟩).memory:=by
 rw[laidPlain]
 exact laidMet_laidAll _ (by kernel_rfl) (by kernel_rfl)
theorem W0_shaped (os:Os) (args:Array Value):((W0 os).forCall (fun _ _=>0) ⟨#[],args,[]⟩).Shaped Tryz.prog:=World.shaped_of_ZipB (by kernel_rfl) (by kernel_rfl)
end Go.Ab
