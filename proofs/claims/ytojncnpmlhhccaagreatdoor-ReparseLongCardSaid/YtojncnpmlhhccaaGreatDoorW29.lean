/- strconv's ParseUint: the inner one's answer, with its error made public. -/
import Derived.Test.YtojncnpmlhhccaaGreatDoorW28
import Derived.Shelf.Pu.ToErrorRange
set_option linter.all false
namespace Go.Ab
open Go Go.Lib Go.Proofs Go.RowKit
theorem VRs.err5 {C:Ctx} {a b:List UInt8} {m n c:Int} {t:TypeId} {ys:Array Value} (h:VRs C [.str a,.str b,.int .i64 m,.int .i64 n,.iface t (.int .i64 c)] ys.toList):ys=#[.string ⟨a.toArray⟩,.string ⟨b.toArray⟩,.int .i64 m,.int .i64 n,.iface t (.int .i64 c)]:=by
 obtain⟨l⟩:=ys
 match l,h with
 | [y0,y1,y2,y3,y4],h=>
  have h0:=h.2 0 _ y0 rfl rfl
  have h1:=h.2 1 _ y1 rfl rfl
  have h2:=h.2 2 _ y2 rfl rfl
  have h3:=h.2 3 _ y3 rfl rfl
  have h4:=h.2 4 _ y4 rfl rfl
  cases h0;cases h1;cases h2;cases h3
  cases h4 with
  | iface t x y h5=>cases h5;rfl
 | [],h=>have:=h.1;simp at this
 | [_],h=>have:=h.1;simp at this
 | [_,_],h=>have:=h.1;simp at this
 | [_,_,_],h=>have:=h.1;simp at this
 | [_,_,_,_],h=>have:=h.1;simp at this
 | _::_::_::_::_::_::_,h=>have:=h.1;simp at this
theorem toError_ab {G:Nat→Option (List AV)} (g:Glob G) (H:AHeap) (fn s:List UInt8) (base bits c:Int) (hc:c=1∨c=2) (hs:s.length≤1000000000) :
  ACalls Tryz.prog G 170 [.str fn,.str s,.int .i64 base,.int .i64 bits,.iface 225 (.int .i64 c)] H fun r H'=>r = .ret (.iface 227 .anyp)∧Keeps H H':=by
 refine ACalls.of_calls fun C w args' R hv=>?_
 rw[VRs.err5 hv]
 have hsz:(⟨s.toArray⟩:ByteArray).size≤281474976710656:=by rw[size_of];omega
 rcases hc with rfl | rfl
 ·obtain⟨v,h1,h2⟩:=g.errr C w R
  refine(AnyPu.strconv_toError_range { Tryz.laysPu14 with } ⟨fn.toArray⟩ ⟨s.toArray⟩ base bits v w hsz h1 h2).mono ?_
  rintro e w' ⟨N,rfl,_,_,B⟩
  exact⟨⟨_,rfl,VR.iface _ _ _ (VR.anyp _)⟩,B⟩
 ·obtain⟨v,h1,h2⟩:=g.errs C w R
  refine(AnyPu.strconv_toError_syntax { Tryz.laysPu14 with } ⟨fn.toArray⟩ ⟨s.toArray⟩ base bits v w hsz h1 h2).mono ?_
  rintro e w' ⟨N,rfl,_,_,B⟩
  exact⟨⟨_,rfl,VR.iface _ _ _ (VR.anyp _)⟩,B⟩
theorem parse_ab {G:Nat→Option (List AV)} (g:Glob G) (H:AHeap) (l:List UInt8) (base:Nat) (hb:base=10∨base=16) (hl:l.length≤1000000000) :
  ACalls Tryz.prog G 157 [.str l,.int .i64 base,.int .i64 31] H fun r H'=>Kept H H' ∧
  match parseS base l with
  | some n=>r = .ret (.tup [.int .u64 n,.nili])
  | none=>∃n t v,r = .ret (.tup [.int .u64 n,.iface t v]):=by
 refine ACalls.of Tryz.func157 S157_eq R157 N157 rfl rfl ?_
 simp (maxSteps:=400000) only[wF,storeA,reduceCtorEq,Nat.reduceAdd,Nat.reduceSub,Nat.reduceEqDiff,Nat.reduceLeDiff,Int.reduceToNat,Int.reduceLE,Int.reduceLT,Int.reduceAdd,Int.reduceNeg,Nat.reduceMul,S157,N157,R157,T157,eqNeq,AV.isConst,Bool.or_true]
 refine AInv.call B169 (inner_ok G H l base hb hl) ?_
 rintro r H1 ⟨hk,hr⟩
 split at hr
 ·rename_i n hn
  subst hr
  simp (maxSteps:=400000) only[wF,storeA,reduceCtorEq,Nat.reduceAdd,Nat.reduceSub,Nat.reduceEqDiff,Nat.reduceLeDiff,Int.reduceToNat,Int.reduceLE,Int.reduceLT,Int.reduceAdd,Int.reduceNeg,Nat.reduceMul,T157,eqNeq,AV.isConst,Bool.or_true]
  exact⟨hk,by rw[hn]⟩
 ·rename_i hn
  obtain⟨n,c,hc,rfl⟩:=hr
  simp (maxSteps:=400000) only[wF,storeA,reduceCtorEq,Nat.reduceAdd,Nat.reduceSub,Nat.reduceEqDiff,Nat.reduceLeDiff,Int.reduceToNat,Int.reduceLE,Int.reduceLT,Int.reduceAdd,Int.reduceNeg,Nat.reduceMul,T157,eqNeq,AV.isConst,Bool.or_true]
  refine AInv.call B170 (toError_ab g H1 _ _ _ _ c hc hl) ?_
  rintro r H2 ⟨rfl,h2⟩
  simp (maxSteps:=400000) only[wF,storeA,reduceCtorEq,Nat.reduceAdd,Nat.reduceSub,Nat.reduceEqDiff,Nat.reduceLeDiff,Int.reduceToNat,Int.reduceLE,Int.reduceLT,Int.reduceAdd,Int.reduceNeg,Nat.reduceMul,T157,eqNeq,AV.isConst,Bool.or_true]
  exact⟨hk.trans h2.kept,by rw[hn];exact⟨_,_,_,rfl⟩⟩
end Go.Ab
