/- References, walked. -/
import Derived.Test.YtojncnpmlhhccaaGreatDoorCodes1
import Derived.Test.YtojncnpmlhhccaaGreatDoorW7
set_option linter.all false
namespace Go.Ab
open Go Go.Lib Go.Proofs
theorem Weak.builder (G:Nat→Option (List AV)) {H:AHeap} {k:Nat} (hk:H.get k=some (.cells 69 [.nilp,.nils])) (hkn:k<H.next) :
  ∃H',(∀a,Weak G a H a H')∧BldAt H' k H.next []∧H'.next=H.next+1∧∀j,j≠k→j≠H.next→H'.get j=H.get j:=by
 refine⟨⟨H.next+1,fun j=>if j=H.next then some (.row 5 1 [])else if j=k then some (.cells 69 [.nilp,.slc H.next 0])else H.get j⟩,fun a=>Weak.nilRow H.next 5 1 (Nat.le_refl _) (Nat.lt_succ_self _) (by simp) ?_ (Tzs.refl a),⟨.nilp,.inl rfl,?_,?_⟩,rfl,?_⟩
 ·intro j
  by_cases h1:j=H.next
  ·exact .inl h1
  ·by_cases h2:j=k
   ·subst h2
    exact .inr (.inr ⟨_,.cells 69 [.nilp,.slc H.next 0],hk,by simp[h1],.cells _ _ _ (show Tzs _ _ _ _ _ from ⟨.same _,.nil _ rfl,trivial⟩)⟩)
   ·cases hg:H.get j with
    | none=>exact .inr (.inl (by simp[h1,h2,hg]))
    | some o=>exact .inr (.inr ⟨o,o,rfl,by simp[h1,h2,hg],.same o⟩)
 ·have:k≠H.next:=by omega
  simp[this]
 ·simp[bytesA]
 ·intro j h1 h2
  simp[h1,h2]
structure EnvP (G:Nat→Option (List AV)):Prop where
 parse:∀(H:AHeap) (l:List UInt8) (base:Nat),base=10∨base=16→l.length≤1000000000→ACalls Tryz.prog G 157 [.str l,.int .i64 base,.int .i64 31] H fun r H'=>Kept H H' ∧
  match parseS base l with
  | some n=>r = .ret (.tup [.int .u64 n,.nili])
  | none=>∃n t v,r = .ret (.tup [.int .u64 n,.iface t v])
 parseB:bodyT Tryz.prog 157=true
 any:∀(l:List UInt8) (base n:Nat),parseS base l=some n→l.length≤1000000000→PureCall Tryz.prog G 85 [.str l,.str [43,45,95]] (.bool false)
 anyB:bodyT Tryz.prog 85=true
theorem isCharS_valid {n:Int} (h:isCharS n=true):(0≤n∧n<55296)∨(57343<n∧n≤1114111):=by
 simp[isCharS]at h
 omega
def FromAt (m:Nat) (n:Nat) (H:AHeap) (x:Nat × Nat × AHeap):Prop:=
 (x.1=0∧BldAt x.2.2 H.next x.2.1 []∨x.1=1∧isCharS n=true∧BldAt x.2.2 H.next x.2.1 (Lib.encodeRune n))∧H.next<x.2.1∧H.next<x.2.2.next∧∀j,j<H.next→x.2.2.get j=H.get j
theorem from_ok {G:Nat→Option (List AV)} (E:EnvB G) {H:AHeap} {m n:Nat} (hm:H.get m=some (.row 3 1 [.int .i64 n])) (hn:n≤2147483647) :
  ACalls Tryz.prog G 82 [.slc m 1] H fun r H'=>r = .ret (.tup [.str (charS n).1,.int .i64 (if(charS n).2=true then 0 else 10)])∧Kept H H':=by
 refine ACalls.wf fun wf=>?_
 have hmn:=wf _ _ hm
 refine ACalls.of Tryz.func82 S82_eq R82 N82 rfl rfl ?_
 simp (maxSteps:=400000) only[wF,storeA,reduceCtorEq,Nat.reduceAdd,Nat.reduceSub,Nat.reduceEqDiff,Nat.reduceLeDiff,Int.reduceToNat,Int.reduceLE,Int.reduceLT,Int.reduceAdd,Int.reduceNeg,Nat.reduceMul,S82,N82,R82,T82,hm]
 generalize hH1:H.allocAt H.next _=H1
 have hb1:H1.get H.next=some (.cells 69 [.nilp,.nils]):=by rw[←hH1];simp
 have hn1:H1.next=H.next+1:=by rw[←hH1];simp[AHeap.next_allocAt]
 have hg1:∀j,j<H.next→H1.get j=H.get j:=fun j hj=>by rw[←hH1,AHeap.get_allocAt_ne _ _ (by omega)]
 obtain⟨H2,hw,hb2,hn2,hg2⟩:=Weak.builder G hb1 (by omega)
 rw[hn1]at hb2 hn2 hg2
 refine ATrS.weak (hw _) (ATrS.loopK (κ:=Nat × Nat × AHeap) (fun x=>[.slc m 1,.und,.und,.und,.ptr H.next 0,.und,.und,.slc m 1,.int .i64 1,.int .i64 x.1]++List.replicate 20 .und) (fun x=>x.2.2)
  (FromAt m n H) (fun x=>1-x.1) ⟨(0,H.next+1,H2),⟨.inl ⟨rfl,hb2⟩,Nat.lt_succ_self _,by simp only;omega,fun j hj=>by simp only;rw[hg2 j (by omega) (by omega),hg1 j hj]⟩,by simp[Fg],HW.refl _⟩ ?_)
 rintro⟨i,k,J⟩ ⟨hx,hk,hJn,hJ⟩
 simp only at hx hk hJn hJ
 have hJm:J.get m=some (.row 3 1 [.int .i64 n]):=by rw[hJ m hmn];exact hm
 have c0:((0:Nat):Int)=0:=rfl
 have c1:((1:Nat):Int)=1:=rfl
 rcases hx with ⟨rfl,hb⟩ | ⟨rfl,hc,hb⟩
 ·have d1:decide ((n:Int)<0)=false:=by simp
  cases d2:decide ((n:Int)>1114111)with
  | true=>
   simp (maxSteps:=400000) only[wF,storeA,reduceCtorEq,Nat.reduceAdd,Nat.reduceSub,Nat.reduceEqDiff,Nat.reduceLeDiff,Int.reduceToNat,Int.reduceLE,Int.reduceLT,Int.reduceAdd,Int.reduceNeg,Nat.reduceMul,T82,indexAddrA,hJm,c0,c1,d1,d2]
   have:charS n=([],false):=by
    have:isCharS n=false:=by simp[isCharS]at d2 ⊢;omega
    simp[charS,this]
   refine⟨by rw[this];rfl,by omega,hJ⟩
  | false=>
   have hw32:IntKind.i32.wrap (n:Int)=n:=wrap32 (by omega) (by omega)
   simp (maxSteps:=400000) only[wF,storeA,reduceCtorEq,Nat.reduceAdd,Nat.reduceSub,Nat.reduceEqDiff,Nat.reduceLeDiff,Int.reduceToNat,Int.reduceLE,Int.reduceLT,Int.reduceAdd,Int.reduceNeg,Nat.reduceMul,T82,indexAddrA,hJm,c0,c1,d1,d2,convA,hw32]
   refine AInv.pureK B58 (isChar_ok G _) fun J1 h1=>?_
   cases hc:isCharS n with
   | false=>
    simp (maxSteps:=400000) only[wF,storeA,reduceCtorEq,Nat.reduceAdd,Nat.reduceSub,Nat.reduceEqDiff,Nat.reduceLeDiff,Int.reduceToNat,Int.reduceLE,Int.reduceLT,Int.reduceAdd,Int.reduceNeg,Nat.reduceMul,T82,hc]
    have:charS n=([],false):=by simp[charS,hc]
    have h2:=h1.1
    refine⟨by rw[this];rfl,by omega,fun j hj=>by rw[h1.2];exact hJ j hj⟩
   | true=>
    simp (maxSteps:=400000) only[wF,storeA,reduceCtorEq,Nat.reduceAdd,Nat.reduceSub,Nat.reduceEqDiff,Nat.reduceLeDiff,Int.reduceToNat,Int.reduceLE,Int.reduceLT,Int.reduceAdd,Int.reduceNeg,Nat.reduceMul,T82,hc,convA,hw32]
    have hb1:BldAt J1 H.next k []:=by unfold BldAt;rw[h1.2];exact hb
    refine AInv.retK B122 (writeRune_ok E hb1 (by simp) (isCharS_valid hc)) (fun v J2 hq=>?_) (fun v J2 hq=>by obtain⟨⟨_,h⟩,_⟩:=hq;cases h)
    obtain⟨⟨q,hq⟩,k',hb2,hk',hn2,hg2⟩:=hq
    cases hq
    have h11:=h1.1
    have hw1:IntKind.i64.wrap 1=((1:Nat):Int):=by rw[wrap64]<;>omega
    simp (maxSteps:=400000) only[wF,storeA,reduceCtorEq,Nat.reduceAdd,Nat.reduceSub,Nat.reduceEqDiff,Nat.reduceLeDiff,Int.reduceToNat,Int.reduceLE,Int.reduceLT,Int.reduceAdd,Int.reduceNeg,Nat.reduceMul,T82,hw1]
    refine⟨(1,k',J2),⟨.inr ⟨rfl,hc,hb2⟩,by simp only;omega,by simp only;omega,fun j hj=>?_⟩,by simp,by simp[Fg],HW.refl _⟩
    simp only
    rw[hg2 j (by omega) (by omega) (by omega),h1.2]
    exact hJ j hj
 ·simp (maxSteps:=400000) only[wF,storeA,reduceCtorEq,Nat.reduceAdd,Nat.reduceSub,Nat.reduceEqDiff,Nat.reduceLeDiff,Int.reduceToNat,Int.reduceLE,Int.reduceLT,Int.reduceAdd,Int.reduceNeg,Nat.reduceMul,T82,c1]
  refine AInv.retK E.stringB (E.string J H.next k _ hb) (fun v J2 hq=>?_) (fun v J2 hq=>by cases hq.1)
  obtain⟨hv,hn2,hg2⟩:=hq
  cases hv
  simp (maxSteps:=400000) only[wF,storeA,reduceCtorEq,Nat.reduceAdd,Nat.reduceSub,Nat.reduceEqDiff,Nat.reduceLeDiff,Int.reduceToNat,Int.reduceLE,Int.reduceLT,Int.reduceAdd,Int.reduceNeg,Nat.reduceMul,T82]
  have:charS n=(Lib.encodeRune n,true):=by simp[charS,hc]
  refine⟨by rw[this];rfl,by omega,fun j hj=>?_⟩
  rw[hg2,AHeap.get_del_ne _ (by omega)]
  exact hJ j hj
theorem parseF_le (base:Nat):∀(l:List UInt8) (n m:Nat),n≤2147483647→parseF base n l=some m→m≤2147483647
 | [],n,m,hn,h=>by simp only[parseF,Option.some.injEq]at h;omega
 | c::l,n,m,hn,h=>by
  simp only[parseF]at h
  split at h
  ·cases h
  ·split at h
   ·rename_i hle
    exact parseF_le base l _ m hle h
   ·cases h
theorem parseS_some {base:Nat} {l:List UInt8} {n:Nat} (h:parseS base l=some n):l≠[]∧n≤2147483647:=by
 unfold parseS at h
 split at h
 ·cases h
 ·rename_i hl
  exact⟨hl,parseF_le base l 0 n (by omega) h⟩
theorem numS_none {name:List UInt8} (h:Lib.hasPrefix name [35]=false):numS name=none:=by simp[numS,h]
end Go.Ab
