/- The places of characters, walked. -/
import Derived.Test.YtebgjmoihhbjjaaGreatDoorW11
set_option linter.all false
namespace Go.Ab
open Go Go.Lib Go.Proofs
def parserO (s:List UInt8) (i:AV) (l0 l1 l2:AV) (a l c:Nat) (o an em er:AV):AObj := .cells 54 [.str s,i,l0,l1,l2,.int .i64 a,.int .i64 l,.int .i64 c,o,an,em,er]
def posO (x:Pos):AObj := .cells 51 [.int .i64 x.1,.int .i64 x.2.1,.int .i64 x.2.2]
def posA (x:Pos):AV := .agg [.int .i64 x.1,.int .i64 x.2.1,.int .i64 x.2.2]
theorem step1_fst (s:List UInt8) (x:Pos):(step1 s x).1=x.1+(dec (s.drop x.1)).2:=by
  simp only[step1];split<;>rfl
theorem findF_stable {s:List UInt8} {at_:Nat} (hat:at_≤s.length):∀(f:Nat) (x:Pos),at_-x.1≤f→findF s at_ f x=findF s at_ (at_-x.1) x
  | 0,x,h=>by rw[show at_-x.1=0 by omega]
  | f+1,x,h=>by
    by_cases hx:x.1<at_
    · have h1:1≤(dec (s.drop x.1)).2:=dec_pos (drop_ne (by omega))
      obtain⟨g,hg⟩:∃g,at_-x.1=g+1:=⟨at_-x.1-1,by omega⟩
      rw[hg]
      simp only[findF,if_pos hx]
      rw[findF_stable hat f _ (by rw[step1_fst];omega),findF_stable hat g _ (by rw[step1_fst];omega)]
    · rw[show at_-x.1=0 by omega]
      simp only[findF,if_neg hx]
theorem findS_step {s:List UInt8} {at_:Nat} (hat:at_≤s.length) {x:Pos} (hx:x.1<at_):findS s at_ x=findS s at_ (step1 s x):=by
  have h1:1≤(dec (s.drop x.1)).2:=dec_pos (drop_ne (by omega))
  unfold findS
  obtain⟨g,hg⟩:∃g,at_-x.1=g+1:=⟨at_-x.1-1,by omega⟩
  rw[hg]
  simp only[findF,if_pos hx]
  rw[findF_stable hat g _ (by rw[step1_fst];omega)]
theorem findS_end {s:List UInt8} {at_:Nat} {x:Pos} (hx:¬x.1<at_):findS s at_ x=x:=by
  unfold findS;rw[show at_-x.1=0 by omega];rfl
theorem findF_bound {s:List UInt8} {at_:Nat} (hat:at_≤s.length):∀(f:Nat) (x:Pos),x.1≤s.length→x.2.1≤x.1+1→x.2.2≤x.1+1→(findF s at_ f x).1≤s.length∧(findF s at_ f x).2.1≤(findF s at_ f x).1+1∧(findF s at_ f x).2.2≤(findF s at_ f x).1+1
  | 0,x,h1,h2,h3=>⟨h1,h2,h3⟩
  | f+1,x,h1,h2,h3=>by
    simp only[findF]
    split
    · rename_i hx
      have hd:=dec_drop (show x.1<s.length by omega)
      refine findF_bound hat f _ ?_ ?_ ?_<;>(simp only[step1];split<;>simp only<;>omega)
    · exact⟨h1,h2,h3⟩
theorem findS_bound {s:List UInt8} {at_:Nat} (hat:at_≤s.length) {x:Pos} (h1:x.1≤s.length) (h2:x.2.1≤x.1+1) (h3:x.2.2≤x.1+1):(findS s at_ x).1≤s.length∧(findS s at_ x).2.1≤(findS s at_ x).1+1∧(findS s at_ x).2.2≤(findS s at_ x).1+1:=
  findF_bound hat _ x h1 h2 h3
theorem find_ok {G:Nat→Option (List AV)} (E:Env G) {H:AHeap} {pid:Nat} {s:List UInt8} {i l0 l1 l2:AV} {a l c:Nat} {o an em er:AV} (hp:H.get pid=some (parserO s i l0 l1 l2 a l c o an em er)) {at_:Nat} (hat:at_≤s.length) (hs:s.length≤1000000000)
    (hl:l≤a+1) (hc:c≤a+1) (ha:a≤s.length)
   : ACalls Tryz.prog G 34 [.ptr pid 0,.int .i64 at_] H fun r H'=>r = .ret (posA (findS s at_ (a,l,c)))∧But pid (parserO s i l0 l1 l2 (findS s at_ (a,l,c)).1 (findS s at_ (a,l,c)).2.1 (findS s at_ (a,l,c)).2.2 o an em er) H H':=by
  refine ACalls.wf fun wf=>?_
  have hlt:=wf _ _ hp
  have hne:pid≠H.next:=by omega
  have hne1:pid≠H.next+1:=by omega
  unfold parserO at hp
  refine ACalls.of Tryz.func34 S34_eq R34 N34 rfl rfl ?_
  simp (maxSteps:=400000) only[wF,storeA,reduceCtorEq,Nat.reduceAdd,Nat.reduceSub,Nat.reduceEqDiff,Nat.reduceLeDiff,Int.reduceToNat,Int.reduceLE,Int.reduceLT,Int.reduceAdd,Int.reduceNeg,Nat.reduceMul,S34,N34,R34,T34,hp,hne,hne1,hne.symm,hne1.symm]
  refine ATrS.loopK (κ:=(Nat × Nat × Nat) × AHeap) (fun x=>[.ptr pid 0,.int .i64 at_,.und,.und,.ptr H.next 0,.ptr (H.next+1) 0]++List.replicate 42 .und) (fun x=>x.2)
    (fun x=>x.2.get (H.next+1)=some (posO x.1)∧x.2.get H.next=some (posO (0,0,0))∧(∀k,k<H.next→x.2.get k=H.get k)∧H.next≤x.2.next∧findS s at_ x.1=findS s at_ (a,l,c)∧x.1.1≤s.length∧x.1.2.1≤x.1.1+1∧x.1.2.2≤x.1.1+1) (fun x=>at_-x.1.1)
    ⟨((a,l,c),_),⟨?_,?_,?_,?_,rfl,ha,hl,hc⟩,?_,HW.refl _⟩ ?_
  · simp[AHeap.get_allocAt,AHeap.get_set,posO]
  · simp[AHeap.get_allocAt,AHeap.get_set,posO]
  · intro k hk
    have h1:k≠H.next:=by omega
    have h2:k≠H.next+1:=by omega
    simp[AHeap.get_allocAt,AHeap.get_set,h1,h2]
  · simp only[AHeap.next_set,AHeap.next_allocAt]
    omega
  · simp[Fg]
  rintro⟨⟨x,y,z⟩,J⟩ ⟨hJ1,hJ3,hJk,hJn,hfs,hx0,hy0,hz0⟩
  simp only at hJ1 hJ3 hJk hJn hfs hx0 hy0 hz0
  have hJ2:=hJk pid hlt
  rw[hp]at hJ2
  simp only[posO]at hJ1 hJ3
  simp (maxSteps:=400000) only[wF,storeA,reduceCtorEq,Nat.reduceAdd,Nat.reduceSub,Nat.reduceEqDiff,Nat.reduceLeDiff,Int.reduceToNat,Int.reduceLE,Int.reduceLT,Int.reduceAdd,Int.reduceNeg,Nat.reduceMul,T34,hJ1,hJ2,hJ3,hne,hne1,hne.symm,hne1.symm]
  refine condS.split (fun hx=>?_) (fun hx=>?_)
  · have hx':x<at_:=by simp at hx;omega
    have hxs:((x:Int)≤s.length)=True:=by simp;omega
    have hdx:=dec_drop (show x<s.length by omega)
    refine drawW_ok (ex:=false) mixedOrders L34_3_eq P34_3_eq ?_
    simp (maxSteps:=400000) only[wF,storeA,reduceCtorEq,Nat.reduceAdd,Nat.reduceSub,Nat.reduceEqDiff,Nat.reduceLeDiff,Int.reduceToNat,Int.reduceLE,Int.reduceLT,Int.reduceAdd,Int.reduceNeg,Nat.reduceMul,L34_3,T34,hJ1,hJ2,hne,hne1,hne.symm,hne1.symm,hxs]
    refine callW.pure E.decB (E.dec _ (drop_ne (by omega))) ?_
    simp (maxSteps:=400000) only[wF,storeA,reduceCtorEq,Nat.reduceAdd,Nat.reduceSub,Nat.reduceEqDiff,Nat.reduceLeDiff,Int.reduceToNat,Int.reduceLE,Int.reduceLT,Int.reduceAdd,Int.reduceNeg,Nat.reduceMul,T34,hJ1,hJ2,hne,hne1,hne.symm,hne1.symm]
    have w1:IntKind.i64.wrap ((x:Int)+((dec (s.drop x)).2:Int))=((x+(dec (s.drop x)).2:Nat):Int):=by rw[wrap64]<;>omega
    have w2:IntKind.i64.wrap ((z:Int)+1)=((z+1:Nat):Int):=by rw[wrap64]<;>omega
    have w3:IntKind.i64.wrap ((y:Int)+1)=((y+1:Nat):Int):=by rw[wrap64]<;>omega
    simp only[w1,w2,w3]
    have hstep:=findS_step hat (x:=(x,y,z)) hx'
    have keep:∀(m:Nat) (o1:AObj),∀k,k<H.next→((⟨m,J.get⟩:AHeap).set (H.next+1) o1).get k=H.get k:=by
      intro m o1 k hk
      rw[AHeap.get_set_ne _ _ (by omega)]
      exact hJk k hk
    intro m hm
    refine condS.split (fun h10=>?_) (fun h10=>?_)
    · have h10':(dec (s.drop x)).1=10:=by simp at h10;omega
      simp (maxSteps:=400000) only[wF,storeA,reduceCtorEq,Nat.reduceAdd,Nat.reduceSub,Nat.reduceEqDiff,Nat.reduceLeDiff,Int.reduceToNat,Int.reduceLE,Int.reduceLT,Int.reduceAdd,Int.reduceNeg,Nat.reduceMul,T34,hJ1,hJ2,hne,hne1,hne.symm,hne1.symm]
      simp only[w1,w2,w3]
      have e1:step1 s (x,y,z)=(x+(dec (s.drop x)).2,y+1,1):=by simp only[step1,h10',if_true]
      refine⟨((x+(dec (s.drop x)).2,y+1,1),_),⟨by simp[AHeap.get_set,posO],?_,fun k hk=>?_,?_,?_,by simp only;omega,by simp only;omega,by simp only;omega⟩,by simp only;omega,?_,HW.refl _⟩
      · simp[AHeap.get_set,hJ3,posO]
      · simp only[AHeap.get_set,show k≠H.next+1 by omega,if_false];exact hJk k hk
      · simp;omega
      · rw[←e1,←hstep];exact hfs
      · simp[Fg]
    · have h10':¬(dec (s.drop x)).1=10:=by simp at h10;omega
      simp (maxSteps:=400000) only[wF,storeA,reduceCtorEq,Nat.reduceAdd,Nat.reduceSub,Nat.reduceEqDiff,Nat.reduceLeDiff,Int.reduceToNat,Int.reduceLE,Int.reduceLT,Int.reduceAdd,Int.reduceNeg,Nat.reduceMul,T34]
      have e1:step1 s (x,y,z)=(x+(dec (s.drop x)).2,y,z+1):=by simp only[step1,if_neg h10']
      refine⟨((x+(dec (s.drop x)).2,y,z+1),_),⟨by simp[AHeap.get_set,posO],?_,fun k hk=>?_,?_,?_,by simp only;omega,by simp only;omega,by simp only;omega⟩,by simp only;omega,?_,HW.refl _⟩
      · simp[AHeap.get_set,hJ3,posO]
      · simp only[AHeap.get_set,show k≠H.next+1 by omega,if_false];exact hJk k hk
      · simp;omega
      · rw[←e1,←hstep];exact hfs
      · simp[Fg]
  · have hx':¬x<at_:=by simp at hx;omega
    simp (maxSteps:=400000) only[wF,storeA,reduceCtorEq,Nat.reduceAdd,Nat.reduceSub,Nat.reduceEqDiff,Nat.reduceLeDiff,Int.reduceToNat,Int.reduceLE,Int.reduceLT,Int.reduceAdd,Int.reduceNeg,Nat.reduceMul,T34,hJ1,hJ2,hJ3,hne,hne1,hne.symm,hne1.symm]
    rw[findS_end (x:=(x,y,z)) hx']at hfs
    simp only[←hfs]
    refine⟨rfl,?_,fun k hk=>?_⟩
    · exact hJn
    · have h1:k≠H.next:=by omega
      simp only[AHeap.get_set,h1,if_false,parserO]
      split
      · rfl
      · exact hJk k hk
end Go.Ab
