/- Text, walked. -/
import Derived.Test.YtebgjmoihhbjjaaGreatDoorW12
set_option linter.all false
namespace Go.Ab
open Go Go.Lib Go.Proofs
def parG (s:List UInt8) (i:Nat) (l0 l1 l2 s0 s1 s2:AV) (ko n:Nat) (an em er:AV):AObj := .cells 54 [.str s,.int .i64 i,l0,l1,l2,s0,s1,s2,.slc ko n,an,em,er]
def wrongA (w:Wrong):AV := .iface 78 (.agg [.int .i64 w.at_,.int .i64 w.e])
theorem ptextF_len (s:List UInt8) (top:Bool):∀(f i:Nat) (acc acc':List UInt8),s.length-i≤f→i≤s.length→acc.length≤i→ptextF f top s i acc = .ok acc'→acc'.length≤s.length
 | 0,i,acc,acc',hf,hi,ha,h=>by
  simp only[ptextF,Except.ok.injEq]at h
  subst h
  omega
 | f+1,i,acc,acc',hf,hi,ha,h=>by
  simp only[ptextF]at h
  split at h
  ·rename_i hl
   have hd:=dec_drop hl
   split at h
   ·split at h
    ·exact ptextF_len s top f _ _ _ (by omega) (by omega) (by omega) h
    ·cases h
   split at h
   ·split at h
    ·rename_i hr
     have:=refS_bound hr
     have:=refS_len hr
     exact ptextF_len s top f _ _ _ (by omega) (by omega) (by simp only[List.length_append];omega) h
    ·cases h
   split at h
   ·cases h
   ·exact ptextF_len s top f _ _ _ (by omega) (by omega) (by simp only[List.length_append,List.length_drop,List.length_take];omega) h
  ·cases h
   omega
theorem ptextS_len {s:List UInt8} {top:Bool} {i:Nat} {acc acc':List UInt8} (hi:i≤s.length) (ha:acc.length≤i) (h:ptextS top s i acc = .ok acc'):acc'.length≤s.length:=ptextF_len s top _ i acc acc' (Nat.le_refl _) hi ha h
def BldPost' (H:AHeap) (k j:Nat) (l:List UInt8) (H':AHeap):Prop:=
 ∃j',BldAt H' k j' l∧(j'=j∨H.next≤j')∧j'<H'.next∧H.next≤H'.next∧∀i,i<H.next→i≠k→i≠j→H'.get i=H.get i
def TextAt (S:List UInt8) (top:Bool) (i0:Nat) (acc0:List UInt8) (pid k j:Nat) (po:AObj) (H:AHeap) (x:Nat × Nat × List UInt8 × AHeap):Prop:=
 x.1≤S.length∧x.2.2.1.length≤x.1∧ptextS top S x.1 x.2.2.1=ptextS top S i0 acc0∧BldAt x.2.2.2 k x.2.1 x.2.2.1∧(x.2.1=j∨H.next≤x.2.1)∧x.2.1<x.2.2.2.next∧H.next≤x.2.2.2.next ∧
 x.2.2.2.get pid=some po∧∀i,i<H.next→i≠k→i≠j→x.2.2.2.get i=H.get i
def TextPost (r:Except Wrong (List UInt8)) (H:AHeap) (k j:Nat) (x:ARes) (H':AHeap):Prop:=
 match r with
 | .ok acc=>x = .ret (.tup [])∧BldPost' H k j acc H'
 | .error w=>x = .pan (wrongA w)∧H.next≤H'.next∧∀i,i<H.next→i≠k→i≠j→H'.get i=H.get i
set_option maxHeartbeats 1000000 in
theorem text_ok {G:Nat→Option (List AV)} (E:Env G) (B:EnvB G) (P:EnvP G) {H:AHeap} {s:List UInt8} {pid k j i n ko:Nat} {l0 l1 l2 s0 s1 s2 an em er:AV} {acc:List UInt8} {end_:Nat}
  (hp:H.get pid=some (parG s i l0 l1 l2 s0 s1 s2 ko n an em er)) (hb:BldAt H k j acc) (hpk:pid≠k) (hpj:pid≠j) (hi:i≤end_) (he:end_≤s.length) (hs:s.length≤900000000) (ha:acc.length≤i) :
  ACalls Tryz.prog G 87 [.ptr pid 0,.ptr k 0,.int .i64 end_] H (TextPost (ptextS (n==0) (s.take end_) i acc) H k j):=by
 refine ACalls.wf fun wf=>?_
 have hpn:=wf _ _ hp
 have hkn:k<H.next:=by obtain⟨_,_,h,_⟩:=hb;exact wf _ _ h
 have hjn:j<H.next:=by obtain⟨_,_,_,h⟩:=hb;exact wf _ _ h
 have hSl:(s.take end_).length=end_:=by simp;omega
 refine ACalls.of Tryz.func87 S87_eq R87 N87 rfl rfl ?_
 have q1:((end_:Int)≤s.length)=True:=by simp;omega
 have hpU:=hp
 unfold parG at hpU
 simp (maxSteps:=400000) only[wF,storeA,reduceCtorEq,Nat.reduceAdd,Nat.reduceSub,Nat.reduceEqDiff,Nat.reduceLeDiff,Int.reduceToNat,Int.reduceLE,Int.reduceLT,Int.reduceAdd,Int.reduceNeg,Nat.reduceMul,S87,N87,R87,T87,hpU,q1]
 clear hpU
 generalize hSd:s.take end_=S at hSl ⊢
 refine ATrS.loopK (κ:=Nat × Nat × List UInt8 × AHeap) (fun x=>[.ptr pid 0,.ptr k 0,.int .i64 end_,.und,.und,.und,.str S,.int .i64 x.1]++List.replicate 89 .und) (fun x=>x.2.2.2)
  (TextAt S (n==0) i acc pid k j (parG s i l0 l1 l2 s0 s1 s2 ko n an em er) H) (fun x=>S.length-x.1) ⟨(i,j,acc,H),⟨by simp only;omega,ha,rfl,hb,.inl rfl,hjn,Nat.le_refl _,hp,fun _ _ _ _=>rfl⟩,by simp[Fg],HW.refl _⟩ ?_
 clear hp hb ha
 rintro⟨x,m,acc',J⟩ ⟨hx,hacc,hv,hb,hm,hmn,hJn,hpJ,hJ⟩
 simp only at hx hacc hv hb hm hmn hJn hpJ hJ
 unfold parG at hpJ
 by_cases hlt:x<S.length
 ·have d0:decide ((x:Int)<(end_:Int))=true:=by simp;omega
  have hd:=dec_drop hlt
  have hst:=ptextS_step (n==0) acc' hlt
  rw[hv]at hst
  have q2:((x:Int)≤S.length)=True:=by simp;omega
  have hget:S[x]?=some (S.getD x 0):=by simp[List.getD,List.getElem?_eq_getElem hlt]
  generalize S.getD x 0=c at hget hst
  simp (maxSteps:=400000) only[wF,storeA,reduceCtorEq,Nat.reduceAdd,Nat.reduceSub,Nat.reduceEqDiff,Nat.reduceLeDiff,Int.reduceToNat,Int.reduceLE,Int.reduceLT,Int.reduceAdd,Int.reduceNeg,Nat.reduceMul,T87,d0,q2]
  refine AInv.pureK E.decB (E.dec _ (drop_ne hlt)) fun J1 j1=>?_
  have hpJ1:=hpJ
  rw[←j1.2]at hpJ1
  have hb1:BldAt J1 k m acc':=by unfold BldAt;rw[j1.2];exact hb
  have n1:=j1.1
  have f1:∀i,i<H.next→i≠k→i≠j→J1.get i=H.get i:=fun i h1 h2 h3=>by rw[j1.2];exact hJ i h1 h2 h3
  generalize hdr:(dec (S.drop x)).1=r at hst
  generalize hdw:(dec (S.drop x)).2=w at hd hst
  have e1:IntKind.i64.wrap ((x:Int)+(w:Int))=((x+w:Nat):Int):=by rw[wrap64]<;>omega
  by_cases hn:n=0
  ·have dn:((n:Int)==0)=true:=by simp;omega
   have dn':(n==0)=true:=by simp[hn]
   rw[dn']at hst hv ⊢
   rw[if_pos rfl]at hst
   simp (maxSteps:=400000) only[wF,storeA,reduceCtorEq,Nat.reduceAdd,Nat.reduceSub,Nat.reduceEqDiff,Nat.reduceLeDiff,Int.reduceToNat,Int.reduceLE,Int.reduceLT,Int.reduceAdd,Int.reduceNeg,Nat.reduceMul,T87,hpJ1,dn,hget]
   refine AInv.pureK B84 (white_ok G c) fun J2 j2=>?_
   have hpJ2:=hpJ1
   rw[←j2.2]at hpJ2
   have n2:=j2.1
   have f2:∀i,i<H.next→i≠k→i≠j→J2.get i=H.get i:=fun i h1 h2 h3=>by rw[j2.2];exact f1 i h1 h2 h3
   cases hw:isW c with
   | true=>
    rw[hw,if_pos rfl]at hst
    simp (maxSteps:=400000) only[wF,storeA,reduceCtorEq,Nat.reduceAdd,Nat.reduceSub,Nat.reduceEqDiff,Nat.reduceLeDiff,Int.reduceToNat,Int.reduceLE,Int.reduceLT,Int.reduceAdd,Int.reduceNeg,Nat.reduceMul,T87,hpJ2,dn,e1]
    exact⟨(x+w,m,acc',J2),⟨by simp only;omega,by simp only;omega,by simp only;exact hst.symm,by unfold BldAt;simp only;rw[j2.2];exact hb1,hm,by simp only;omega,by simp only;omega,hpJ2,f2⟩,by simp only;omega,by simp[Fg],HW.refl _⟩
   | false=>
    rw[hw,if_neg (by simp)]at hst
    simp (maxSteps:=400000) only[wF,storeA,reduceCtorEq,Nat.reduceAdd,Nat.reduceSub,Nat.reduceEqDiff,Nat.reduceLeDiff,Int.reduceToNat,Int.reduceLE,Int.reduceLT,Int.reduceAdd,Int.reduceNeg,Nat.reduceMul,T87,hpJ2,buildA,fillA,ifaceA,AV.boxable]
    rw[hst]
    exact⟨rfl,by omega,f2⟩
  ·have dn:((n:Int)==0)=false:=by simp;omega
   have dn':(n==0)=false:=by simp[hn]
   rw[dn']at hst hv ⊢
   rw[if_neg (by simp)]at hst
   cases d38:(((r:Nat):Int)==38)with
   | true=>
    have hr38:r=38:=by simp at d38;omega
    rw[if_pos hr38]at hst
    simp (maxSteps:=400000) only[wF,storeA,reduceCtorEq,Nat.reduceAdd,Nat.reduceSub,Nat.reduceEqDiff,Nat.reduceLeDiff,Int.reduceToNat,Int.reduceLE,Int.reduceLT,Int.reduceAdd,Int.reduceNeg,Nat.reduceMul,T87,hpJ1,dn,hdr,hdw,d38]
    refine AInv.retK B112 (reference_ok E B P hlt (by omega) J1) (fun v J2 hq=>?_) (fun v J2 hq=>by cases hq.1)
    obtain⟨hq,hJ2⟩:=hq
    cases hq
    have n2:=hJ2.1
    have f2:∀i,i<H.next→i≠k→i≠j→J2.get i=H.get i:=fun i h1 h2 h3=>by rw[hJ2.2 i (by omega)];exact f1 i h1 h2 h3
    have hb2:BldAt J2 k m acc':=by
     obtain⟨b0,g1,g2,g3⟩:=hb1
     exact⟨b0,g1,by rw[hJ2.2 _ (by omega)];exact g2,by rw[hJ2.2 _ (by omega)];exact g3⟩
    have hpJ2:J2.get pid=_:=(hJ2.2 pid (by omega)).trans hpJ1
    cases hok:(refS S x).2.2 with
    | false=>
     rw[hok,if_neg (by simp)]at hst
     simp (maxSteps:=400000) only[wF,storeA,reduceCtorEq,Nat.reduceAdd,Nat.reduceSub,Nat.reduceEqDiff,Nat.reduceLeDiff,Int.reduceToNat,Int.reduceLE,Int.reduceLT,Int.reduceAdd,Int.reduceNeg,Nat.reduceMul,T87,buildA,fillA,ifaceA,AV.boxable]
     rw[hst]
     exact⟨rfl,by omega,f2⟩
    | true=>
     have hrb:=refS_bound hok
     have hrl:=refS_len hok
     rw[hok,if_pos rfl]at hst
     have e2:IntKind.i64.wrap (((refS S x).2.1:Int)-(x:Int))=(((refS S x).2.1-x:Nat):Int):=by rw[wrap64]<;>omega
     have e3:IntKind.i64.wrap ((x:Int)+(((refS S x).2.1-x:Nat):Int))=((refS S x).2.1:Int):=by rw[wrap64]<;>omega
     simp (maxSteps:=400000) only[wF,storeA,reduceCtorEq,Nat.reduceAdd,Nat.reduceSub,Nat.reduceEqDiff,Nat.reduceLeDiff,Int.reduceToNat,Int.reduceLE,Int.reduceLT,Int.reduceAdd,Int.reduceNeg,Nat.reduceMul,T87]
     refine AInv.retK B40 (writeString_ok B hb2 (by omega)) (fun v J3 hq=>?_) (fun v J3 hq=>by cases hq.1)
     obtain⟨hq,m',hb3,hm',hn3,hg3⟩:=hq
     cases hq
     simp (maxSteps:=400000) only[wF,storeA,reduceCtorEq,Nat.reduceAdd,Nat.reduceSub,Nat.reduceEqDiff,Nat.reduceLeDiff,Int.reduceToNat,Int.reduceLE,Int.reduceLT,Int.reduceAdd,Int.reduceNeg,Nat.reduceMul,T87,e2,e3]
     have hpm:pid≠m:=by omega
     refine⟨((refS S x).2.1,m',acc'++(refS S x).1,J3),⟨by simp only;omega,by simp only[List.length_append];omega,by simp only;exact hst.symm,hb3,.inr (by simp only;omega),by simp only;omega,by simp only;omega,?_,fun i h1 h2 h3=>?_⟩,by simp only;omega,by simp[Fg],HW.refl _⟩
     ·exact(hg3 pid (by omega) hpk hpm).trans hpJ2
     ·simp only
      rw[hg3 i (by omega) h2 (by omega)]
      exact f2 i h1 h2 h3
   | false=>
    have hr38:¬r=38:=by simp at d38;omega
    rw[if_neg hr38]at hst
    simp (maxSteps:=400000) only[wF,storeA,reduceCtorEq,Nat.reduceAdd,Nat.reduceSub,Nat.reduceEqDiff,Nat.reduceLeDiff,Int.reduceToNat,Int.reduceLE,Int.reduceLT,Int.reduceAdd,Int.reduceNeg,Nat.reduceMul,T87,hpJ1,dn,hdr,hdw,d38,q2]
    refine AInv.pureK E.hasPreB (E.hasPre _ _) fun J2 j2=>?_
    have hpJ2:=hpJ1
    rw[←j2.2]at hpJ2
    have n2:=j2.1
    have hb2:BldAt J2 k m acc':=by unfold BldAt;rw[j2.2];exact hb1
    have f2:∀i,i<H.next→i≠k→i≠j→J2.get i=H.get i:=fun i h1 h2 h3=>by rw[j2.2];exact f1 i h1 h2 h3
    cases hcend:Lib.hasPrefix (S.drop x) [93,93,62]with
    | true=>
     rw[if_pos (by simpa[sCend]using hcend)]at hst
     simp (maxSteps:=400000) only[wF,storeA,reduceCtorEq,Nat.reduceAdd,Nat.reduceSub,Nat.reduceEqDiff,Nat.reduceLeDiff,Int.reduceToNat,Int.reduceLE,Int.reduceLT,Int.reduceAdd,Int.reduceNeg,Nat.reduceMul,T87,buildA,fillA,ifaceA,AV.boxable]
     rw[hst]
     exact⟨rfl,by omega,f2⟩
    | false=>
     rw[if_neg (by simp[sCend,hcend])]at hst
     have q3:((x:Int)≤((x+w:Nat):Int))=True:=by simp;omega
     have q4:(((x+w:Nat):Int)≤S.length)=True:=by simp;omega
     simp (maxSteps:=400000) only[wF,storeA,reduceCtorEq,Nat.reduceAdd,Nat.reduceSub,Nat.reduceEqDiff,Nat.reduceLeDiff,Int.reduceToNat,Int.reduceLE,Int.reduceLT,Int.reduceAdd,Int.reduceNeg,Nat.reduceMul,T87,e1,q3,q4]
     refine AInv.retK B40 (writeString_ok B hb2 (by simp;omega)) (fun v J3 hq=>?_) (fun v J3 hq=>by cases hq.1)
     obtain⟨hq,m',hb3,hm',hn3,hg3⟩:=hq
     cases hq
     simp (maxSteps:=400000) only[wF,storeA,reduceCtorEq,Nat.reduceAdd,Nat.reduceSub,Nat.reduceEqDiff,Nat.reduceLeDiff,Int.reduceToNat,Int.reduceLE,Int.reduceLT,Int.reduceAdd,Int.reduceNeg,Nat.reduceMul,T87,e1]
     have hpm:pid≠m:=by omega
     refine⟨(x+w,m',acc'++(S.take (x+w)).drop x,J3),⟨by simp only;omega,by simp only[List.length_append,List.length_drop,List.length_take];omega,by simp only;exact hst.symm,hb3,.inr (by simp only;omega),by simp only;omega,by simp only;omega,?_,fun i h1 h2 h3=>?_⟩,by simp only;omega,by simp[Fg],HW.refl _⟩
     ·exact(hg3 pid (by omega) hpk hpm).trans hpJ2
     ·simp only
      rw[hg3 i (by omega) h2 (by omega)]
      exact f2 i h1 h2 h3
 ·have d0:decide ((x:Int)<(end_:Int))=false:=by simp;omega
  rw[ptextS_end (n==0) acc' (by omega)]at hv
  simp (maxSteps:=400000) only[wF,storeA,reduceCtorEq,Nat.reduceAdd,Nat.reduceSub,Nat.reduceEqDiff,Nat.reduceLeDiff,Int.reduceToNat,Int.reduceLE,Int.reduceLT,Int.reduceAdd,Int.reduceNeg,Nat.reduceMul,T87,d0]
  rw[←hv]
  exact⟨rfl,m,hb,hm,hmn,hJn,hJ⟩
end Go.Ab
