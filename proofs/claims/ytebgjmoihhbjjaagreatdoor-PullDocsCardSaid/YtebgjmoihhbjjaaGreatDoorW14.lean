/- Rows of text and character data, walked. -/
import Derived.Test.YtebgjmoihhbjjaaGreatDoorW13
set_option linter.all false
namespace Go.Ab
open Go Go.Lib Go.Proofs
theorem cdataS_len {s:List UInt8} {i:Nat} (h:(cdataS s i).2.2=true):i+(cdataS s i).1.length≤(cdataS s i).2.1:=by
 unfold cdataS at h ⊢
 split at h
 ·rename_i h0
  rw[if_pos h0]
  simp only
  omega
 ·simp at h
def RowAt (s:List UInt8) (top:Bool) (i0 pid:Nat) (mk:Nat→AObj) (H:AHeap) (x:Nat × Nat × List UInt8 × Bool × AHeap):Prop:=
 x.1≤s.length∧x.2.2.1.length≤x.1∧rowL top s x.1 x.2.2.1 x.2.2.2.1=rowS top s i0∧BldAt x.2.2.2.2 H.next x.2.1 x.2.2.1∧H.next<x.2.1∧x.2.1<x.2.2.2.2.next ∧
 x.2.2.2.2.get pid=some (mk x.1)∧∀q,q<H.next→q≠pid→x.2.2.2.2.get q=H.get q
def RowPost (r:Except Wrong (List UInt8 × Bool × Nat)) (pid:Nat) (mk:Nat→AObj) (H:AHeap) (x:ARes) (H':AHeap):Prop:=
 match r with
 | .ok (row,is,i)=>x = .ret (.tup [.str row,.bool is])∧But pid (mk i) H H'
 | .error w=>x = .pan (wrongA w)∧∃i,But pid (mk i) H H'
theorem But.of {H J:AHeap} {pid:Nat} {o:AObj} (hn:H.next≤J.next) (hp:J.get pid=some o) (h:∀q,q<H.next→q≠pid→J.get q=H.get q):But pid o H J:=by
 refine⟨hn,fun q hq=>?_⟩
 by_cases h1:q=pid
 ·subst h1
  rw[hp]
  simp
 ·rw[AHeap.get_set_ne _ _ h1]
  exact h q hq h1
set_option maxHeartbeats 1000000 in
theorem row_ok {G:Nat→Option (List AV)} (E:Env G) (B:EnvB G) (P:EnvP G) {H:AHeap} {s:List UInt8} {pid i n ko:Nat} {l0 l1 l2 s0 s1 s2 an em er:AV}
  (hp:H.get pid=some (parG s i l0 l1 l2 s0 s1 s2 ko n an em er)) (hi:i≤s.length) (hs:s.length≤400000000) :
  ACalls Tryz.prog G 62 [.ptr pid 0] H (RowPost (rowS (n==0) s i) pid (fun i=>parG s i l0 l1 l2 s0 s1 s2 ko n an em er) H):=by
 refine ACalls.wf fun wf=>?_
 have hpn:=wf _ _ hp
 refine ACalls.of Tryz.func62 S62_eq R62 N62 rfl rfl ?_
 simp (maxSteps:=400000) only[wF,storeA,reduceCtorEq,Nat.reduceAdd,Nat.reduceSub,Nat.reduceEqDiff,Nat.reduceLeDiff,Int.reduceToNat,Int.reduceLE,Int.reduceLT,Int.reduceAdd,Int.reduceNeg,Nat.reduceMul,S62,N62,R62,T62]
 generalize hH1:H.allocAt H.next _=H1
 have hb1:H1.get H.next=some (.cells 90 [.nilp,.nils]):=by rw[←hH1];simp
 have hn1:H1.next=H.next+1:=by rw[←hH1];simp[AHeap.next_allocAt]
 have hg1:∀j,j<H.next→H1.get j=H.get j:=fun j hj=>by rw[←hH1,AHeap.get_allocAt_ne _ _ (by omega)]
 obtain⟨H2,hw,hb2,hn2,hg2⟩:=Weak.builder G hb1 (by omega)
 rw[hn1]at hb2 hn2 hg2
 have hp2:H2.get pid=some (parG s i l0 l1 l2 s0 s1 s2 ko n an em er):=by rw[hg2 pid (by omega) (by omega),hg1 pid hpn];exact hp
 refine ATrS.weak (hw _) (ATrS.loopK (κ:=Nat × Nat × List UInt8 × Bool × AHeap) (fun x=>[.ptr pid 0,.und,.str [],.bool false,.ptr H.next 0,.bool x.2.2.2.1]++List.replicate 81 .und) (fun x=>x.2.2.2.2)
  (RowAt s (n==0) i pid (fun i=>parG s i l0 l1 l2 s0 s1 s2 ko n an em er) H) (fun x=>s.length-x.1) ⟨(i,H.next+1,[],false,H2),⟨hi,Nat.zero_le _,rfl,hb2,Nat.lt_succ_self _,by simp only;omega,hp2,fun j hj _=>by simp only;rw[hg2 j (by omega) (by omega),hg1 j hj]⟩,by simp[Fg],HW.refl _⟩ ?_)
 clear hp hp2 hb2 hn2 hg2 hw hb1 hn1 hg1 hH1
 rintro⟨x,m,acc,is,J⟩ ⟨hx,hacc,hv,hb,hm,hmn,hpJ,hJ⟩
 simp only at hx hacc hv hb hm hmn hpJ hJ
 have hpU:=hpJ
 unfold parG at hpU
 simp (maxSteps:=400000) only[wF,storeA,reduceCtorEq,Nat.reduceAdd,Nat.reduceSub,Nat.reduceEqDiff,Nat.reduceLeDiff,Int.reduceToNat,Int.reduceLE,Int.reduceLT,Int.reduceAdd,Int.reduceNeg,Nat.reduceMul,T62]
 refine drawW_fixed mixedOrders L62_3_eq P62_3_eq ?_
 by_cases hlt:x<s.length
 ·have d0:decide ((x:Int)<(s.length:Int))=true:=by simp;omega
  have hst:=rowL_step (n==0) acc is hlt
  rw[hv]at hst
  simp (maxSteps:=400000) only[wF,storeA,reduceCtorEq,Nat.reduceAdd,Nat.reduceSub,Nat.reduceEqDiff,Nat.reduceLeDiff,Int.reduceToNat,Int.reduceLE,Int.reduceLT,Int.reduceAdd,Int.reduceNeg,Nat.reduceMul,L62_3,T62,hpU,d0]
  refine drawW_ok (ex:=false) mixedOrders L62_4_eq P62_4_eq ?_
  simp (maxSteps:=400000) only[wF,storeA,reduceCtorEq,Nat.reduceAdd,Nat.reduceSub,Nat.reduceEqDiff,Nat.reduceLeDiff,Int.reduceToNat,Int.reduceLE,Int.reduceLT,Int.reduceAdd,Int.reduceNeg,Nat.reduceMul,L62_4,T62,hpU]
  refine callW.pure B85 (cdata_ok E hx (by omega)) ?_
  simp (maxSteps:=400000) only[wF,storeA,reduceCtorEq,Nat.reduceAdd,Nat.reduceSub,Nat.reduceEqDiff,Nat.reduceLeDiff,Int.reduceToNat,Int.reduceLE,Int.reduceLT,Int.reduceAdd,Int.reduceNeg,Nat.reduceMul,T62]
  intro mm hmm
  have hb1:BldAt ⟨mm,J.get⟩ H.next m acc:=hb
  have hp1:(⟨mm,J.get⟩:AHeap).get pid=some (parG s x l0 l1 l2 s0 s1 s2 ko n an em er):=hpJ
  have f1:∀q,q<H.next→q≠pid→(⟨mm,J.get⟩:AHeap).get q=H.get q:=hJ
  have hm1:m<(⟨mm,J.get⟩:AHeap).next:=by simp only;omega
  clear hpU
  generalize (⟨mm,J.get⟩:AHeap)=J1 at hb1 hp1 f1 hm1 ⊢
  have hpU:=hp1
  unfold parG at hpU
  cases hok:(cdataS s x).2.2 with
  | true=>
   have hcb:=cdataS_bound hok
   have hcl:=cdataS_len hok
   rw[hok,if_pos rfl]at hst
   by_cases hn:n=0
   ·have dn:((n:Int)==0)=true:=by simp;omega
    have dn':(n==0)=true:=by simp[hn]
    rw[dn',if_pos rfl]at hst
    simp (maxSteps:=400000) only[wF,storeA,reduceCtorEq,Nat.reduceAdd,Nat.reduceSub,Nat.reduceEqDiff,Nat.reduceLeDiff,Int.reduceToNat,Int.reduceLE,Int.reduceLT,Int.reduceAdd,Int.reduceNeg,Nat.reduceMul,T62,hpU,dn,buildA,fillA,ifaceA,AV.boxable]
    rw[dn',hst]
    exact⟨rfl,x,But.of (by omega) hp1 f1⟩
   ·have dn:((n:Int)==0)=false:=by simp;omega
    have dn':(n==0)=false:=by simp[hn]
    rw[dn',if_neg (by simp)]at hst
    simp (maxSteps:=400000) only[wF,storeA,reduceCtorEq,Nat.reduceAdd,Nat.reduceSub,Nat.reduceEqDiff,Nat.reduceLeDiff,Int.reduceToNat,Int.reduceLE,Int.reduceLT,Int.reduceAdd,Int.reduceNeg,Nat.reduceMul,T62,hpU,dn]
    refine AInv.retK B40 (writeString_ok B hb1 (by omega)) (fun v J2 hq=>?_) (fun v J2 hq=>by cases hq.1)
    obtain⟨hq,m',hb2,hm',hn2,hg2⟩:=hq
    cases hq
    have hp2:J2.get pid=_:=(hg2 pid (by omega) (by omega) (by omega)).trans hp1
    have hpU2:=hp2
    unfold parG at hpU2
    simp (maxSteps:=400000) only[wF,storeA,reduceCtorEq,Nat.reduceAdd,Nat.reduceSub,Nat.reduceEqDiff,Nat.reduceLeDiff,Int.reduceToNat,Int.reduceLE,Int.reduceLT,Int.reduceAdd,Int.reduceNeg,Nat.reduceMul,T62,hpU2]
    refine⟨((cdataS s x).2.1,m',acc++(cdataS s x).1,true,J2.set pid (parG s (cdataS s x).2.1 l0 l1 l2 s0 s1 s2 ko n an em er)),⟨by simp only;omega,by simp only[List.length_append];omega,by simp only[dn'];exact hst.symm,?_,by simp only;omega,by simp only[AHeap.next_set];omega,by simp[parG],fun q h1 h2=>?_⟩,by simp only;omega,by simp[Fg],HW.refl _⟩
    ·obtain⟨b0,g1,g2,g3⟩:=hb2
     exact⟨b0,g1,by simp only;rw[AHeap.get_set_ne _ _ (by omega)];exact g2,by simp only;rw[AHeap.get_set_ne _ _ (by omega)];exact g3⟩
    ·simp only
     rw[AHeap.get_set_ne _ _ h2,hg2 q (by omega) (by omega) (by omega)]
     exact f1 q h1 h2
  | false=>
   rw[hok,if_neg (by simp)]at hst
   have q1:((x:Int)≤s.length)=True:=by simp;omega
   simp (maxSteps:=400000) only[wF,storeA,reduceCtorEq,Nat.reduceAdd,Nat.reduceSub,Nat.reduceEqDiff,Nat.reduceLeDiff,Int.reduceToNat,Int.reduceLE,Int.reduceLT,Int.reduceAdd,Int.reduceNeg,Nat.reduceMul,T62,hpU]
   refine drawW_ok (ex:=false) mixedOrders L62_11_eq P62_11_eq ?_
   simp (maxSteps:=400000) only[wF,storeA,reduceCtorEq,Nat.reduceAdd,Nat.reduceSub,Nat.reduceEqDiff,Nat.reduceLeDiff,Int.reduceToNat,Int.reduceLE,Int.reduceLT,Int.reduceAdd,Int.reduceNeg,Nat.reduceMul,L62_11,T62,hpU,q1]
   refine callW.pure E.indexByteB (E.indexByte _ 60) ?_
   simp (maxSteps:=400000) only[wF,storeA,reduceCtorEq,Nat.reduceAdd,Nat.reduceSub,Nat.reduceEqDiff,Nat.reduceLeDiff,Int.reduceToNat,Int.reduceLE,Int.reduceLT,Int.reduceAdd,Int.reduceNeg,Nat.reduceMul,T62]
   intro mm2 hmm2
   have hb2:BldAt ⟨mm2,J1.get⟩ H.next m acc:=hb1
   have hp2:(⟨mm2,J1.get⟩:AHeap).get pid=some (parG s x l0 l1 l2 s0 s1 s2 ko n an em er):=hp1
   have f2:∀q,q<H.next→q≠pid→(⟨mm2,J1.get⟩:AHeap).get q=H.get q:=f1
   have hm2:m<(⟨mm2,J1.get⟩:AHeap).next:=by simp only;omega
   clear hpU
   generalize (⟨mm2,J1.get⟩:AHeap)=J2 at hb2 hp2 f2 hm2 ⊢
   have hpU:=hp2
   unfold parG at hpU
   have hre:rowEnd s x=if 0<Lib.indexByte (s.drop x) 60 then x+(Lib.indexByte (s.drop x) 60).toNat else s.length:=rfl
   have hrb:=rowEnd_bound hlt
   have hge:=Lib.indexByte_ge (s.drop x) 60
   generalize rowEnd s x=end_ at hre hrb hst
   generalize Lib.indexByte (s.drop x) 60=nn at hre hst hge ⊢
   by_cases h0:nn=0
   ·have d1:(nn==0)=true:=by simp[h0]
    rw[if_pos h0]at hst
    simp (maxSteps:=400000) only[wF,storeA,reduceCtorEq,Nat.reduceAdd,Nat.reduceSub,Nat.reduceEqDiff,Nat.reduceLeDiff,Int.reduceToNat,Int.reduceLE,Int.reduceLT,Int.reduceAdd,Int.reduceNeg,Nat.reduceMul,T62,hpU,d1]
    refine AInv.retK B.stringB (B.string J2 H.next m _ hb2) (fun v J3 hq=>?_) (fun v J3 hq=>by cases hq.1)
    obtain⟨hq,hn3,hg3⟩:=hq
    cases hq
    simp (maxSteps:=400000) only[wF,storeA,reduceCtorEq,Nat.reduceAdd,Nat.reduceSub,Nat.reduceEqDiff,Nat.reduceLeDiff,Int.reduceToNat,Int.reduceLE,Int.reduceLT,Int.reduceAdd,Int.reduceNeg,Nat.reduceMul,T62]
    rw[hst]
    refine⟨rfl,But.of (by omega) ?_ (fun q h1 h2=>?_)⟩
    ·rw[hg3,AHeap.get_del_ne _ (by omega)]
     exact hp2
    ·rw[hg3,AHeap.get_del_ne _ (by omega)]
     exact f2 q h1 h2
   ·have d1:(nn==0)=false:=by simp[h0]
    rw[if_neg h0]at hst
    have tail:∀(Q:APost) (Kp:AV→AHeap→Prop) (d:Option Tmp) (a:List AV) (nx:List AV→AHeap→Prop),
      (∀(acc':List UInt8) (m':Nat) (J3:AHeap),rowL (n==0) s end_ acc' true=rowS (n==0) s i→acc'.length≤end_→BldAt J3 H.next m' acc'→H.next<m'→m'<J3.next→J3.get pid=some (parG s x l0 l1 l2 s0 s1 s2 ko n an em er)→(∀q,q<H.next→q≠pid→J3.get q=H.get q)→nx (putA a d (.tup [])) J3) →
      (∀(w:Wrong) (J3:AHeap),rowS (n==0) s i = .error w→But pid (parG s x l0 l1 l2 s0 s1 s2 ko n an em er) H J3→Kp (wrongA w) J3) →
      AInv Tryz.prog G 87 [.ptr pid 0,.ptr H.next 0,.int .i64 end_] J2 (kNext nx d a) Kp:=by
     intro Q Kp d a nx hok herr
     refine AInv.call B87 (text_ok E B P hp2 hb2 (by omega) (by omega) (by omega) hrb.2 (by omega) hacc) fun r J3 hq=>?_
     cases hpt:ptextS (n==0) (s.take end_) x acc with
     | error w=>
      rw[hpt]at hst hq
      obtain⟨hr,hn3,hg3⟩:=hq
      subst hr
      exact herr w J3 hst (But.of (by omega) ((hg3 pid (by omega) (by omega) (by omega)).trans hp2) fun q h1 h2=>by rw[hg3 q (by omega) (by omega) (by omega)];exact f2 q h1 h2)
     | ok acc'=>
      have hal:=ptextS_len (by simp;omega) hacc hpt
      rw[hpt]at hst hq
      obtain⟨hr,m',hb3,hm3,hmn3,hn3,hg3⟩:=hq
      subst hr
      refine hok acc' m' J3 hst.symm (by simp at hal;omega) hb3 (by omega) hmn3 ((hg3 pid (by omega) (by omega) (by omega)).trans hp2) fun q h1 h2=>by rw[hg3 q (by omega) (by omega) (by omega)];exact f2 q h1 h2
    have fin:∀(acc':List UInt8) (m':Nat) (J3:AHeap),rowL (n==0) s end_ acc' true=rowS (n==0) s i→acc'.length≤end_→BldAt J3 H.next m' acc'→H.next<m'→m'<J3.next→(∀q,q<H.next→q≠pid→J3.get q=H.get q) →
      RowAt s (n==0) i pid (fun i=>parG s i l0 l1 l2 s0 s1 s2 ko n an em er) H (end_,m',acc',true,J3.set pid (parG s end_ l0 l1 l2 s0 s1 s2 ko n an em er)):=by
     intro acc' m' J3 h1 h2 h3 h4 h5 h6
     refine⟨by simp only;omega,h2,h1,?_,h4,h5,by simp,fun q g1 g2=>?_⟩
     ·obtain⟨b0,g1,g2,g3⟩:=h3
      exact⟨b0,g1,by simp only;rw[AHeap.get_set_ne _ _ (by omega)];exact g2,by simp only;rw[AHeap.get_set_ne _ _ (by omega)];exact g3⟩
     ·simp only
      rw[AHeap.get_set_ne _ _ g2]
      exact h6 q g1 g2
    by_cases h1:0<nn
    ·obtain⟨n',rfl⟩:∃n':Nat,nn=n':=⟨nn.toNat,by omega⟩
     have d2:decide ((n':Int)>0)=true:=by simp;omega
     rw[if_pos h1,Int.toNat_natCast]at hre
     have e1:IntKind.i64.wrap ((x:Int)+(n':Int))=(end_:Int):=by rw[wrap64,hre]<;>omega
     simp (maxSteps:=400000) only[wF,storeA,reduceCtorEq,Nat.reduceAdd,Nat.reduceSub,Nat.reduceEqDiff,Nat.reduceLeDiff,Int.reduceToNat,Int.reduceLE,Int.reduceLT,Int.reduceAdd,Int.reduceNeg,Nat.reduceMul,T62,hpU,d1,d2,e1]
     refine tail (fun _ _ _=>True) _ _ _ _ (fun acc' m' J3 g1 g2 g3 g4 g5 g6 g7=>?_) (fun w J3 g1 g2=>?_)
     ·have hpU3:=g6
      unfold parG at hpU3
      simp (maxSteps:=400000) only[wF,storeA,reduceCtorEq,Nat.reduceAdd,Nat.reduceSub,Nat.reduceEqDiff,Nat.reduceLeDiff,Int.reduceToNat,Int.reduceLE,Int.reduceLT,Int.reduceAdd,Int.reduceNeg,Nat.reduceMul,T62,hpU3]
      exact⟨(end_,m',acc',true,J3.set pid (parG s end_ l0 l1 l2 s0 s1 s2 ko n an em er)),fin acc' m' J3 g1 g2 g3 g4 g5 g7,by simp only;omega,by simp[Fg],HW.refl _⟩
     ·simp (maxSteps:=400000) only[wF,storeA,reduceCtorEq,Nat.reduceAdd,Nat.reduceSub,Nat.reduceEqDiff,Nat.reduceLeDiff,Int.reduceToNat,Int.reduceLE,Int.reduceLT,Int.reduceAdd,Int.reduceNeg,Nat.reduceMul,T62]
      rw[g1]
      exact⟨rfl,x,g2⟩
    ·have d2:decide (nn>0)=false:=by simp;omega
     rw[if_neg h1]at hre
     subst hre
     simp (maxSteps:=400000) only[wF,storeA,reduceCtorEq,Nat.reduceAdd,Nat.reduceSub,Nat.reduceEqDiff,Nat.reduceLeDiff,Int.reduceToNat,Int.reduceLE,Int.reduceLT,Int.reduceAdd,Int.reduceNeg,Nat.reduceMul,T62,hpU,d1,d2]
     refine tail (fun _ _ _=>True) _ _ _ _ (fun acc' m' J3 g1 g2 g3 g4 g5 g6 g7=>?_) (fun w J3 g1 g2=>?_)
     ·have hpU3:=g6
      unfold parG at hpU3
      simp (maxSteps:=400000) only[wF,storeA,reduceCtorEq,Nat.reduceAdd,Nat.reduceSub,Nat.reduceEqDiff,Nat.reduceLeDiff,Int.reduceToNat,Int.reduceLE,Int.reduceLT,Int.reduceAdd,Int.reduceNeg,Nat.reduceMul,T62,hpU3]
      exact⟨(s.length,m',acc',true,J3.set pid (parG s s.length l0 l1 l2 s0 s1 s2 ko n an em er)),fin acc' m' J3 g1 g2 g3 g4 g5 g7,by simp only;omega,by simp[Fg],HW.refl _⟩
     ·simp (maxSteps:=400000) only[wF,storeA,reduceCtorEq,Nat.reduceAdd,Nat.reduceSub,Nat.reduceEqDiff,Nat.reduceLeDiff,Int.reduceToNat,Int.reduceLE,Int.reduceLT,Int.reduceAdd,Int.reduceNeg,Nat.reduceMul,T62]
      rw[g1]
      exact⟨rfl,x,g2⟩
 ·have d0:decide ((x:Int)<(s.length:Int))=false:=by simp;omega
  rw[rowL_end (n==0) acc is (by omega)]at hv
  simp (maxSteps:=400000) only[wF,storeA,reduceCtorEq,Nat.reduceAdd,Nat.reduceSub,Nat.reduceEqDiff,Nat.reduceLeDiff,Int.reduceToNat,Int.reduceLE,Int.reduceLT,Int.reduceAdd,Int.reduceNeg,Nat.reduceMul,L62_3,T62,hpU,d0]
  refine AInv.retK B.stringB (B.string J H.next m _ hb) (fun v J3 hq=>?_) (fun v J3 hq=>by cases hq.1)
  obtain⟨hq,hn3,hg3⟩:=hq
  cases hq
  simp (maxSteps:=400000) only[wF,storeA,reduceCtorEq,Nat.reduceAdd,Nat.reduceSub,Nat.reduceEqDiff,Nat.reduceLeDiff,Int.reduceToNat,Int.reduceLE,Int.reduceLT,Int.reduceAdd,Int.reduceNeg,Nat.reduceMul,T62]
  rw[←hv]
  refine⟨rfl,But.of (by omega) ?_ (fun q h1 h2=>?_)⟩
  ·rw[hg3,AHeap.get_del_ne _ (by omega)]
   exact hpJ
  ·rw[hg3,AHeap.get_del_ne _ (by omega)]
   exact hJ q h1 h2
end Go.Ab
