/- The reference of reparse: the events of a text, walked. -/
import Derived.Test.YtojncnpmlhhccaaGreatDoorQB
set_option linter.all false
namespace Go.Ab
open Go Go.Lib Go.Proofs
theorem awpS_mono {P:Program} {G:Nat→Option (List AV)}:∀(s:SC) (Q Q':APost) (a:List AV) (H:AHeap),(∀e a H,Q e a H→Q' e a H)→awpS P G s Q a H→awpS P G s Q' a H:=by
 intro s
 have opsMono:∀(Q Q':APost),(∀e a H,Q e a H→Q' e a H)→∀(l:List MOp) (a:List AV) (H:AHeap),opsS P G Q l a H→opsS P G Q' l a H:=by
  intro Q Q' hq l
  have opMono2:∀(op:Op) (dst:Option Tmp) (a:List AV) (H:AHeap) (next:List AV→AHeap→Prop),opS P G op dst a H next Q→opS P G op dst a H next Q':=by
   intro op dst a H next h
   unfold opS at h ⊢
   split at h
   ·split at h
    ·rcases h with ⟨hb,hc⟩ | hext
     ·exact .inl ⟨hb,hc.mono fun r H' hr=>by cases r<;>first | exact hr | exact hq _ _ _ hr⟩
     ·exact .inr hext
    ·rcases h with ⟨hb,hc⟩ | hext
     ·exact .inl ⟨hb,hc.mono fun r H' hr=>by cases r<;>first | exact hr | exact hq _ _ _ hr⟩
     ·exact .inr hext
    ·exact h
    ·exact h.elim
   ·split at h
    ·exact hq _ _ _ h
    ·exact h.elim
   ·exact h
  induction l with
  | nil=>intro a H h;exact hq _ _ _ h
  | cons o rest ih=>
   intro a H h
   simp only[opsS]at h ⊢
   split at h
   ·exact opMono2 _ _ _ _ _ (opS_mono ih h)
   ·split at h
    ·exact⟨fun e=>opMono2 _ _ _ _ _ (opS_mono ih (h.1 e)),fun e=>ih _ _ (h.2 e)⟩
    ·exact ih _ _ h
    ·exact h.elim
 induction s with
 | skip=>intro Q Q' a H hq h;exact hq _ _ _ h
 | ops l=>intro Q Q' a H hq h;exact opsMono Q Q' hq l a H h
 | seq x y ihx ihy=>
  intro Q Q' a H hq h
  refine ihx _ _ a H ?_ h
  intro e a H he
  cases e<;>first | exact ihy _ _ a H hq he | exact hq _ _ _ he
 | cond c x y ihx ihy=>
  intro Q Q' a H hq h
  simp only[awpS]at h ⊢
  split at h
  ·exact⟨fun e=>ihx _ _ _ _ hq (h.1 e),fun e=>ihy _ _ _ _ hq (h.2 e)⟩
  ·exact h.elim
 | block id b ih=>
  intro Q Q' a H hq h
  refine ih _ _ a H ?_ h
  intro e a H he
  cases e with
  | exit i=>simp only[blockA]at he ⊢;split at he<;>(rename_i hi;simp only[hi,if_true,if_false];exact hq _ _ _ he)
  | _=>exact hq _ _ _ he
 | loop b _=>intro Q Q' a H hq h;exact ATrS.mono h hq
 | exit id=>intro Q Q' a H hq h;exact hq _ _ _ h
 | ret=>intro Q Q' a H hq h;exact hq _ _ _ h
 | draw id ops=>intro Q Q' a H hq h;exact ATrS.mono h hq
 | rangeF g ps x y _ _=>intro Q Q' a H hq h;exact ATrS.mono h hq
 | other=>intro Q Q' a H hq h;exact ATrS.mono h hq
theorem ATrS.loopW {P:Program} {G:Nat→Option (List AV)} {b:SC} {Q:APost} {a:List AV} {H:AHeap} {κ:Type} (st:κ→List AV) (hp:κ→AHeap) (inv:κ→Prop) (meas:κ→Nat)
  (h0:∃x,inv x∧Weak G a H (st x) (hp x))
  (round:∀x,inv x→awpS P G b (thenA (fun a' H'=>∃x',inv x'∧meas x'<meas x∧Weak G a' H' (st x') (hp x')) Q) (st x) (hp x)):ATrS P G (.loop b) Q a H:=by
 refine ATrS.loop (fun n a H=>∃x,inv x∧n=meas x∧a=st x∧H=hp x) ?_ ?_
 ·obtain⟨x,h1,h2⟩:=h0
  exact⟨_,_,_,h2,x,h1,rfl,rfl,rfl⟩
 ·rintro n a H ⟨x,h1,rfl,rfl,rfl⟩
  refine awpS_mono b _ _ _ _ ?_ (round x h1)
  intro e a H he
  cases e with
  | normal=>
   obtain⟨x',i1,i2,i3⟩:=he
   exact⟨meas x',st x',hp x',i2,i3,x',i1,rfl,rfl,rfl⟩
  | _=>exact he
theorem Weak.q_pop (G:Nat→Option (List AV)) {H:AHeap} {ko:Nat} {re:TypeId} {cs:List AV} {k:Nat} (hrow:H.get ko=some (.row re 1 cs)) (hk:k≤cs.length) (hkn:ko<H.next) {a a':List AV} (ht:Tzs ko (fun l=>if l=k then some (.slc H.next k)else none) none a a') :
  ∃H',Weak G a H a' H'∧H'.get H.next=some (.row re 1 (cs.take k))∧H'.next=H.next+1∧∀j,j<H.next→j≠ko→H'.get j=H.get j:=by
 refine⟨⟨H.next+1,fun j=>if j=H.next then some (.row re 1 (cs.take k))else if j=ko then none else H.get j⟩,
  Weak.rename hrow (by omega) H.next k (by omega) (Nat.le_refl _) (Nat.lt_succ_self _) ?_ (by simp) (fun j=>?_) ht,by simp,rfl,fun j h1 h2=>?_⟩
 ·simp
  omega
 ·by_cases h1:j=H.next
  ·exact .inl h1
  ·by_cases h2:j=ko
   ·exact .inr (.inl (by subst h2;simp[h1]))
   ·cases hg:H.get j with
    | none=>exact .inr (.inl (by simp[h1,h2,hg]))
    | some o=>exact .inr (.inr ⟨o,o,rfl,by simp[h1,h2,hg],.same o⟩)
 ·have:j≠H.next:=by omega
  simp[this,h2]
theorem Weak.q_nil (G:Nat→Option (List AV)) (H:AHeap) (e:TypeId) (size:Nat) {a a':List AV} (ht:Tzs 0 (fun _=>none) (some (.slc H.next 0)) a a') :
  Weak G a H a' ⟨H.next+1,fun j=>if j=H.next then some (.row e size [])else H.get j⟩:=by
 refine Weak.nilRow H.next e size (Nat.le_refl _) (Nat.lt_succ_self _) (by simp) (fun j=>?_) ht
 by_cases h1:j=H.next
 ·exact .inl h1
 ·cases hg:H.get j with
  | none=>exact .inr (.inl (by simp[h1,hg]))
  | some o=>exact .inr (.inr ⟨o,o,rfl,by simp[h1,hg],.same o⟩)
def eventsV:Except Nat (List Ev)→AV
 | .ok l => .tup [.lst l.length (evsH l),.int .i64 0]
 | .error c => .tup [.nils,.int .i64 c]
theorem atH_one (l:List (List UInt8 × List UInt8)):(atH l).one=true:=by
 unfold atH
 split<;>rfl
def QEv (s:List UInt8) (H:AHeap) (R:Except Nat (List Ev)) (x:Nat × Bool × List Ev × List (List UInt8) × Nat × Nat × AHeap):Prop:=
 x.1≤s.length∧x.2.2.1.length≤2*x.1∧x.2.2.2.1.length≤x.1∧(∃f,s.length-x.1<f∧eventsRF f s x.1 x.2.1 x.2.2.1 x.2.2.2.1=R) ∧
 x.2.2.2.2.2.2.get x.2.2.2.2.1=some (.row 88 6 (evsH x.2.2.1))∧x.2.2.2.2.2.2.get x.2.2.2.2.2.1=some (.row 9 1 (strsH x.2.2.2.1))∧H.next≤x.2.2.2.2.1∧x.2.2.2.2.1<x.2.2.2.2.2.2.next∧H.next≤x.2.2.2.2.2.1∧x.2.2.2.2.2.1<x.2.2.2.2.2.2.next∧x.2.2.2.2.1≠x.2.2.2.2.2.1∧∀j,j<H.next→x.2.2.2.2.2.2.get j=H.get j
set_option maxHeartbeats 8000000 in
set_option maxRecDepth 100000 in
theorem q_events_ok (G:Nat→Option (List AV)) {s:List UInt8} (hs:s.length≤100000000) (H:AHeap) :
  ACalls Tryz.prog G 27 [.str s] H fun r H'=>r = .ret (eventsV (eventsRS s))∧Kept H H':=by
 refine ACalls.ret (ACalls.of Tryz.func27 S27_eq R27 N27 rfl rfl ?_)
 simp (maxSteps:=400000) only[wF,storeA,reduceCtorEq,Nat.reduceAdd,Nat.reduceSub,Nat.reduceEqDiff,Nat.reduceLeDiff,Int.reduceToNat,Int.reduceLE,Int.reduceLT,Int.reduceAdd,Int.reduceNeg,Nat.reduceMul,S27,N27,R27,T27]
 refine AInv.pureK B66 (q_begins_ok G (i:=0) (by omega) (by omega) (by simp)) fun H1 h1=>?_
 generalize hR:eventsRS s=R
 unfold eventsRS at hR
 have hd:Lib.hasPrefix s sDoct=Lib.hasPrefix (s.drop 0) [60,33,68,79,67,84,89,80,69,32,104,116,109,108,62,10]:=rfl
 rw[hd]at hR
 have n1:=h1.1
 cases hb:Lib.hasPrefix (s.drop 0) [60,33,68,79,67,84,89,80,69,32,104,116,109,108,62,10]
 case' true=>
  have hil:16≤s.length:=by have:=pre_len1 hb (by simp);simpa using this
 case' false=>
  have hil:0≤s.length:=Nat.zero_le _
 all_goals
  rw[hb]at hR
  simp only[if_true,Bool.false_eq_true,if_false]at hR
  simp (maxSteps:=400000) only[wF,storeA,reduceCtorEq,Nat.reduceAdd,Nat.reduceSub,Nat.reduceEqDiff,Nat.reduceLeDiff,Int.reduceToNat,Int.reduceLE,Int.reduceLT,Int.reduceAdd,Int.reduceNeg,Nat.reduceMul,T27]
  refine ATrS.weak (Weak.q_nil G H1 88 6 (show Tzs 0 (fun _=>none) (some (.slc H1.next 0)) _ (AV.str s :: .und :: .und :: .und :: .slc H1.next 0 :: .nils::_)from ⟨.same _,.und _,.und _,.und _,.nil _ rfl,.same _,Tzs.refl _⟩)) ?_
  refine ATrS.weak (Weak.q_nil G _ 9 1 (show Tzs 0 (fun _=>none) (some (.slc (H1.next+1) 0)) _ (AV.str s :: .und :: .und :: .und :: .slc H1.next 0 :: .slc (H1.next+1) 0::_)from ⟨.same _,.und _,.und _,.und _,.same _,.nil _ rfl,Tzs.refl _⟩)) ?_
  refine ATrS.loopW (κ:=Nat × Bool × List Ev × List (List UInt8) × Nat × Nat × AHeap) (fun x=>[.str s,.und,.und,.und,.slc x.2.2.2.2.1 x.2.2.1.length,.slc x.2.2.2.2.2.1 x.2.2.2.1.length,.int .i64 x.1,.bool x.2.1]++List.replicate 115 .und) (fun x=>x.2.2.2.2.2.2)
   (QEv s H R) (fun x=>s.length-x.1) ⟨(_,false,[],[],H1.next,H1.next+1,_),⟨hil,by simp,by simp,⟨_,by simp only;omega,hR⟩,?_,?_,by simp only;omega,by simp only;omega,by simp only;omega,by simp only;omega,by simp only;omega,fun j hj=>?_⟩,Weak.of (by simp[Fg]) (HW.refl _)⟩ ?_
  ·simp[evsH]
  ·simp[strsH]
  ·simp only
   rw[if_neg (by omega),if_neg (by omega)]
   exact congrFun h1.2 j
  clear hR hil h1 hb hd n1
  rintro⟨k,raw,l,o,em,om,J⟩ ⟨hk,hl,ho,⟨f,hf,hv⟩,je,jo,e1,e2,o1,o2,eo,jf⟩
  simp only at hk hl ho hf hv je jo e1 e2 o1 o2 eo jf
  obtain⟨f,rfl⟩:∃f',f=f'+1:=⟨f-1,by omega⟩
  rw[eventsRF]at hv
  by_cases hlt:k<s.length
  case neg=>
   have d1:decide ((k:Int)<(s.length:Int))=false:=by simp;omega
   rw[if_neg hlt]at hv
   by_cases ho0:o=[]
   ·subst ho0
    rw[if_pos rfl]at hv
    subst hv
    have d2:decide (((0:Nat):Int)>0)=false:=rfl
    simp (maxSteps:=400000) only[wF,storeA,reduceCtorEq,Nat.reduceAdd,Nat.reduceSub,Nat.reduceEqDiff,Nat.reduceLeDiff,Int.reduceToNat,Int.reduceLE,Int.reduceLT,Int.reduceAdd,Int.reduceNeg,Nat.reduceMul,T27,d1,List.length_nil,d2]
    refine⟨_,_,Weak.h_freezeVal G (j:=em) (e:=88) (size:=6) (cs:=evsH l) je (by omega) (v':=eventsV (.ok l)) (.tup' ⟨.slc _ _ rfl,.same _,trivial⟩),rfl,by simp only[AHeap.next_del];omega,fun j hj=>?_⟩
    rw[AHeap.get_del_ne _ (by omega)]
    exact jf j hj
   ·have hol:0<o.length:=List.length_pos_iff.2 ho0
    have d2:decide ((o.length:Int)>0)=true:=by simp;omega
    rw[if_neg ho0]at hv
    subst hv
    simp (maxSteps:=400000) only[wF,storeA,reduceCtorEq,Nat.reduceAdd,Nat.reduceSub,Nat.reduceEqDiff,Nat.reduceLeDiff,Int.reduceToNat,Int.reduceLE,Int.reduceLT,Int.reduceAdd,Int.reduceNeg,Nat.reduceMul,T27,d1,d2]
    exact⟨_,_,Weak.refl G _ _,rfl,by omega,jf⟩
  have d1:decide ((k:Int)<(s.length:Int))=true:=by simp;omega
  rw[if_pos hlt]at hv
  have hcase:((raw=true∧Lib.hasPrefix (s.drop k) [60,47]=false)∨(raw=false∧Lib.hasPrefix (s.drop k) [60]=false))∨((raw=true∧Lib.hasPrefix (s.drop k) [60,47]=true)∨(raw=false∧Lib.hasPrefix (s.drop k) [60]=true)):=by
   cases raw<;>cases Lib.hasPrefix (s.drop k) [60,47]<;>cases Lib.hasPrefix (s.drop k) [60]<;>simp
  rcases hcase with hT | hP
  · -- a text
   have hR:textRS s k raw=none∧R = .error 5∨∃v k2,textRS s k raw=some (v,k2)∧k<k2∧k2≤s.length∧eventsRF f s k2 false (l++[⟨2,[],v,[],0,0⟩]) o=R:=by
    rw[if_pos (by rcases hT with ⟨a,b⟩ | ⟨a,b⟩<;>simp[a,b])]at hv
    cases hx:textRS s k raw with
    | none=>rw[hx]at hv;exact .inl ⟨rfl,hv.symm⟩
    | some y=>
     obtain⟨v,k2⟩:=y
     rw[hx]at hv
     have hb:=textRS_bound hlt hx (fun h=>by rcases hT with ⟨_,b⟩ | ⟨a,_⟩;exact b;rw[h]at a;cases a) (fun h=>by rcases hT with ⟨a,_⟩ | ⟨_,b⟩;rw[h]at a;cases a;exact b)
     exact .inr ⟨v,k2,rfl,hb.1,hb.2,hv⟩
   clear hv
   rcases hT with ⟨rfl,hb⟩ | ⟨rfl,hb⟩
   case' inl=>
    simp (maxSteps:=400000) only[wF,storeA,reduceCtorEq,Nat.reduceAdd,Nat.reduceSub,Nat.reduceEqDiff,Nat.reduceLeDiff,Int.reduceToNat,Int.reduceLE,Int.reduceLT,Int.reduceAdd,Int.reduceNeg,Nat.reduceMul,T27,d1]
    refine AInv.pureK B66 (q_begins_ok G (by omega) (by omega) (by simp)) fun J1 j1=>?_
    rw[hb]
    simp (maxSteps:=400000) only[wF,storeA,reduceCtorEq,Nat.reduceAdd,Nat.reduceSub,Nat.reduceEqDiff,Nat.reduceLeDiff,Int.reduceToNat,Int.reduceLE,Int.reduceLT,Int.reduceAdd,Int.reduceNeg,Nat.reduceMul,T27,Bool.not_false]
   case' inr=>
    simp (maxSteps:=400000) only[wF,storeA,reduceCtorEq,Nat.reduceAdd,Nat.reduceSub,Nat.reduceEqDiff,Nat.reduceLeDiff,Int.reduceToNat,Int.reduceLE,Int.reduceLT,Int.reduceAdd,Int.reduceNeg,Nat.reduceMul,T27,d1]
    refine AInv.pureK B66 (q_begins_ok G (by omega) (by omega) (by simp)) fun J1 j1=>?_
    rw[hb]
    simp (maxSteps:=400000) only[wF,storeA,reduceCtorEq,Nat.reduceAdd,Nat.reduceSub,Nat.reduceEqDiff,Nat.reduceLeDiff,Int.reduceToNat,Int.reduceLE,Int.reduceLT,Int.reduceAdd,Int.reduceNeg,Nat.reduceMul,T27,Bool.not_false]
   all_goals
    refine AInv.pureK B67 (q_text_ok G (by omega) hs _) fun J2 j2=>?_
    have j12:=j1.trans j2
    have p2:=j12.1
    replace je:=(congrFun j12.2 _).trans je
    replace jo:=(congrFun j12.2 _).trans jo
    replace jf:∀j,j<H.next→J2.get j=H.get j:=fun j hj=>(congrFun j12.2 _).trans (jf j hj)
    rcases hR with ⟨hx,rfl⟩ | ⟨v,k2,hx,b1,b2,hR⟩
    ·rw[hx]
     have d0:decide ((-1:Int)<0)=true:=rfl
     simp (maxSteps:=400000) only[wF,storeA,reduceCtorEq,Nat.reduceAdd,Nat.reduceSub,Nat.reduceEqDiff,Nat.reduceLeDiff,Int.reduceToNat,Int.reduceLE,Int.reduceLT,Int.reduceAdd,Int.reduceNeg,Nat.reduceMul,T27,textA,d0]
     exact⟨_,_,Weak.refl G _ _,rfl,by omega,jf⟩
    ·rw[hx]
     have d0:decide ((k2:Int)<0)=false:=by simp
     have v3:(em=J2.next)=False:=eq_false (by omega)
     have v4:(J2.next==em)=false:=by rw[beq_eq_false_iff_ne];omega
     have hle:(l.length+1≤maxApp)=True:=eq_true (by simp only[maxApp];omega)
     simp (maxSteps:=400000) only[wF,storeA,reduceCtorEq,Nat.reduceAdd,Nat.reduceSub,Nat.reduceEqDiff,Nat.reduceLeDiff,Int.reduceToNat,Int.reduceLE,Int.reduceLT,Int.reduceAdd,Int.reduceNeg,Nat.reduceMul,T27,textA,d0,je,v3,v4,hle,buildA,appendA,appSrc,AV.isSlc,sliceLit,fillA,zerosA,srcCells,AV.boxable,Nat.le_refl,Nat.reduceLT,evsH_len]
     generalize hZ:AHeap.allocAt _ (J2.next+1) _=Z
     refine⟨(k2,false,l++[⟨2,[],v,[],0,0⟩],o,J2.next+1,om,Z),⟨b2,by simp only[List.length_append,List.length_singleton];omega,by simp only;omega,⟨f,by simp only;omega,hR⟩,?_,?_,by simp only;omega,?_,o1,?_,by simp only;omega,fun j hj=>?_⟩,by simp only;omega,Weak.of (by simp[Fg]) (HW.refl _)⟩
     ·rw[←hZ,AHeap.get_allocAt_same,evsH_app];rfl
     ·rw[←hZ,AHeap.get_allocAt_ne _ _ (by first | omega | (simp only;omega)),AHeap.get_del_ne _ (Ne.symm eo),AHeap.get_allocAt_ne _ _ (by first | omega | (simp only;omega))];exact jo
     ·rw[←hZ];simp only[AHeap.next_set,AHeap.next_allocAt,AHeap.next_del];omega
     ·rw[←hZ];simp only[AHeap.next_set,AHeap.next_allocAt,AHeap.next_del];omega
     ·show Z.get j=_
      rw[←hZ,AHeap.get_allocAt_ne _ _ (by omega),AHeap.get_del_ne _ (by omega),AHeap.get_allocAt_ne _ _ (by omega)];exact jf j hj
  · -- a piece
   rw[if_neg (by
    rcases hP with ⟨a,b⟩ | ⟨a,b⟩
    ·rintro(⟨_,h⟩ | h)
     ·rw[b]at h;cases h
     ·obtain⟨r,hr⟩:=pre_two b
      rw[hr]at h
      revert h
      simp[Lib.hasPrefix,List.isPrefixOf]
    ·rintro(⟨h,_⟩ | h)
     ·rw[a]at h;cases h
     ·rw[b]at h;cases h)]at hv
   have hp60:Lib.hasPrefix (s.drop k) [60]=true:=by
    rcases hP with ⟨a,b⟩ | ⟨a,b⟩
    ·obtain⟨r,hr⟩:=pre_two b
     rw[hr]
     simp[Lib.hasPrefix,List.isPrefixOf]
    ·exact b
   rcases hP with ⟨rfl,hb⟩ | ⟨rfl,hb⟩
   case' inl=>
    simp (maxSteps:=400000) only[wF,storeA,reduceCtorEq,Nat.reduceAdd,Nat.reduceSub,Nat.reduceEqDiff,Nat.reduceLeDiff,Int.reduceToNat,Int.reduceLE,Int.reduceLT,Int.reduceAdd,Int.reduceNeg,Nat.reduceMul,T27,d1]
    refine AInv.pureK B66 (q_begins_ok G (by omega) (by omega) (by simp)) fun J0 j0=>?_
    rw[hb]
    simp (maxSteps:=400000) only[wF,storeA,reduceCtorEq,Nat.reduceAdd,Nat.reduceSub,Nat.reduceEqDiff,Nat.reduceLeDiff,Int.reduceToNat,Int.reduceLE,Int.reduceLT,Int.reduceAdd,Int.reduceNeg,Nat.reduceMul,T27,Bool.not_true]
    refine AInv.pureK B66 (q_begins_ok G (by omega) (by omega) (by simp)) fun J1 j1'=>?_
    have j1:=j0.trans j1'
    clear j0 j1'
    rw[hp60]
    simp (maxSteps:=400000) only[wF,storeA,reduceCtorEq,Nat.reduceAdd,Nat.reduceSub,Nat.reduceEqDiff,Nat.reduceLeDiff,Int.reduceToNat,Int.reduceLE,Int.reduceLT,Int.reduceAdd,Int.reduceNeg,Nat.reduceMul,T27,Bool.not_true]
   case' inr=>
    simp (maxSteps:=400000) only[wF,storeA,reduceCtorEq,Nat.reduceAdd,Nat.reduceSub,Nat.reduceEqDiff,Nat.reduceLeDiff,Int.reduceToNat,Int.reduceLE,Int.reduceLT,Int.reduceAdd,Int.reduceNeg,Nat.reduceMul,T27,d1]
    refine AInv.pureK B66 (q_begins_ok G (by omega) (by omega) (by simp)) fun J1 j1=>?_
    rw[hb]
    simp (maxSteps:=400000) only[wF,storeA,reduceCtorEq,Nat.reduceAdd,Nat.reduceSub,Nat.reduceEqDiff,Nat.reduceLeDiff,Int.reduceToNat,Int.reduceLE,Int.reduceLT,Int.reduceAdd,Int.reduceNeg,Nat.reduceMul,T27,Bool.not_true]
   all_goals
    refine AInv.retK B68 (q_piece_ok G hlt hs J1) (fun v J2 hq=>?_) (fun v J2 hq=>by cases hq.1)
    obtain⟨hq,h2⟩:=hq
    cases hq
    have j12:=j1.kept.trans h2
    have p2:=j12.1
    replace je:=(j12.2 _ e2).trans je
    replace jo:=(j12.2 _ o2).trans jo
    replace jf:∀j,j<H.next→J2.get j=H.get j:=fun j hj=>(j12.2 _ (by omega)).trans (jf j hj)
    clear j12 h2
    cases hx:pieceRS s k with
    | none=>
     rw[hx]at hv
     subst hv
     have d0:decide ((-1:Int)<0)=true:=rfl
     simp (maxSteps:=400000) only[wF,storeA,reduceCtorEq,Nat.reduceAdd,Nat.reduceSub,Nat.reduceEqDiff,Nat.reduceLeDiff,Int.reduceToNat,Int.reduceLE,Int.reduceLT,Int.reduceAdd,Int.reduceNeg,Nat.reduceMul,T27,pieceV,evH,atH_one,d0,AV.boxable]
     refine⟨_,_,Weak.refl G _ _,rfl,by simp only[AHeap.next_set,AHeap.next_allocAt];omega,fun j hj=>?_⟩
     simp only[AHeap.get_set_ne _ _ (show j≠J2.next by omega),AHeap.get_allocAt_ne _ _ (show j≠J2.next by omega)]
     exact jf j hj
    | some y=>
     obtain⟨x,k2⟩:=y
     rw[hx]at hv
     have hb:=pieceRS_bound hlt hx
     simp only at hb hv
     obtain⟨b1,b2,b3,b4,b5⟩:=hb
     have d0:decide ((k2:Int)<0)=false:=by simp
     have hone:=atH_one x.attrs
     have hle:(l.length+1≤maxApp)=True:=eq_true (by simp only[maxApp];omega)
     have hle2:(l.length+1+1≤maxApp)=True:=eq_true (by simp only[maxApp];omega)
     by_cases k0:x.kind=0
     ·have c0:((x.kind:Int)==0)=true:=by rw[k0];rfl
      have c1:((x.kind:Int)==1)=false:=by rw[k0];rfl
      simp (maxSteps:=400000) only[wF,storeA,reduceCtorEq,Nat.reduceAdd,Nat.reduceSub,Nat.reduceEqDiff,Nat.reduceLeDiff,Int.reduceToNat,Int.reduceLE,Int.reduceLT,Int.reduceAdd,Int.reduceNeg,Nat.reduceMul,T27,pieceV,evH,hone,d0,c0,AV.boxable]
      generalize hA:AHeap.set (AHeap.allocAt J2 J2.next _) J2.next _=A
      have an:A.next=J2.next+1:=by rw[←hA];simp only[AHeap.next_set,AHeap.next_allocAt];omega
      have ax:A.get J2.next=some (.cells 88 [.int .i64 x.kind,.str x.name,.str x.text,atH x.attrs,.int .i64 x.line,.int .i64 x.col]):=by rw[←hA,AHeap.get_set_same]
      have ag:∀j,j<J2.next→A.get j=J2.get j:=fun j hj=>by rw[←hA,AHeap.get_set_ne _ _ (by omega),AHeap.get_allocAt_ne _ _ (by omega)]
      clear hA
      refine AInv.pureK B69 (q_twice_ok G (by omega)) fun J3 j3=>?_
      have p3:=j3.1
      replace je:=(congrFun j3.2 _).trans ((ag _ (by omega)).trans je)
      replace jo:=(congrFun j3.2 _).trans ((ag _ (by omega)).trans jo)
      replace jf:∀j,j<H.next→J3.get j=H.get j:=fun j hj=>(congrFun j3.2 _).trans ((ag _ (by omega)).trans (jf j hj))
      replace ax:=(congrFun j3.2 _).trans ax
      clear ag
      cases hd:decide (¬(x.attrs.map (·.1)).Nodup)with
      | true=>
       rw[if_pos ⟨k0,of_decide_eq_true hd⟩]at hv
       subst hv
       simp (maxSteps:=400000) only[wF,storeA,reduceCtorEq,Nat.reduceAdd,Nat.reduceSub,Nat.reduceEqDiff,Nat.reduceLeDiff,Int.reduceToNat,Int.reduceLE,Int.reduceLT,Int.reduceAdd,Int.reduceNeg,Nat.reduceMul,T27]
       exact⟨_,_,Weak.refl G _ _,rfl,by omega,jf⟩
      | false=>
       rw[if_neg (fun h=>absurd h.2 (of_decide_eq_false hd)),if_neg (by omega)]at hv
       have v3:(em=J3.next)=False:=eq_false (by omega)
       have v4:(J3.next==em)=false:=by rw[beq_eq_false_iff_ne];omega
       have v5:(J2.next=J3.next)=False:=eq_false (by omega)
       have v6:(J2.next=em)=False:=eq_false (by omega)
       have v7:(J2.next=J3.next+1)=False:=eq_false (by omega)
       simp (maxSteps:=400000) only[wF,storeA,reduceCtorEq,Nat.reduceAdd,Nat.reduceSub,Nat.reduceEqDiff,Nat.reduceLeDiff,Int.reduceToNat,Int.reduceLE,Int.reduceLT,Int.reduceAdd,Int.reduceNeg,Nat.reduceMul,T27,ax,je,c0,c1,v3,v4,v5,v6,v7,hone,hle,appendA,appSrc,AV.isSlc,sliceLit,fillA,zerosA,srcCells,AV.boxable,Nat.le_refl,Nat.reduceLT,evsH_len]
       generalize hZ:AHeap.allocAt _ (J3.next+1) _=Z
       have zn:Z.next=J3.next+2:=by rw[←hZ];simp only[AHeap.next_allocAt,AHeap.next_del];omega
       have ze:Z.get (J3.next+1)=some (.row 88 6 (evsH (l++[x]))):=by rw[←hZ,AHeap.get_allocAt_same,evsH_app];simp[evsH,evH]
       have zg:∀j,j<J3.next→j≠em→Z.get j=J3.get j:=fun j hj he=>by rw[←hZ,AHeap.get_allocAt_ne _ _ (by omega),AHeap.get_del_ne _ he,AHeap.get_allocAt_ne _ _ (by omega)]
       clear hZ
       refine AInv.pureK B70 (v_Raw_ok G (by omega)) fun J4 j4=>?_
       have p4:=j4.1
       replace ax:=(congrFun j4.2 _).trans ((zg _ (by omega) (by omega)).trans ax)
       simp (maxSteps:=400000) only[wF,storeA,reduceCtorEq,Nat.reduceAdd,Nat.reduceSub,Nat.reduceEqDiff,Nat.reduceLeDiff,Int.reduceToNat,Int.reduceLE,Int.reduceLT,Int.reduceAdd,Int.reduceNeg,Nat.reduceMul,T27,ax,c0]
       refine AInv.pureK B71 (v_Void_ok G (by omega)) fun J5 j5=>?_
       have j45:=j4.trans j5
       have p5:=j45.1
       replace ax:=(congrFun j5.2 _).trans ax
       replace ze:=(congrFun j45.2 _).trans ze
       replace jo:=(congrFun j45.2 _).trans ((zg _ (by omega) (by omega)).trans jo)
       replace jf:∀j,j<H.next→J5.get j=H.get j:=fun j hj=>(congrFun j45.2 _).trans ((zg _ (by omega) (by omega)).trans (jf j hj))
       clear zg
       cases hvd:isVoidS x.name with
       | true=>
        rw[if_pos ⟨k0,hvd⟩]at hv
        have u3:(J3.next+1=J5.next)=False:=eq_false (by omega)
        have u4:(J5.next==J3.next+1)=false:=by rw[beq_eq_false_iff_ne];omega
        have hll:(l++[x]).length=l.length+1:=by simp
        simp (maxSteps:=400000) only[wF,storeA,reduceCtorEq,Nat.reduceAdd,Nat.reduceSub,Nat.reduceEqDiff,Nat.reduceLeDiff,Int.reduceToNat,Int.reduceLE,Int.reduceLT,Int.reduceAdd,Int.reduceNeg,Nat.reduceMul,T27,ax,ze,u3,u4,hone,hle2,buildA,appendA,appSrc,AV.isSlc,sliceLit,fillA,zerosA,srcCells,AV.boxable,Nat.le_refl,Nat.reduceLT,evsH_len,hll]
        generalize hY:AHeap.allocAt _ (J5.next+1) _=Y
        refine⟨(k2,isRawS x.name,l++[x,⟨1,x.name,[],[],0,0⟩],o,J5.next+1,om,Y),⟨b2,by simp only[List.length_append,List.length_cons,List.length_nil];omega,by simp only;omega,⟨f,by simp only;omega,hv⟩,?_,?_,by simp only;omega,?_,o1,?_,by simp only;omega,fun j hj=>?_⟩,by simp only;omega,Weak.of (by simp[Fg]) (HW.refl _)⟩
        ·rw[←hY,AHeap.get_allocAt_same];simp[evsH,evH,atH]
        ·rw[←hY,AHeap.get_allocAt_ne _ _ (by first | omega | (simp only;omega)),AHeap.get_del_ne _ (by simp only;omega),AHeap.get_allocAt_ne _ _ (by first | omega | (simp only;omega))];exact jo
        ·rw[←hY];simp only[AHeap.next_set,AHeap.next_allocAt,AHeap.next_del];omega
        ·rw[←hY];simp only[AHeap.next_set,AHeap.next_allocAt,AHeap.next_del];omega
        ·show Y.get j=_
         rw[←hY,AHeap.get_allocAt_ne _ _ (by omega),AHeap.get_del_ne _ (by omega),AHeap.get_allocAt_ne _ _ (by omega)];exact jf j hj
       | false=>
        rw[if_neg (fun h=>by rw[hvd]at h;cases h.2),if_pos k0]at hv
        have u3:(om=J5.next)=False:=eq_false (by omega)
        have u4:(J5.next==om)=false:=by rw[beq_eq_false_iff_ne];omega
        have hle3:(o.length+1≤maxApp)=True:=eq_true (by simp only[maxApp];omega)
        simp (maxSteps:=400000) only[wF,storeA,reduceCtorEq,Nat.reduceAdd,Nat.reduceSub,Nat.reduceEqDiff,Nat.reduceLeDiff,Int.reduceToNat,Int.reduceLE,Int.reduceLT,Int.reduceAdd,Int.reduceNeg,Nat.reduceMul,T27,ax,c0,jo,u3,u4,hone,hle3,buildA,appendA,appSrc,AV.isSlc,sliceLit,fillA,zerosA,srcCells,AV.boxable,Nat.le_refl,Nat.reduceLT,strsH_len,Nat.mul_one]
        generalize hY:AHeap.allocAt _ (J5.next+1) _=Y
        refine⟨(k2,isRawS x.name,l++[x],o++[x.name],J3.next+1,J5.next+1,Y),⟨b2,by simp only[List.length_append,List.length_singleton];omega,by simp only[List.length_append,List.length_singleton];omega,⟨f,by simp only;omega,hv⟩,?_,?_,by simp only;omega,?_,by simp only;omega,?_,by simp only;omega,fun j hj=>?_⟩,by simp only;omega,Weak.of (by simp[Fg]) (HW.refl _)⟩
        ·rw[←hY,AHeap.get_allocAt_ne _ _ (by first | omega | (simp only;omega)),AHeap.get_del_ne _ (by simp only;omega),AHeap.get_allocAt_ne _ _ (by first | omega | (simp only;omega))];exact ze
        ·rw[←hY,AHeap.get_allocAt_same];simp[strsH]
        ·rw[←hY];simp only[AHeap.next_set,AHeap.next_allocAt,AHeap.next_del];omega
        ·rw[←hY];simp only[AHeap.next_set,AHeap.next_allocAt,AHeap.next_del];omega
        ·show Y.get j=_
         rw[←hY,AHeap.get_allocAt_ne _ _ (by omega),AHeap.get_del_ne _ (by omega),AHeap.get_allocAt_ne _ _ (by omega)];exact jf j hj
     ·have c0:((x.kind:Int)==0)=false:=by rw[beq_eq_false_iff_ne];omega
      rw[if_neg (fun h=>k0 h.1)]at hv
      have v3:(em=J2.next)=False:=eq_false (by omega)
      have v3':(em=J2.next+1)=False:=eq_false (by omega)
      have v4:(J2.next+1==em)=false:=by rw[beq_eq_false_iff_ne];omega
      have v6:(J2.next=em)=False:=eq_false (by omega)
      have v7:(J2.next=J2.next+1)=False:=eq_false (by omega)
      have v8:(J2.next=J2.next+1+1)=False:=eq_false (by omega)
      have v9:(om=J2.next)=False:=eq_false (by omega)
      by_cases k1:x.kind=1
      ·have c1:((x.kind:Int)==1)=true:=by rw[k1];rfl
       rw[if_pos k1]at hv
       rcases List.eq_nil_or_concat o with rfl | ⟨init,last,rfl⟩
       ·rw[if_neg (by simp)]at hv
        subst hv
        simp (maxSteps:=400000) only[wF,storeA,reduceCtorEq,Nat.reduceAdd,Nat.reduceSub,Nat.reduceEqDiff,Nat.reduceLeDiff,Int.reduceToNat,Int.reduceLE,Int.reduceLT,Int.reduceAdd,Int.reduceNeg,Nat.reduceMul,T27,pieceV,evH,hone,d0,c0,c1,AV.boxable,List.length_nil]
        refine drawW_fixed mixedOrders L27_22_eq P27_22_eq ?_
        have z0:(((0:Nat):Int)==0)=true:=rfl
        simp (maxSteps:=400000) only[wF,storeA,reduceCtorEq,Nat.reduceAdd,Nat.reduceSub,Nat.reduceEqDiff,Nat.reduceLeDiff,Int.reduceToNat,Int.reduceLE,Int.reduceLT,Int.reduceAdd,Int.reduceNeg,Nat.reduceMul,L27_22,T27,z0]
        refine⟨_,_,Weak.refl G _ _,rfl,by simp only[AHeap.next_set,AHeap.next_allocAt];omega,fun j hj=>?_⟩
        simp only[AHeap.get_set_ne _ _ (show j≠J2.next by omega),AHeap.get_allocAt_ne _ _ (show j≠J2.next by omega)]
        exact jf j hj
       ·rw[List.concat_eq_append]at hv jo ho ⊢
        have hol:(init++[last]).length=init.length+1:=by simp
        have z0:(((init.length+1:Nat):Int)==0)=false:=by rw[beq_eq_false_iff_ne];omega
        have ew:IntKind.i64.wrap (((init.length+1:Nat):Int)-1)=(init.length:Int):=by rw[wrap64]<;>omega
        have q1:((init.length:Int)<((init.length+1:Nat):Int))=True:=by simp;omega
        have q2:((init.length:Int)≤((init.length+1:Nat):Int))=True:=by simp;omega
        have q3:((0:Int)≤(init.length:Int))=True:=by simp
        have hgl:(strsH (init++[last]))[init.length]?=some (.str last):=by simp[strsH]
        simp (maxSteps:=400000) only[wF,storeA,reduceCtorEq,Nat.reduceAdd,Nat.reduceSub,Nat.reduceEqDiff,Nat.reduceLeDiff,Int.reduceToNat,Int.reduceLE,Int.reduceLT,Int.reduceAdd,Int.reduceNeg,Nat.reduceMul,T27,pieceV,evH,hone,d0,c0,c1,AV.boxable,hol]
        generalize hA:AHeap.set (AHeap.allocAt J2 J2.next _) J2.next _=A
        have an:A.next=J2.next+1:=by rw[←hA];simp only[AHeap.next_set,AHeap.next_allocAt];omega
        have ax:A.get J2.next=some (.cells 88 [.int .i64 x.kind,.str x.name,.str x.text,atH x.attrs,.int .i64 x.line,.int .i64 x.col]):=by rw[←hA,AHeap.get_set_same]
        have ag:∀j,j<J2.next→A.get j=J2.get j:=fun j hj=>by rw[←hA,AHeap.get_set_ne _ _ (by omega),AHeap.get_allocAt_ne _ _ (by omega)]
        clear hA
        replace je:=(ag _ (by omega)).trans je
        replace jo:=(ag _ (by omega)).trans jo
        replace jf:∀j,j<H.next→A.get j=H.get j:=fun j hj=>(ag _ (by omega)).trans (jf j hj)
        clear ag
        refine drawW_fixed mixedOrders L27_22_eq P27_22_eq ?_
        cases hnx:(last==x.name)with
        | false=>
         rw[if_neg (by simp at hnx ⊢;exact hnx)]at hv
         subst hv
         simp (maxSteps:=400000) only[wF,storeA,reduceCtorEq,Nat.reduceAdd,Nat.reduceSub,Nat.reduceEqDiff,Nat.reduceLeDiff,Int.reduceToNat,Int.reduceLE,Int.reduceLT,Int.reduceAdd,Int.reduceNeg,Nat.reduceMul,L27_22,T27,z0,ew,q1,q2,q3,jo,hgl,ax,hnx,Bool.not_false,indexAddrA,Nat.mul_one,Int.toNat_natCast]
         exact⟨_,_,Weak.refl G _ _,rfl,by omega,jf⟩
        | true=>
         rw[if_pos (by simp at hnx ⊢;exact hnx),List.dropLast_concat]at hv
         have w1:(em=A.next)=False:=eq_false (by omega)
         have w2:(A.next==em)=false:=by rw[beq_eq_false_iff_ne];omega
         have w3:(J2.next=A.next)=False:=eq_false (by omega)
         have w4:(J2.next=A.next+1)=False:=eq_false (by omega)
         simp (maxSteps:=400000) only[wF,storeA,reduceCtorEq,Nat.reduceAdd,Nat.reduceSub,Nat.reduceEqDiff,Nat.reduceLeDiff,Int.reduceToNat,Int.reduceLE,Int.reduceLT,Int.reduceAdd,Int.reduceNeg,Nat.reduceMul,L27_22,T27,z0,ew,q1,q2,q3,jo,hgl,ax,hnx,Bool.not_true,c0,je,v6,w1,w2,w3,w4,hone,hle,indexAddrA,sliceA,boundA,Nat.mul_one,Int.toNat_natCast,appendA,appSrc,AV.isSlc,sliceLit,fillA,zerosA,srcCells,AV.boxable,Nat.le_refl,Nat.reduceLT,evsH_len]
         generalize hZ:AHeap.allocAt _ (A.next+1) _=Z
         have zn:Z.next=A.next+2:=by rw[←hZ];simp only[AHeap.next_allocAt,AHeap.next_del];omega
         have ze:Z.get (A.next+1)=some (.row 88 6 (evsH (l++[x]))):=by rw[←hZ,AHeap.get_allocAt_same,evsH_app];simp[evsH,evH]
         have zg:∀j,j<A.next→j≠em→Z.get j=A.get j:=fun j hj he=>by rw[←hZ,AHeap.get_allocAt_ne _ _ (by omega),AHeap.get_del_ne _ he,AHeap.get_allocAt_ne _ _ (by omega)]
         clear hZ
         replace jo:=(zg _ (by omega) (Ne.symm eo)).trans jo
         replace jf:∀j,j<H.next→Z.get j=H.get j:=fun j hj=>(zg _ (by omega) (by omega)).trans (jf j hj)
         obtain⟨Z',hw,y1,y2,y3⟩:=Weak.q_pop G (k:=init.length) jo (by simp[strsH]) (by omega) (a:=[.str s,.und,.und,.und,.slc (A.next+1) (l++[x]).length,.slc om init.length,.int .i64 k2,.bool false]++List.replicate 115 .und) (a':=[.str s,.und,.und,.und,.slc (A.next+1) (l++[x]).length,.slc Z.next init.length,.int .i64 k2,.bool false]++List.replicate 115 .und)
          (show Tzs _ _ _ (_::_::_::_::_::_::_) (_::_::_::_::_::_::_)from ⟨.same _,.und _,.und _,.und _,.same _,.slc _ _ (by simp),Tzs.refl _⟩)
         refine⟨(k2,false,l++[x],init,A.next+1,Z.next,Z'),⟨b2,by simp only[List.length_append,List.length_singleton];omega,by simp only[List.length_append,List.length_singleton]at ho ⊢;omega,⟨f,by simp only;omega,hv⟩,?_,?_,by simp only;omega,by simp only;omega,by simp only;omega,by simp only;omega,by simp only;omega,fun j hj=>?_⟩,by simp only;omega,(Weak.of (by simp[Fg]) (HW.refl _)).trans hw⟩
         ·exact(y3 (A.next+1) (by omega) (by omega)).trans ze
         ·show Z'.get _=_
          rw[y1];simp[strsH]
         ·show Z'.get j=_
          rw[y3 _ (by omega) (by omega)];exact jf j hj
      ·have c1:((x.kind:Int)==1)=false:=by rw[beq_eq_false_iff_ne];omega
       rw[if_neg k1,if_neg (fun h=>k0 h.1),if_neg k0]at hv
       simp (maxSteps:=400000) only[wF,storeA,reduceCtorEq,Nat.reduceAdd,Nat.reduceSub,Nat.reduceEqDiff,Nat.reduceLeDiff,Int.reduceToNat,Int.reduceLE,Int.reduceLT,Int.reduceAdd,Int.reduceNeg,Nat.reduceMul,T27,pieceV,evH,hone,d0,c0,c1,je,v3,v3',v4,v6,v7,v8,v9,hle,appendA,appSrc,AV.isSlc,sliceLit,fillA,zerosA,srcCells,AV.boxable,Nat.le_refl,Nat.reduceLT,evsH_len]
       generalize hZ:AHeap.allocAt _ (J2.next+1+1) _=Z
       refine⟨(k2,false,l++[x],o,J2.next+1+1,om,Z),⟨b2,by simp only[List.length_append,List.length_singleton];omega,by simp only;omega,⟨f,by simp only;omega,hv⟩,?_,?_,by simp only;omega,?_,o1,?_,by simp only;omega,fun j hj=>?_⟩,by simp only;omega,Weak.of (by simp[Fg]) (HW.refl _)⟩
       ·rw[←hZ,AHeap.get_allocAt_same,evsH_app];simp[evsH,evH]
       ·rw[←hZ,AHeap.get_allocAt_ne _ _ (by first | omega | (simp only;omega)),AHeap.get_del_ne _ (Ne.symm eo),AHeap.get_allocAt_ne _ _ (by first | omega | (simp only;omega)),AHeap.get_set_ne _ _ (by first | omega | (simp only;omega)),AHeap.get_allocAt_ne _ _ (by first | omega | (simp only;omega))];exact jo
       ·rw[←hZ];simp only[AHeap.next_set,AHeap.next_allocAt,AHeap.next_del];omega
       ·rw[←hZ];simp only[AHeap.next_set,AHeap.next_allocAt,AHeap.next_del];omega
       ·show Z.get j=_
        rw[←hZ,AHeap.get_allocAt_ne _ _ (by omega),AHeap.get_del_ne _ (by omega),AHeap.get_allocAt_ne _ _ (by omega),AHeap.get_set_ne _ _ (by omega),AHeap.get_allocAt_ne _ _ (by omega)];exact jf j hj
end Go.Ab
