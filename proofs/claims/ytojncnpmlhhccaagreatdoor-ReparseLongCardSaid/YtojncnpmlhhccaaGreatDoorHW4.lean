/- reparse's reader: text, end, comment, instruction, walked. -/
import Derived.Test.YtojncnpmlhhccaaGreatDoorHW3
set_option linter.all false
namespace Go.Ab
open Go Go.Lib Go.Proofs
theorem h_set_set (H:AHeap) (k:Nat) (o o':AObj):(H.set k o).set k o'=H.set k o':=by
 simp only[AHeap.set]
 congr 1
 funext j
 split<;>rfl
theorem RdrAt.setS {J:AHeap} {rid kl ko:Nat} {h:HSt} (hr:RdrAt J rid kl ko h) (s':List UInt8):RdrAt (J.set rid (.cells 57 [.str s',.slc kl h.l.length,.slc ko h.opens.length])) rid kl ko { h with s:=s' }∧HKeep J rid kl ko (J.set rid (.cells 57 [.str s',.slc kl h.l.length,.slc ko h.opens.length])) kl ko:=by
 obtain⟨a1,a2,a3,a4,a5,a6,a7,a8,a9⟩:=hr
 refine⟨⟨by rw[AHeap.get_set_same],?_,?_,a4,a5,a6,a7,a8,a9⟩,Nat.le_refl _,.inl rfl,.inl rfl,fun j _ j2 _ _=>AHeap.get_set_ne _ _ j2⟩
 ·rw[AHeap.get_set_ne _ _ (by omega)];exact a2
 ·rw[AHeap.get_set_ne _ _ (by omega)];exact a3
theorem HKeep.trans {A B C:AHeap} {rid kl ko kl1 ko1 kl2 ko2:Nat} (h:HKeep A rid kl ko B kl1 ko1) (h':HKeep B rid kl1 ko1 C kl2 ko2):HKeep A rid kl ko C kl2 ko2:=by
 obtain⟨a1,a2,a3,a4⟩:=h
 obtain⟨b1,b2,b3,b4⟩:=h'
 refine⟨by omega,?_,?_,fun j j1 j2 j3 j4=>?_⟩
 ·rcases b2 with h | h
  ·rw[h];exact a2
  ·exact .inr (by omega)
 ·rcases b3 with h | h
  ·rw[h];exact a3
  ·exact .inr (by omega)
 ·rw[b4 j (by omega) j2 (by rcases a2 with h | h<;>omega) (by rcases a3 with h | h<;>omega)]
  exact a4 j j1 j2 j3 j4
theorem HKeep.of {A B:AHeap} (rid kl ko:Nat) (h:Kept A B):HKeep A rid kl ko B kl ko:=⟨h.1,.inl rfl,.inl rfl,fun j hj _ _ _=>h.2 j hj⟩
def textO (h:HSt):Except Nat (Option HSt):=
 if h.s.getD 0 0≠60 then
  (if(unescS (Lib.cut h.s [60]).1).2=true then .ok (some (h.add 2 [] (unescS (Lib.cut h.s [60]).1).1 (h.s.drop (Lib.cut h.s [60]).1.length)))else .error 5)
 else .ok none
set_option maxHeartbeats 4000000 in
set_option maxRecDepth 100000 in
theorem h_text_ok {G:Nat→Option (List AV)} (E:Env G) (B:EnvB G) (P:EnvP G) {H:AHeap} {rid kl ko:Nat} {h:HSt} (hr:RdrAt H rid kl ko h) (hs:h.s.length≤900000000) (hne:h.s≠[]) (hl:h.l.length<100000000) :
  ACalls Tryz.prog G 60 [.ptr rid 0] H (RdPost h H rid kl ko (textO h)):=by
 refine ACalls.of Tryz.func60 S60_eq R60 N60 rfl rfl ?_
 have hr0:=hr
 obtain⟨a1,a2,a3,a4,a5,a6,a7,a8,a9⟩:=hr
 obtain⟨c,t,hct⟩:=cons_of hne
 have hg:h.s[0]?=some c:=by rw[hct];rfl
 have hgd:h.s.getD 0 0=c:=by rw[hct];rfl
 unfold textO
 rw[hgd]
 by_cases h60:c=60
 ·have b0:((c.toNat:Int)==60)=true:=by rw[h60];rfl
  rw[if_neg (by simp[h60])]
  simp (maxSteps:=400000) only[wF,storeA,reduceCtorEq,Nat.reduceAdd,Nat.reduceSub,Nat.reduceEqDiff,Nat.reduceLeDiff,Int.reduceToNat,Int.reduceLE,Int.reduceLT,Int.reduceAdd,Int.reduceNeg,Nat.reduceMul,S60,N60,R60,T60,a1,hg,b0]
  exact⟨rfl,hr0.keep (Kept.refl H)⟩
 ·have b0:((c.toNat:Int)==60)=false:=by
   have:=h_byte_ne (c:=c) (n:=60) (by omega)
   rw[beq_eq_false_iff_ne]
   intro e
   exact h60 (UInt8.toNat_inj.1 (by simpa using Int.ofNat_inj.1 e))
  rw[if_pos h60]
  simp (maxSteps:=400000) only[wF,storeA,reduceCtorEq,Nat.reduceAdd,Nat.reduceSub,Nat.reduceEqDiff,Nat.reduceLeDiff,Int.reduceToNat,Int.reduceLE,Int.reduceLT,Int.reduceAdd,Int.reduceNeg,Nat.reduceMul,S60,N60,R60,T60,a1,hg,b0]
  refine AInv.pureK E.cutB (E.cut _ _ (by omega)) fun H1 h1=>?_
  have c1:=(congrFun h1.2 _).trans a1
  have hcl:=cut_len h.s [60]
  generalize Lib.cut h.s [60]=x at hcl ⊢
  obtain⟨tx,rest,ok⟩:=x
  simp only at hcl ⊢
  have v1:((0:Int)≤(tx.length:Int))=True:=by simp
  have v2:((tx.length:Int)≤(h.s.length:Int))=True:=by simp;omega
  simp (maxSteps:=400000) only[wF,storeA,reduceCtorEq,Nat.reduceAdd,Nat.reduceSub,Nat.reduceEqDiff,Nat.reduceLeDiff,Int.reduceToNat,Int.reduceLE,Int.reduceLT,Int.reduceAdd,Int.reduceNeg,Nat.reduceMul,T60,c1,v1,v2,AV.boxable]
  obtain⟨r1,k1⟩:=hr0.keep h1.kept
  obtain⟨r2,k2⟩:=r1.setS (h.s.drop tx.length)
  generalize AHeap.set H1 rid _=X at r2 k2 ⊢
  refine AInv.retK B96 (h_unescape_ok E B P (by omega) X) (fun v H3 hq=>?_) (fun v H3 hq=>by cases hq.1)
  obtain⟨hq,h3⟩:=hq
  cases hq
  obtain⟨r3,k3⟩:=r2.keep h3
  have k13:=(k1.trans k2).trans k3
  cases hu:(unescS tx).2 with
  | false=>
   rw[if_neg (by simp)]
   simp (maxSteps:=400000) only[wF,storeA,reduceCtorEq,Nat.reduceAdd,Nat.reduceSub,Nat.reduceEqDiff,Nat.reduceLeDiff,Int.reduceToNat,Int.reduceLE,Int.reduceLT,Int.reduceAdd,Int.reduceNeg,Nat.reduceMul,T60,Bool.not_false,buildA,fillA,ifaceA,AV.boxable]
   exact⟨rfl,k13.1,k13.2.2.2⟩
  | true=>
   rw[if_pos rfl]
   simp (maxSteps:=400000) only[wF,storeA,reduceCtorEq,Nat.reduceAdd,Nat.reduceSub,Nat.reduceEqDiff,Nat.reduceLeDiff,Int.reduceToNat,Int.reduceLE,Int.reduceLT,Int.reduceAdd,Int.reduceNeg,Nat.reduceMul,T60,Bool.not_true]
   refine AInv.call B94 (h_add_ok G r3 hl) fun r4 H4 h4=>?_
   obtain⟨⟨_,rfl⟩,kl',r4,k4⟩:=h4
   simp (maxSteps:=400000) only[wF,storeA,reduceCtorEq,Nat.reduceAdd,Nat.reduceSub,Nat.reduceEqDiff,Nat.reduceLeDiff,Int.reduceToNat,Int.reduceLE,Int.reduceLT,Int.reduceAdd,Int.reduceNeg,Nat.reduceMul,T60]
   exact⟨rfl,kl',ko,r4,k13.trans k4⟩
theorem Weak.popRdr (G:Nat→Option (List AV)) {H:AHeap} {rid kl ko:Nat} {e re:TypeId} {cs:List AV} {k n:Nat} {x0:AV} (hpid:H.get rid=some (.cells e [x0,.slc kl n,.slc ko k])) (hrow:H.get ko=some (.row re 1 cs)) (hk:k≤cs.length) (hpn:rid<H.next) (hkn:ko<H.next) (a:List AV) :
  ∃H',Weak G a H a H'∧H'.get rid=some (.cells e [x0,.slc kl n,.slc H.next k])∧H'.get H.next=some (.row re 1 (cs.take k))∧H'.next=H.next+1∧∀j,j<H.next→j≠rid→j≠ko→H'.get j=H.get j:=by
 have hne:rid≠ko:=by
  intro h
  subst h
  rw[hpid]at hrow
  cases hrow
 refine⟨⟨H.next+1,fun j=>if j=H.next then some (.row re 1 (cs.take k))else if j=ko then none else if j=rid then some (.cells e [x0,.slc kl n,.slc H.next k])else H.get j⟩,
  Weak.rename hrow (by omega) H.next k (by omega) (Nat.le_refl _) (Nat.lt_succ_self _) ?_ (by simp) (fun j=>?_) (Tzs.refl _),?_,by simp,rfl,fun j h1 h2 h3=>?_⟩
 ·simp
  omega
 ·by_cases h1:j=H.next
  ·exact .inl h1
  ·by_cases h2:j=ko
   ·exact .inr (.inl (by subst h2;simp[h1]))
   ·by_cases h3:j=rid
    ·subst h3
     exact .inr (.inr ⟨_,.cells e [x0,.slc kl n,.slc H.next k],hpid,by simp[h1,h2],.cells _ _ _ (show Tzs _ _ _ _ _ from ⟨.same _,.same _,.slc _ _ (by simp),trivial⟩)⟩)
    ·cases hg:H.get j with
     | none=>exact .inr (.inl (by simp[h1,h2,h3,hg]))
     | some o=>exact .inr (.inr ⟨o,o,rfl,by simp[h1,h2,h3,hg],.same o⟩)
 ·have:rid≠H.next:=by omega
  simp[this,hne]
 ·have:j≠H.next:=by omega
  simp[this,h2,h3]
def endO (h:HSt):Except Nat (Option HSt):=
 match endHS h.s with
 | none => .ok none
 | some (name,rest)=>if h.opens.getLast?=some name then .ok (some { h.add 1 name [] rest with opens:=h.opens.dropLast })else .error 110
set_option maxHeartbeats 4000000 in
set_option maxRecDepth 100000 in
theorem h_end_ok {G:Nat→Option (List AV)} (E:Env G) {H:AHeap} {rid kl ko:Nat} {h:HSt} (hr:RdrAt H rid kl ko h) (hs:h.s.length≤900000000) (hl:h.l.length<100000000) (ho:h.opens.length<100000000) :
  ACalls Tryz.prog G 61 [.ptr rid 0] H (RdPost h H rid kl ko (endO h)):=by
 refine ACalls.of Tryz.func61 S61_eq R61 N61 rfl rfl ?_
 have hr0:=hr
 obtain⟨a1,a2,a3,a4,a5,a6,a7,a8,a9⟩:=hr
 have hE:endHS h.s=if Lib.hasPrefix h.s [60,47]=true∧(Lib.cut (Lib.trimPrefix h.s [60,47]) [62]).2.2=true∧isNameS (Lib.cut (Lib.trimPrefix h.s [60,47]) [62]).1=true then some ((Lib.cut (Lib.trimPrefix h.s [60,47]) [62]).1,(Lib.cut (Lib.trimPrefix h.s [60,47]) [62]).2.1)else none:=rfl
 have htl:=Lib.trimPrefix_le h.s [60,47]
 simp (maxSteps:=400000) only[wF,storeA,reduceCtorEq,Nat.reduceAdd,Nat.reduceSub,Nat.reduceEqDiff,Nat.reduceLeDiff,Int.reduceToNat,Int.reduceLE,Int.reduceLT,Int.reduceAdd,Int.reduceNeg,Nat.reduceMul,S61,N61,R61,T61,a1]
 refine AInv.pureK E.cutPreB (E.cutPre _ _) fun H1 h1=>?_
 simp (maxSteps:=400000) only[wF,storeA,reduceCtorEq,Nat.reduceAdd,Nat.reduceSub,Nat.reduceEqDiff,Nat.reduceLeDiff,Int.reduceToNat,Int.reduceLE,Int.reduceLT,Int.reduceAdd,Int.reduceNeg,Nat.reduceMul,T61]
 generalize Lib.trimPrefix h.s [60,47]=u at hE htl ⊢
 refine AInv.pureK E.cutB (E.cut _ _ (by omega)) fun H2 h2=>?_
 have h12:=h1.trans h2
 have hcl:=cut_len u [62]
 generalize Lib.cut u [62]=x at hE hcl ⊢
 obtain⟨name,rest,ok⟩:=x
 simp only at hE hcl ⊢
 unfold endO
 cases hp:Lib.hasPrefix h.s [60,47]with
 | false=>
  rw[hp,if_neg (by simp)]at hE
  simp (maxSteps:=400000) only[wF,storeA,reduceCtorEq,Nat.reduceAdd,Nat.reduceSub,Nat.reduceEqDiff,Nat.reduceLeDiff,Int.reduceToNat,Int.reduceLE,Int.reduceLT,Int.reduceAdd,Int.reduceNeg,Nat.reduceMul,T61,Bool.not_false]
  rw[hE]
  exact⟨rfl,hr0.keep h12.kept⟩
 | true=>
  cases ok with
  | false=>
   rw[if_neg (by simp)]at hE
   simp (maxSteps:=400000) only[wF,storeA,reduceCtorEq,Nat.reduceAdd,Nat.reduceSub,Nat.reduceEqDiff,Nat.reduceLeDiff,Int.reduceToNat,Int.reduceLE,Int.reduceLT,Int.reduceAdd,Int.reduceNeg,Nat.reduceMul,T61,Bool.not_false,Bool.not_true]
   rw[hE]
   exact⟨rfl,hr0.keep h12.kept⟩
  | true=>
   simp (maxSteps:=400000) only[wF,storeA,reduceCtorEq,Nat.reduceAdd,Nat.reduceSub,Nat.reduceEqDiff,Nat.reduceLeDiff,Int.reduceToNat,Int.reduceLE,Int.reduceLT,Int.reduceAdd,Int.reduceNeg,Nat.reduceMul,T61,Bool.not_true]
   refine AInv.pureK B80 (isName_ok E (by omega)) fun H3 h3=>?_
   have h13:=h12.trans h3
   cases hnm:isNameS name with
   | false=>
    rw[hnm,if_neg (by simp)]at hE
    simp (maxSteps:=400000) only[wF,storeA,reduceCtorEq,Nat.reduceAdd,Nat.reduceSub,Nat.reduceEqDiff,Nat.reduceLeDiff,Int.reduceToNat,Int.reduceLE,Int.reduceLT,Int.reduceAdd,Int.reduceNeg,Nat.reduceMul,T61,Bool.not_false]
    rw[hE]
    exact⟨rfl,hr0.keep h13.kept⟩
   | true=>
    rw[hp,hnm,if_pos ⟨rfl,rfl,rfl⟩]at hE
    rw[hE]
    simp only
    have c1:=(congrFun h13.2 _).trans a1
    have c3:=(congrFun h13.2 _).trans a3
    rcases List.eq_nil_or_concat h.opens with ho0 | ⟨init,last,ho1⟩
    ·have e0:IntKind.i64.wrap (((h.opens.length:Nat):Int)-1) = -1:=by rw[ho0];first | done | rfl
     have d0:decide ((-1:Int)<0)=true:=rfl
     rw[if_neg (by rw[ho0];simp)]
     simp (maxSteps:=400000) only[wF,storeA,reduceCtorEq,Nat.reduceAdd,Nat.reduceSub,Nat.reduceEqDiff,Nat.reduceLeDiff,Int.reduceToNat,Int.reduceLE,Int.reduceLT,Int.reduceAdd,Int.reduceNeg,Nat.reduceMul,T61,Bool.not_true,c1,e0,d0,buildA,fillA,ifaceA,AV.boxable]
     have:=h13.kept
     exact⟨rfl,this.1,fun j hj _ _ _=>this.2 j hj⟩
    ·rw[List.concat_eq_append]at ho1
     have hol:h.opens.length=init.length+1:=by rw[ho1];simp
     have e0:IntKind.i64.wrap (((h.opens.length:Nat):Int)-1)=(init.length:Int):=by rw[hol,wrap64]<;>omega
     have d0:decide ((init.length:Int)<0)=false:=by simp
     have q0:((0:Int)≤(init.length:Int))=True:=by simp
     have q1:((init.length:Int)<((h.opens.length:Nat):Int))=True:=by simp;omega
     have q2:((init.length:Int)≤((h.opens.length:Nat):Int))=True:=by simp;omega
     have hgl:(strsH h.opens)[init.length]?=some (.str last):=by rw[ho1];simp[strsH]
     cases hnx:(last==name)with
     | false=>
      have hg:¬h.opens.getLast?=some name:=by rw[ho1];simp at hnx ⊢;exact hnx
      rw[if_neg hg]
      simp (maxSteps:=400000) only[wF,storeA,reduceCtorEq,Nat.reduceAdd,Nat.reduceSub,Nat.reduceEqDiff,Nat.reduceLeDiff,Int.reduceToNat,Int.reduceLE,Int.reduceLT,Int.reduceAdd,Int.reduceNeg,Nat.reduceMul,T61,Bool.not_true,c1,c3,e0,d0,q0,q1,hgl,hnx,indexAddrA,Nat.mul_one,Bool.not_false,buildA,fillA,ifaceA,AV.boxable]
      have:=h13.kept
      exact⟨rfl,this.1,fun j hj _ _ _=>this.2 j hj⟩
     | true=>
      have hg:h.opens.getLast?=some name:=by rw[ho1];simp at hnx ⊢;exact hnx
      rw[if_pos hg]
      simp (maxSteps:=400000) only[wF,storeA,reduceCtorEq,Nat.reduceAdd,Nat.reduceSub,Nat.reduceEqDiff,Nat.reduceLeDiff,Int.reduceToNat,Int.reduceLE,Int.reduceLT,Int.reduceAdd,Int.reduceNeg,Nat.reduceMul,T61,Bool.not_true,c1,c3,e0,d0,q0,q1,q2,hgl,hnx,indexAddrA,Nat.mul_one,sliceA,boundA,AV.boxable,h_set_set]
      have m13:=h13.1
      generalize hX:AHeap.set H3 rid _=X
      have xn:X.next=H3.next:=by rw[←hX];rfl
      have xx:X.get rid=some (.cells 57 [.str rest,.slc kl h.l.length,.slc ko init.length]):=by rw[←hX,AHeap.get_set_same]
      have xo:∀j,j≠rid→X.get j=H3.get j:=fun j hj=>by rw[←hX,AHeap.get_set_ne _ _ hj]
      clear hX
      obtain⟨H4,hw,w1,w2,w3,w4⟩:=Weak.popRdr G xx ((xo _ (by omega)).trans c3) (k:=init.length) (by rw[strsH_len];omega) (by omega) (by omega) [.ptr rid 0,.int .i64 (1:Nat),.str name,.str []]
      have hdl:h.opens.dropLast=init:=by rw[ho1];simp
      have r4:RdrAt H4 rid kl X.next { s:=rest,l:=h.l,opens:=init }:=by
       refine⟨w1,?_,?_,a4,by omega,by omega,by omega,by omega,by omega⟩
       ·rw[w4 _ (by omega) (by omega) a6,xo _ (by omega),h13.2];exact a2
       ·rw[w2,ho1]
        simp[strsH]
      have k4:HKeep H rid kl ko H4 kl X.next:=⟨by omega,.inl rfl,.inr (by omega),fun j j1 j2 j3 j4=>by rw[w4 j (by omega) j2 j4,xo j j2,h13.2]⟩
      refine AInv.call B94 (ACalls.weak hw (h_add_ok G r4 hl)) fun r5 H5 h5=>?_
      obtain⟨⟨_,rfl⟩,kl',r5,k5⟩:=h5
      simp (maxSteps:=400000) only[wF,storeA,reduceCtorEq,Nat.reduceAdd,Nat.reduceSub,Nat.reduceEqDiff,Nat.reduceLeDiff,Int.reduceToNat,Int.reduceLE,Int.reduceLT,Int.reduceAdd,Int.reduceNeg,Nat.reduceMul,T61]
      rw[hdl]
      exact⟨rfl,kl',X.next,r5,k4.trans k5⟩
def commentO (h:HSt):Except Nat (Option HSt):=
 match commentHS h.s with
 | none => .ok none
 | some (text,rest) => .ok (some (h.add 3 [] text rest))
set_option maxHeartbeats 4000000 in
set_option maxRecDepth 100000 in
theorem h_comment_ok {G:Nat→Option (List AV)} (E:Env G) {H:AHeap} {rid kl ko:Nat} {h:HSt} (hr:RdrAt H rid kl ko h) (hs:h.s.length≤900000000) (hl:h.l.length<100000000) :
  ACalls Tryz.prog G 62 [.ptr rid 0] H (RdPost h H rid kl ko (commentO h)):=by
 refine ACalls.of Tryz.func62 S62_eq R62 N62 rfl rfl ?_
 have hr0:=hr
 obtain⟨a1,a2,a3,a4,a5,a6,a7,a8,a9⟩:=hr
 have hE:commentHS h.s=if Lib.hasPrefix h.s sCom=true∧(Lib.cut (Lib.trimPrefix h.s sCom) sDash).2.2=true∧Lib.hasPrefix (Lib.cut (Lib.trimPrefix h.s sCom) sDash).2.1 [62]=true then some ((Lib.cut (Lib.trimPrefix h.s sCom) sDash).1,(Lib.cut (Lib.trimPrefix h.s sCom) sDash).2.1.drop 1)else none:=rfl
 have htl:=Lib.trimPrefix_le h.s sCom
 unfold sCom sDash at hE
 unfold sCom at htl
 simp (maxSteps:=400000) only[wF,storeA,reduceCtorEq,Nat.reduceAdd,Nat.reduceSub,Nat.reduceEqDiff,Nat.reduceLeDiff,Int.reduceToNat,Int.reduceLE,Int.reduceLT,Int.reduceAdd,Int.reduceNeg,Nat.reduceMul,S62,N62,R62,T62,a1]
 refine AInv.pureK E.cutPreB (E.cutPre _ _) fun H1 h1=>?_
 simp (maxSteps:=400000) only[wF,storeA,reduceCtorEq,Nat.reduceAdd,Nat.reduceSub,Nat.reduceEqDiff,Nat.reduceLeDiff,Int.reduceToNat,Int.reduceLE,Int.reduceLT,Int.reduceAdd,Int.reduceNeg,Nat.reduceMul,T62]
 generalize Lib.trimPrefix h.s [60,33,45,45]=u at hE htl ⊢
 refine AInv.pureK E.cutB (E.cut _ _ (by omega)) fun H2 h2=>?_
 have h12:=h1.trans h2
 generalize Lib.cut u [45,45]=x at hE ⊢
 obtain⟨text,rest,ok⟩:=x
 simp only at hE ⊢
 unfold commentO
 cases hp:Lib.hasPrefix h.s [60,33,45,45]with
 | false=>
  rw[hp,if_neg (by simp)]at hE
  simp (maxSteps:=400000) only[wF,storeA,reduceCtorEq,Nat.reduceAdd,Nat.reduceSub,Nat.reduceEqDiff,Nat.reduceLeDiff,Int.reduceToNat,Int.reduceLE,Int.reduceLT,Int.reduceAdd,Int.reduceNeg,Nat.reduceMul,T62,Bool.not_false]
  rw[hE]
  exact⟨rfl,hr0.keep h12.kept⟩
 | true=>
  cases ok with
  | false=>
   rw[if_neg (by simp)]at hE
   simp (maxSteps:=400000) only[wF,storeA,reduceCtorEq,Nat.reduceAdd,Nat.reduceSub,Nat.reduceEqDiff,Nat.reduceLeDiff,Int.reduceToNat,Int.reduceLE,Int.reduceLT,Int.reduceAdd,Int.reduceNeg,Nat.reduceMul,T62,Bool.not_false,Bool.not_true]
   rw[hE]
   exact⟨rfl,hr0.keep h12.kept⟩
  | true=>
   simp (maxSteps:=400000) only[wF,storeA,reduceCtorEq,Nat.reduceAdd,Nat.reduceSub,Nat.reduceEqDiff,Nat.reduceLeDiff,Int.reduceToNat,Int.reduceLE,Int.reduceLT,Int.reduceAdd,Int.reduceNeg,Nat.reduceMul,T62,Bool.not_true]
   refine AInv.pureK E.hasPreB (E.hasPre _ _) fun H3 h3=>?_
   have h13:=h12.trans h3
   cases hg:Lib.hasPrefix rest [62]with
   | false=>
    rw[hg,if_neg (by simp)]at hE
    simp (maxSteps:=400000) only[wF,storeA,reduceCtorEq,Nat.reduceAdd,Nat.reduceSub,Nat.reduceEqDiff,Nat.reduceLeDiff,Int.reduceToNat,Int.reduceLE,Int.reduceLT,Int.reduceAdd,Int.reduceNeg,Nat.reduceMul,T62,Bool.not_false]
    rw[hE]
    exact⟨rfl,hr0.keep h13.kept⟩
   | true=>
    rw[hp,hg,if_pos ⟨rfl,rfl,rfl⟩]at hE
    have hgl:=hasPrefix_len hg
    simp only[List.length_cons,List.length_nil]at hgl
    have v2:((1:Int)≤(rest.length:Int))=True:=by simp;omega
    simp (maxSteps:=400000) only[wF,storeA,reduceCtorEq,Nat.reduceAdd,Nat.reduceSub,Nat.reduceEqDiff,Nat.reduceLeDiff,Int.reduceToNat,Int.reduceLE,Int.reduceLT,Int.reduceAdd,Int.reduceNeg,Nat.reduceMul,T62,Bool.not_true]
    obtain⟨r3,k3⟩:=hr0.keep h13.kept
    refine AInv.call B94 (h_add_ok G r3 hl) fun r4 H4 h4=>?_
    obtain⟨⟨_,rfl⟩,kl',r4,k4⟩:=h4
    obtain⟨r5,k5⟩:=r4.setS (rest.drop 1)
    obtain⟨e1,-⟩:=r4
    simp (maxSteps:=400000) only[wF,storeA,reduceCtorEq,Nat.reduceAdd,Nat.reduceSub,Nat.reduceEqDiff,Nat.reduceLeDiff,Int.reduceToNat,Int.reduceLE,Int.reduceLT,Int.reduceAdd,Int.reduceNeg,Nat.reduceMul,T62,e1,v2,AV.boxable]
    rw[hE]
    exact⟨rfl,kl',ko,r5,(k3.trans k4).trans k5⟩
def instrO (h:HSt):Except Nat (Option HSt):=
 match instrHS h.s with
 | none => .ok none
 | some (name,text,rest) => .ok (some (h.add 4 name text rest))
set_option maxHeartbeats 4000000 in
set_option maxRecDepth 100000 in
theorem h_instruction_ok {G:Nat→Option (List AV)} (E:Env G) {H:AHeap} {rid kl ko:Nat} {h:HSt} (hr:RdrAt H rid kl ko h) (hs:h.s.length≤900000000) (hl:h.l.length<100000000) :
  ACalls Tryz.prog G 63 [.ptr rid 0] H (RdPost h H rid kl ko (instrO h)):=by
 refine ACalls.of Tryz.func63 S63_eq R63 N63 rfl rfl ?_
 have hr0:=hr
 obtain⟨a1,a2,a3,a4,a5,a6,a7,a8,a9⟩:=hr
 have hE:instrHS h.s=if Lib.hasPrefix h.s [60,63]=true∧(Lib.cut (Lib.trimPrefix h.s [60,63]) [62]).2.2=true∧isNameS (Lib.cut (Lib.cut (Lib.trimPrefix h.s [60,63]) [62]).1 [32]).1=true∧lowS (Lib.cut (Lib.cut (Lib.trimPrefix h.s [60,63]) [62]).1 [32]).1≠[120,109,108]∧¬((Lib.cut (Lib.cut (Lib.trimPrefix h.s [60,63]) [62]).1 [32]).2.2=true∧((Lib.cut (Lib.cut (Lib.trimPrefix h.s [60,63]) [62]).1 [32]).2.1=[]∨0≤Lib.indexByte [32,9,10,13] ((Lib.cut (Lib.cut (Lib.trimPrefix h.s [60,63]) [62]).1 [32]).2.1.getD 0 0)))then some ((Lib.cut (Lib.cut (Lib.trimPrefix h.s [60,63]) [62]).1 [32]).1,(Lib.cut (Lib.cut (Lib.trimPrefix h.s [60,63]) [62]).1 [32]).2.1,(Lib.cut (Lib.trimPrefix h.s [60,63]) [62]).2.1)else none:=rfl
 have htl:=Lib.trimPrefix_le h.s [60,63]
 simp (maxSteps:=400000) only[wF,storeA,reduceCtorEq,Nat.reduceAdd,Nat.reduceSub,Nat.reduceEqDiff,Nat.reduceLeDiff,Int.reduceToNat,Int.reduceLE,Int.reduceLT,Int.reduceAdd,Int.reduceNeg,Nat.reduceMul,S63,N63,R63,T63,a1]
 refine AInv.pureK E.cutPreB (E.cutPre _ _) fun H1 h1=>?_
 simp (maxSteps:=400000) only[wF,storeA,reduceCtorEq,Nat.reduceAdd,Nat.reduceSub,Nat.reduceEqDiff,Nat.reduceLeDiff,Int.reduceToNat,Int.reduceLE,Int.reduceLT,Int.reduceAdd,Int.reduceNeg,Nat.reduceMul,T63]
 generalize Lib.trimPrefix h.s [60,63]=u at hE htl ⊢
 refine AInv.pureK E.cutB (E.cut _ _ (by omega)) fun H2 h2=>?_
 have hcl:=cut_len u [62]
 generalize Lib.cut u [62]=x at hE hcl ⊢
 obtain⟨ins,rest,ok⟩:=x
 simp only at hE hcl ⊢
 simp (maxSteps:=400000) only[wF,storeA,reduceCtorEq,Nat.reduceAdd,Nat.reduceSub,Nat.reduceEqDiff,Nat.reduceLeDiff,Int.reduceToNat,Int.reduceLE,Int.reduceLT,Int.reduceAdd,Int.reduceNeg,Nat.reduceMul,T63]
 refine AInv.pureK E.cutB (E.cut _ _ (by omega)) fun H3 h3=>?_
 have h13:=(h1.trans h2).trans h3
 have hcl2:=cut_len ins [32]
 generalize Lib.cut ins [32]=y at hE hcl2 ⊢
 obtain⟨name,text,has⟩:=y
 simp only at hE hcl2 ⊢
 unfold instrO
 cases hp:Lib.hasPrefix h.s [60,63]with
 | false=>
  rw[hp,if_neg (by simp)]at hE
  simp (maxSteps:=400000) only[wF,storeA,reduceCtorEq,Nat.reduceAdd,Nat.reduceSub,Nat.reduceEqDiff,Nat.reduceLeDiff,Int.reduceToNat,Int.reduceLE,Int.reduceLT,Int.reduceAdd,Int.reduceNeg,Nat.reduceMul,T63,Bool.not_false]
  rw[hE]
  exact⟨rfl,hr0.keep h13.kept⟩
 | true=>
  cases ok with
  | false=>
   rw[if_neg (by simp)]at hE
   simp (maxSteps:=400000) only[wF,storeA,reduceCtorEq,Nat.reduceAdd,Nat.reduceSub,Nat.reduceEqDiff,Nat.reduceLeDiff,Int.reduceToNat,Int.reduceLE,Int.reduceLT,Int.reduceAdd,Int.reduceNeg,Nat.reduceMul,T63,Bool.not_false,Bool.not_true]
   rw[hE]
   exact⟨rfl,hr0.keep h13.kept⟩
  | true=>
   simp (maxSteps:=400000) only[wF,storeA,reduceCtorEq,Nat.reduceAdd,Nat.reduceSub,Nat.reduceEqDiff,Nat.reduceLeDiff,Int.reduceToNat,Int.reduceLE,Int.reduceLT,Int.reduceAdd,Int.reduceNeg,Nat.reduceMul,T63,Bool.not_true]
   refine AInv.pureK B80 (isName_ok E (by omega)) fun H4 h4=>?_
   have h14:=h13.trans h4
   cases hnm:isNameS name with
   | false=>
    rw[hnm,if_neg (by simp)]at hE
    simp (maxSteps:=400000) only[wF,storeA,reduceCtorEq,Nat.reduceAdd,Nat.reduceSub,Nat.reduceEqDiff,Nat.reduceLeDiff,Int.reduceToNat,Int.reduceLE,Int.reduceLT,Int.reduceAdd,Int.reduceNeg,Nat.reduceMul,T63,Bool.not_false]
    rw[hE]
    exact⟨rfl,hr0.keep h14.kept⟩
   | true=>
    simp (maxSteps:=400000) only[wF,storeA,reduceCtorEq,Nat.reduceAdd,Nat.reduceSub,Nat.reduceEqDiff,Nat.reduceLeDiff,Int.reduceToNat,Int.reduceLE,Int.reduceLT,Int.reduceAdd,Int.reduceNeg,Nat.reduceMul,T63,Bool.not_true]
    refine AInv.pureK B98 (h_lower_ok G (by omega)) fun H5 h5=>?_
    have h15:=h14.trans h5
    cases hx:(lowS name==[120,109,108])with
    | true=>
     rw[if_neg (by simp at hx;simp[hx])]at hE
     simp (maxSteps:=400000) only[wF,storeA,reduceCtorEq,Nat.reduceAdd,Nat.reduceSub,Nat.reduceEqDiff,Nat.reduceLeDiff,Int.reduceToNat,Int.reduceLE,Int.reduceLT,Int.reduceAdd,Int.reduceNeg,Nat.reduceMul,T63,hx]
     rw[hE]
     exact⟨rfl,hr0.keep h15.kept⟩
    | false=>
     have hx2:lowS name≠[120,109,108]:=by simpa using hx
     have good:∀(H6:AHeap),Keeps H H6→instrHS h.s=some (name,text,rest)→True:=fun _ _ _=>trivial
     rw[hp,hnm]at hE
     cases has with
     | false=>
      rw[if_pos ⟨rfl,rfl,rfl,hx2,by simp⟩]at hE
      simp (maxSteps:=400000) only[wF,storeA,reduceCtorEq,Nat.reduceAdd,Nat.reduceSub,Nat.reduceEqDiff,Nat.reduceLeDiff,Int.reduceToNat,Int.reduceLE,Int.reduceLT,Int.reduceAdd,Int.reduceNeg,Nat.reduceMul,T63,hx]
      obtain⟨r3,k3⟩:=hr0.keep h15.kept
      refine AInv.call B94 (h_add_ok G r3 hl) fun r4 H4 h4=>?_
      obtain⟨⟨_,rfl⟩,kl',r4,k4⟩:=h4
      obtain⟨r5,k5⟩:=r4.setS rest
      obtain⟨e1,-⟩:=r4
      simp (maxSteps:=400000) only[wF,storeA,reduceCtorEq,Nat.reduceAdd,Nat.reduceSub,Nat.reduceEqDiff,Nat.reduceLeDiff,Int.reduceToNat,Int.reduceLE,Int.reduceLT,Int.reduceAdd,Int.reduceNeg,Nat.reduceMul,T63,e1,AV.boxable]
      rw[hE]
      exact⟨rfl,kl',ko,r5,(k3.trans k4).trans k5⟩
     | true=>
      cases text with
      | nil=>
       rw[if_neg (by simp)]at hE
       have z:(([]:List UInt8)==[])=true:=rfl
       simp (maxSteps:=400000) only[wF,storeA,reduceCtorEq,Nat.reduceAdd,Nat.reduceSub,Nat.reduceEqDiff,Nat.reduceLeDiff,Int.reduceToNat,Int.reduceLE,Int.reduceLT,Int.reduceAdd,Int.reduceNeg,Nat.reduceMul,T63,hx,z]
       rw[hE]
       exact⟨rfl,hr0.keep h15.kept⟩
      | cons c tx=>
       have z:((c::tx)==([]:List UInt8))=false:=rfl
       have hg:(c::tx)[0]?=some c:=rfl
       simp (maxSteps:=400000) only[wF,storeA,reduceCtorEq,Nat.reduceAdd,Nat.reduceSub,Nat.reduceEqDiff,Nat.reduceLeDiff,Int.reduceToNat,Int.reduceLE,Int.reduceLT,Int.reduceAdd,Int.reduceNeg,Nat.reduceMul,T63,hx,z,hg]
       refine AInv.pureK E.indexByteB (E.indexByte _ _) fun H6 h6=>?_
       have h16:=h15.trans h6
       have hgd:(c::tx).getD 0 0=c:=rfl
       rw[hgd]at hE
       by_cases hib:0≤Lib.indexByte [32,9,10,13] c
       ·have d1:decide (Lib.indexByte [32,9,10,13] c≥0)=true:=by simpa using hib
        rw[if_neg (by simp[hib])]at hE
        simp (maxSteps:=400000) only[wF,storeA,reduceCtorEq,Nat.reduceAdd,Nat.reduceSub,Nat.reduceEqDiff,Nat.reduceLeDiff,Int.reduceToNat,Int.reduceLE,Int.reduceLT,Int.reduceAdd,Int.reduceNeg,Nat.reduceMul,T63,d1]
        rw[hE]
        exact⟨rfl,hr0.keep h16.kept⟩
       ·have d1:decide (Lib.indexByte [32,9,10,13] c≥0)=false:=by simpa using hib
        rw[if_pos ⟨rfl,rfl,rfl,hx2,by simp[hib]⟩]at hE
        simp (maxSteps:=400000) only[wF,storeA,reduceCtorEq,Nat.reduceAdd,Nat.reduceSub,Nat.reduceEqDiff,Nat.reduceLeDiff,Int.reduceToNat,Int.reduceLE,Int.reduceLT,Int.reduceAdd,Int.reduceNeg,Nat.reduceMul,T63,d1]
        obtain⟨r3,k3⟩:=hr0.keep h16.kept
        refine AInv.call B94 (h_add_ok G r3 hl) fun r4 H4 h4=>?_
        obtain⟨⟨_,rfl⟩,kl',r4,k4⟩:=h4
        obtain⟨r5,k5⟩:=r4.setS rest
        obtain⟨e1,-⟩:=r4
        simp (maxSteps:=400000) only[wF,storeA,reduceCtorEq,Nat.reduceAdd,Nat.reduceSub,Nat.reduceEqDiff,Nat.reduceLeDiff,Int.reduceToNat,Int.reduceLE,Int.reduceLT,Int.reduceAdd,Int.reduceNeg,Nat.reduceMul,T63,e1,AV.boxable]
        rw[hE]
        exact⟨rfl,kl',ko,r5,(k3.trans k4).trans k5⟩
end Go.Ab
