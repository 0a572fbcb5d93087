/- reparse's reader: add, raw, text, end, comment, instruction, walked. -/
import Derived.Test.YtojncnpmlhhccaaGreatDoorHW2
set_option linter.all false
namespace Go.Ab
open Go Go.Lib Go.Proofs
def attrsH (l:List (List UInt8 × List UInt8)):List AV:=l.flatMap fun a=>[.str a.1,.str a.2]
theorem attrsH_len (l:List (List UInt8 × List UInt8)):(attrsH l).length=l.length*2:=by
 induction l with
 | nil=>rfl
 | cons a l ih=>simp only[attrsH,List.flatMap_cons,List.length_append,List.length_cons,List.length_nil]at ih ⊢;rw[ih];omega
def strsH (l:List (List UInt8)):List AV:=l.map AV.str
theorem strsH_len (l:List (List UInt8)):(strsH l).length=l.length:=by simp[strsH]
def atH (l:List (List UInt8 × List UInt8)):AV:=if l=[]then .nils else .lst l.length (attrsH l)
def evH (x:Ev):List AV:=[.int .i64 x.kind,.str x.name,.str x.text,atH x.attrs,.int .i64 x.line,.int .i64 x.col]
def evsH (l:List Ev):List AV:=l.flatMap evH
theorem evsH_len (l:List Ev):(evsH l).length=l.length*6:=by
 induction l with
 | nil=>rfl
 | cons a l ih=>simp only[evsH,List.flatMap_cons,List.length_append,evH,List.length_cons,List.length_nil]at ih ⊢;rw[ih];omega
theorem evsH_app (l m:List Ev):evsH (l++m)=evsH l++evsH m:=by simp[evsH]
theorem evsH_at:∀(l:List Ev) (i:Nat) (h:i<l.length),((evsH l).drop (i*6)).take 6=evH l[i]
 | [],i,h=>by simp at h
 | a::l,0,_=>rfl
 | a::l,i+1,h=>by
  have:=evsH_at l i (by simpa using h)
  have e:(i+1)*6=i*6+1+1+1+1+1+1:=by omega
  simp only[evsH,List.flatMap_cons,e,evH,List.cons_append,List.nil_append,List.drop_succ_cons,List.getElem_cons_succ]at this ⊢
  exact this
theorem evsH_get (l:List Ev) (i k:Nat) (h:i<l.length) (hk:k<6):(evsH l)[i*6+k]?=(evH l[i])[k]?:=by
 have:=evsH_at l i h
 rw[←this,List.getElem?_take,if_pos hk,List.getElem?_drop]
def RdrAt (J:AHeap) (rid kl ko:Nat) (h:HSt):Prop:=
 J.get rid=some (.cells 57 [.str h.s,.slc kl h.l.length,.slc ko h.opens.length])∧J.get kl=some (.row 88 6 (evsH h.l))∧J.get ko=some (.row 9 1 (strsH h.opens))∧rid≠kl∧rid≠ko∧kl≠ko∧rid<J.next∧kl<J.next∧ko<J.next
def HKeep (J:AHeap) (rid kl ko:Nat) (J':AHeap) (kl' ko':Nat):Prop:=
 J.next≤J'.next∧(kl'=kl∨J.next≤kl')∧(ko'=ko∨J.next≤ko')∧∀j,j<J.next→j≠rid→j≠kl→j≠ko→J'.get j=J.get j
def hwrongA (e:Nat):AV := .iface 53 (.agg [.int .i64 e])
def RdPost (h:HSt) (J:AHeap) (rid kl ko:Nat) (o:Except Nat (Option HSt)) (r:ARes) (J':AHeap):Prop:=
 match o with
 | .error e=>r = .pan (hwrongA e)∧J.next≤J'.next∧∀j,j<J.next→j≠rid→j≠kl→j≠ko→J'.get j=J.get j
 | .ok none=>r = .ret (.bool false)∧RdrAt J' rid kl ko h∧HKeep J rid kl ko J' kl ko
 | .ok (some h')=>r = .ret (.bool true)∧∃kl' ko',RdrAt J' rid kl' ko' h'∧HKeep J rid kl ko J' kl' ko'
theorem RdrAt.keep {J J':AHeap} {rid kl ko:Nat} {h:HSt} (hr:RdrAt J rid kl ko h) (hk:Kept J J'):RdrAt J' rid kl ko h∧HKeep J rid kl ko J' kl ko:=by
 obtain⟨a1,a2,a3,a4,a5,a6,a7,a8,a9⟩:=hr
 have:=hk.1
 exact⟨⟨(hk.2 _ a7).trans a1,(hk.2 _ a8).trans a2,(hk.2 _ a9).trans a3,a4,a5,a6,by omega,by omega,by omega⟩,this,.inl rfl,.inl rfl,fun j hj _ _ _=>hk.2 j hj⟩
set_option maxHeartbeats 4000000 in
set_option maxRecDepth 100000 in
theorem h_add_ok (G:Nat→Option (List AV)) {H:AHeap} {rid kl ko:Nat} {h:HSt} (hr:RdrAt H rid kl ko h) {k:Nat} {name text:List UInt8} (hl:h.l.length<100000000) :
  ACalls Tryz.prog G 94 [.ptr rid 0,.int .i64 k,.str name,.str text] H fun r H'=>(∃v,r = .ret v)∧∃kl',RdrAt H' rid kl' ko { h with l:=h.l++[⟨k,name,text,[],0,0⟩] }∧HKeep H rid kl ko H' kl' ko:=by
 refine ACalls.of Tryz.func94 S94_eq R94 N94 rfl rfl ?_
 obtain⟨a1,a2,a3,a4,a5,a6,a7,a8,a9⟩:=hr
 have u1:(H.next==kl)=false:=by simp;omega
 have u2:(h.l.length+1≤maxApp)=True:=by simp[maxApp];omega
 have u3:(kl=H.next)=False:=by simp;omega
 have u5:(rid=H.next)=False:=by simp;omega
 have u6:(rid=H.next+1)=False:=by simp;omega
 have u7:(rid=kl)=False:=by simp;omega
 simp (maxSteps:=400000) only[wF,storeA,reduceCtorEq,Nat.reduceAdd,Nat.reduceSub,Nat.reduceEqDiff,Nat.reduceLeDiff,Int.reduceToNat,Int.reduceLE,Int.reduceLT,Int.reduceAdd,Int.reduceNeg,Nat.reduceMul,S94,N94,R94,T94,a1,a2,u1,u2,u3,u5,u6,u7,buildA,appendA,appSrc,AV.isSlc,sliceLit,fillA,zerosA,srcCells,AV.boxable,Nat.le_refl,Nat.reduceLT,evsH_len]
 generalize hX:AHeap.set _ rid _=X
 refine⟨⟨_,rfl⟩,H.next+1,⟨?_,?_,?_,by omega,a5,by omega,?_,?_,?_⟩,?_,.inr (by omega),.inl rfl,fun j j1 j2 j3 j4=>?_⟩
 all_goals rw[←hX]
 ·rw[AHeap.get_set_same]
  simp
 ·rw[AHeap.get_set_ne _ _ (by omega),AHeap.get_allocAt_same]
  simp only[evsH_app]
  rfl
 ·rw[AHeap.get_set_ne _ _ (by omega),AHeap.get_allocAt_ne _ _ (by omega),AHeap.get_del_ne _ (by omega),AHeap.get_allocAt_ne _ _ (by omega)]
  exact a3
 ·simp only[AHeap.next_set,AHeap.next_allocAt,AHeap.next_del];omega
 ·simp only[AHeap.next_set,AHeap.next_allocAt,AHeap.next_del];omega
 ·simp only[AHeap.next_set,AHeap.next_allocAt,AHeap.next_del];omega
 ·simp only[AHeap.next_set,AHeap.next_allocAt,AHeap.next_del];omega
 ·rw[AHeap.get_set_ne _ _ j2,AHeap.get_allocAt_ne _ _ (by omega),AHeap.get_del_ne _ j3,AHeap.get_allocAt_ne _ _ (by omega)]
theorem getLast_at {l:List Ev} {x:Ev} (h:l.getLast?=some x):∃i,l.length=i+1∧l[i]?=some x:=by
 cases l with
 | nil=>simp at h
 | cons a l=>
  refine⟨l.length,rfl,?_⟩
  rw[List.getLast?_eq_getElem?]at h
  simpa using h
def rawO (h:HSt):Except Nat (Option HSt):=
 if rawNow h=true then(if Lib.index h.s [60,47]<0 then .error 5 else .ok (some (h.add 2 [] (h.s.take (Lib.index h.s [60,47]).toNat) (h.s.drop (Lib.index h.s [60,47]).toNat))))else .ok none
set_option maxHeartbeats 4000000 in
set_option maxRecDepth 100000 in
theorem h_raw_ok {G:Nat→Option (List AV)} (E:Env G) {H:AHeap} {rid kl ko:Nat} {h:HSt} (hr:RdrAt H rid kl ko h) (hs:h.s.length≤900000000) (hl:h.l.length<100000000) (hnm:∀x∈h.l,x.name.length≤900000000) :
  ACalls Tryz.prog G 59 [.ptr rid 0] H (RdPost h H rid kl ko (rawO h)):=by
 refine ACalls.of Tryz.func59 S59_eq R59 N59 rfl rfl ?_
 have hr0:=hr
 obtain⟨a1,a2,a3,a4,a5,a6,a7,a8,a9⟩:=hr
 cases hla:h.l.getLast? with
 | none=>
  have hl0:h.l=[]:=by simpa using hla
  have hno:rawNow h=false:=by unfold rawNow;rw[hla]
  have e0:IntKind.i64.wrap (((h.l.length:Nat):Int)-1) = -1:=by rw[hl0];first | done | rfl
  have d0:decide ((-1:Int)<0)=true:=rfl
  simp (maxSteps:=400000) only[wF,storeA,reduceCtorEq,Nat.reduceAdd,Nat.reduceSub,Nat.reduceEqDiff,Nat.reduceLeDiff,Int.reduceToNat,Int.reduceLE,Int.reduceLT,Int.reduceAdd,Int.reduceNeg,Nat.reduceMul,S59,N59,R59,T59,a1,a2,e0,d0]
  rw[rawO,hno]
  exact⟨rfl,hr0.keep (Kept.refl H)⟩
 | some x=>
  obtain⟨i,hi,hx⟩:=getLast_at hla
  have e0:IntKind.i64.wrap (((h.l.length:Nat):Int)-1)=(i:Int):=by rw[hi,wrap64]<;>omega
  have d0:decide ((i:Int)<0)=false:=by simp
  have q0:((i:Int)<(h.l.length:Int))=True:=by simp;omega
  have q1:((0:Int)≤(i:Int))=True:=by simp
  have hlt:i<h.l.length:=by omega
  have hxi:h.l[i]=x:=by
   have:=List.getElem?_eq_getElem hlt
   rw[hx]at this
   exact(Option.some.inj this).symm
  have g0:=evsH_get h.l i 0 hlt (by omega)
  have g1:=evsH_get h.l i 1 hlt (by omega)
  rw[hxi]at g0 g1
  simp only[evH,List.getElem?_cons_zero,List.getElem?_cons_succ,Nat.add_zero]at g0 g1
  simp (maxSteps:=400000) only[wF,storeA,reduceCtorEq,Nat.reduceAdd,Nat.reduceSub,Nat.reduceEqDiff,Nat.reduceLeDiff,Int.reduceToNat,Int.reduceLE,Int.reduceLT,Int.reduceAdd,Int.reduceNeg,Nat.reduceMul,S59,N59,R59,T59,a1,a2,e0,d0,q0,q1,indexAddrA,g0,g1]
  have hrw:rawNow h=(x.kind==0&&isRawS x.name && !Lib.hasPrefix h.s [60,47]):=by unfold rawNow;rw[hla]
  by_cases hk:x.kind=0
  case neg=>
   have b0:((x.kind:Int) != 0)=true:=by simp;omega
   have hno:rawNow h=false:=by rw[hrw];simp[hk]
   simp (maxSteps:=400000) only[wF,storeA,reduceCtorEq,Nat.reduceAdd,Nat.reduceSub,Nat.reduceEqDiff,Nat.reduceLeDiff,Int.reduceToNat,Int.reduceLE,Int.reduceLT,Int.reduceAdd,Int.reduceNeg,Nat.reduceMul,T59,b0]
   rw[rawO,hno]
   exact⟨rfl,hr0.keep (Kept.refl H)⟩
  have b0:((x.kind:Int) != 0)=false:=by simp;omega
  simp (maxSteps:=400000) only[wF,storeA,reduceCtorEq,Nat.reduceAdd,Nat.reduceSub,Nat.reduceEqDiff,Nat.reduceLeDiff,Int.reduceToNat,Int.reduceLE,Int.reduceLT,Int.reduceAdd,Int.reduceNeg,Nat.reduceMul,T59,b0,a1,a2,q0,q1,indexAddrA,g1]
  refine AInv.pureK B92 (h_isRaw_ok G (by have:=hnm x (by rw[←hxi];exact List.getElem_mem hlt);omega)) fun H1 h1=>?_
  have c1:=(congrFun h1.2 _).trans a1
  cases hir:isRawS x.name with
  | false=>
   have hno:rawNow h=false:=by rw[hrw,hir];simp
   simp (maxSteps:=400000) only[wF,storeA,reduceCtorEq,Nat.reduceAdd,Nat.reduceSub,Nat.reduceEqDiff,Nat.reduceLeDiff,Int.reduceToNat,Int.reduceLE,Int.reduceLT,Int.reduceAdd,Int.reduceNeg,Nat.reduceMul,T59,Bool.not_false]
   rw[rawO,hno]
   exact⟨rfl,hr0.keep h1.kept⟩
  | true=>
   simp (maxSteps:=400000) only[wF,storeA,reduceCtorEq,Nat.reduceAdd,Nat.reduceSub,Nat.reduceEqDiff,Nat.reduceLeDiff,Int.reduceToNat,Int.reduceLE,Int.reduceLT,Int.reduceAdd,Int.reduceNeg,Nat.reduceMul,T59,Bool.not_true,c1]
   refine AInv.pureK E.hasPreB (E.hasPre _ _) fun H2 h2=>?_
   have h12:=h1.trans h2
   have c2:=(congrFun h2.2 _).trans c1
   cases hpp:Lib.hasPrefix h.s [60,47]with
   | true=>
    have hno:rawNow h=false:=by rw[hrw,hpp];simp
    simp (maxSteps:=400000) only[wF,storeA,reduceCtorEq,Nat.reduceAdd,Nat.reduceSub,Nat.reduceEqDiff,Nat.reduceLeDiff,Int.reduceToNat,Int.reduceLE,Int.reduceLT,Int.reduceAdd,Int.reduceNeg,Nat.reduceMul,T59]
    rw[rawO,hno]
    exact⟨rfl,hr0.keep h12.kept⟩
   | false=>
    have hyes:rawNow h=true:=by rw[hrw,hir,hpp];simp[hk]
    simp (maxSteps:=400000) only[wF,storeA,reduceCtorEq,Nat.reduceAdd,Nat.reduceSub,Nat.reduceEqDiff,Nat.reduceLeDiff,Int.reduceToNat,Int.reduceLE,Int.reduceLT,Int.reduceAdd,Int.reduceNeg,Nat.reduceMul,T59,c2]
    refine AInv.pureK E.indexB (E.index _ _ (by omega)) fun H3 h3=>?_
    have h13:=h12.trans h3
    have c3:=(congrFun h3.2 _).trans c2
    rw[rawO,if_pos hyes]
    by_cases hix:Lib.index h.s [60,47]<0
    ·have d1:decide (Lib.index h.s [60,47]<0)=true:=by simpa using hix
     rw[if_pos hix]
     simp (maxSteps:=400000) only[wF,storeA,reduceCtorEq,Nat.reduceAdd,Nat.reduceSub,Nat.reduceEqDiff,Nat.reduceLeDiff,Int.reduceToNat,Int.reduceLE,Int.reduceLT,Int.reduceAdd,Int.reduceNeg,Nat.reduceMul,T59,d1,buildA,fillA,ifaceA,AV.boxable]
     have:=h13.kept
     exact⟨rfl,this.1,fun j hj _ _ _=>this.2 j hj⟩
    ·have d1:decide (Lib.index h.s [60,47]<0)=false:=by simpa using hix
     rw[if_neg hix]
     have hrm:=Lib.index_room h.s [60,47] (by omega)
     obtain⟨m,hm⟩:∃m:Nat,Lib.index h.s [60,47]=m:=⟨(Lib.index h.s [60,47]).toNat,by omega⟩
     rw[hm]at hrm d1 ⊢
     have v1:((0:Int)≤(m:Int))=True:=by simp
     have v2:((m:Int)≤(h.s.length:Int))=True:=by simp;omega
     simp (maxSteps:=400000) only[wF,storeA,reduceCtorEq,Nat.reduceAdd,Nat.reduceSub,Nat.reduceEqDiff,Nat.reduceLeDiff,Int.reduceToNat,Int.reduceLE,Int.reduceLT,Int.reduceAdd,Int.reduceNeg,Nat.reduceMul,T59,d1,c3,v1,v2]
     obtain⟨r3,-⟩:=hr0.keep h13.kept
     refine AInv.call B94 (h_add_ok G r3 hl) fun r4 H4 h4=>?_
     obtain⟨⟨_,rfl⟩,kl',r4,k4⟩:=h4
     have hk13:=h13.kept.1
     obtain⟨e1,e2,e3,e4,e5,e6,e7,e8,e9⟩:=r4
     simp (maxSteps:=400000) only[wF,storeA,reduceCtorEq,Nat.reduceAdd,Nat.reduceSub,Nat.reduceEqDiff,Nat.reduceLeDiff,Int.reduceToNat,Int.reduceLE,Int.reduceLT,Int.reduceAdd,Int.reduceNeg,Nat.reduceMul,T59,e1,v1,v2,AV.boxable]
     refine⟨rfl,kl',ko,⟨?_,?_,?_,e4,e5,e6,?_,?_,?_⟩,?_,?_,.inl rfl,fun j j1 j2 j3 j4=>?_⟩
     ·simp only[HSt.add,AHeap.get_set_same]
     ·rw[AHeap.get_set_ne _ _ (by omega)];exact e2
     ·rw[AHeap.get_set_ne _ _ (by omega)];exact e3
     ·exact e7
     ·exact e8
     ·exact e9
     ·have:=k4.1;simp only[AHeap.next_set];omega
     ·rcases k4.2.1 with h | h
      ·exact .inl h
      ·exact .inr (by omega)
     ·rw[AHeap.get_set_ne _ _ j2,k4.2.2.2 j (by omega) j2 j3 j4]
      exact h13.kept.2 j j1
end Go.Ab
