/- Tags, comments and instructions, walked. -/
import Derived.Test.YtebgjmoihhbjjaaGreatDoorW14
set_option linter.all false
namespace Go.Ab
open Go Go.Lib Go.Proofs
theorem twiceF_congr:∀(l:List (List UInt8 × List UInt8)) (a b:List (List UInt8)),(∀x,a.contains x=b.contains x)→twiceF a l=twiceF b l
 | [],_,_,_=>rfl
 | y::l,a,b,h=>by
  simp only[twiceF,h y.1]
  rw[twiceF_congr l (y.1::a) (y.1::b) fun x=>by simp only[List.contains_cons,h x]]
def entriesN (seen:List (List UInt8)):List (AV × AV):=seen.map fun a=>(.str a,.int .i64 1)
theorem findA_seen (k:List UInt8):∀(seen:List (List UInt8)) (i:Nat),(seen.contains k=true→∃j,findA (.str k) (entriesN seen) i=some (some (j,.int .i64 1)))∧(seen.contains k=false→findA (.str k) (entriesN seen) i=some none)
 | [],i=>⟨fun h=>by simp at h,fun _=>rfl⟩
 | a::seen,i=>by
  have ih:=findA_seen k seen (i+1)
  simp only[entriesN,List.map_cons,findA,keyEq,List.contains_cons]at ih ⊢
  cases h:(k==a)with
  | true=>exact⟨fun _=>⟨i,rfl⟩,fun h=>by simp at h⟩
  | false=>exact⟨fun h=>ih.1 (by simpa using h),fun h=>ih.2 (by simpa using h)⟩
def strsA (l:List (List UInt8)):List AV:=l.map .str
theorem strsA_len (l:List (List UInt8)):(strsA l).length=l.length:=by simp[strsA]
def evA (x:Ev):AV := .agg [.int .i64 x.kind,.str x.name,.str x.text,.lst x.attrs.length (attrsA x.attrs),.int .i64 x.line,.int .i64 x.col]
def evO (x:Ev):AObj := .cells 39 [.int .i64 x.kind,.str x.name,.str x.text,.nils,.int .i64 x.line,.int .i64 x.col]
def EmAt (H:AHeap) (pid:Nat) (e:Option Ev) (em:AV):Prop:=
 match e with
 | none=>em = .nilp
 | some x=>x.attrs=[]∧∃ke,em = .ptr ke 0∧ke≠pid∧H.get ke=some (evO x)
def PAt (H:AHeap) (pid ko:Nat) (s:List UInt8) (p:Pst) (l0 l1 l2 s0 s1 s2 er:AV):Prop:=
 pid≠ko∧(∃em,H.get pid=some (.cells 54 [.str s,.int .i64 p.i,l0,l1,l2,s0,s1,s2,.slc ko p.opens.length,.bool p.any,em,er])∧EmAt H pid p.empty em)∧H.get ko=some (.row 9 1 (strsA p.opens))
def PKeep (H:AHeap) (pid ko ko':Nat) (H':AHeap):Prop:=(ko'=ko∨H.next≤ko')∧H.next≤H'.next∧∀j,j<H.next→j≠pid→j≠ko→H'.get j=H.get j
def EmNew (H:AHeap) (pid:Nat) (H':AHeap):Prop:=∀cs ke,H'.get pid=some (.cells 54 cs)→cs[10]?=some (.ptr ke 0)→H.next≤ke
theorem EmNew.nil {H H':AHeap} {pid:Nat} {x0 x1 x2 x3 x4 x5 x6 x7 x8 x9 x11:AV} (h:H'.get pid=some (.cells 54 [x0,x1,x2,x3,x4,x5,x6,x7,x8,x9,.nilp,x11])):EmNew H pid H':=fun cs ke h1 h2=>by
 rw[h]at h1
 cases h1
 cases h2
def PiecePost (r:Except Wrong (Ev × Pst)) (H:AHeap) (pid ko:Nat) (s:List UInt8) (l0 l1 l2 s0 s1 s2 er:AV) (x:ARes) (H':AHeap):Prop:=
 match r with
 | .ok (ev,q)=>x = .ret (evA ev)∧EmNew H pid H'∧∃ko',PAt H' pid ko' s q l0 l1 l2 s0 s1 s2 er∧PKeep H pid ko ko' H'
 | .error w=>x = .pan (wrongA w)∧Kept H H'
theorem Weak.evNil (G:Nat→Option (List AV)) (k:Int) (a b:List UInt8) (J:AHeap) :
  Weak G [.agg [.int .i64 k,.str a,.str b,.nils,.int .i64 0,.int .i64 0]] J [.agg [.int .i64 k,.str a,.str b,.lst 0 [],.int .i64 0,.int .i64 0]] J:=
 Weak.nilLst ⟨.agg' ⟨.same _,.same _,.same _,.nil _ rfl,.same _,.same _,trivial⟩,trivial⟩
theorem Weak.popRow (G:Nat→Option (List AV)) {H:AHeap} {pid ko:Nat} {e:TypeId} {cs:List AV} {k:Nat} {x0 x1 x2 x3 x4 x5 x6 x7 x9 x10 x11:AV} (hpid:H.get pid=some (.cells e [x0,x1,x2,x3,x4,x5,x6,x7,.slc ko k,x9,x10,x11])) {re:TypeId} (hrow:H.get ko=some (.row re 1 cs)) (hk:k≤cs.length) (hpn:pid<H.next) (hkn:ko<H.next) (v:AV) :
  ∃H',Weak G [v] H [v] H'∧H'.get pid=some (.cells e [x0,x1,x2,x3,x4,x5,x6,x7,.slc H.next k,x9,x10,x11])∧H'.get H.next=some (.row re 1 (cs.take k))∧H'.next=H.next+1∧∀j,j<H.next→j≠pid→j≠ko→H'.get j=H.get j:=by
 have hne:pid≠ko:=by
  intro h
  subst h
  rw[hpid]at hrow
  cases hrow
 refine⟨⟨H.next+1,fun j=>if j=H.next then some (.row re 1 (cs.take k))else if j=ko then none else if j=pid then some (.cells e [x0,x1,x2,x3,x4,x5,x6,x7,.slc H.next k,x9,x10,x11])else H.get j⟩,
  Weak.rename hrow (by omega) H.next k (by omega) (Nat.le_refl _) (Nat.lt_succ_self _) ?_ (by simp) (fun j=>?_) (Tzs.refl _),?_,by simp,rfl,fun j h1 h2 h3=>?_⟩
 ·simp
  omega
 ·by_cases h1:j=H.next
  ·exact .inl h1
  ·by_cases h2:j=ko
   ·exact .inr (.inl (by subst h2;simp[h1]))
   ·by_cases h3:j=pid
    ·subst h3
     exact .inr (.inr ⟨_,.cells e [x0,x1,x2,x3,x4,x5,x6,x7,.slc H.next k,x9,x10,x11],hpid,by simp[h1,h2],.cells _ _ _ (show Tzs _ _ _ _ _ from ⟨.same _,.same _,.same _,.same _,.same _,.same _,.same _,.same _,.slc _ _ (by simp),.same _,.same _,.same _,trivial⟩)⟩)
    ·cases hg:H.get j with
     | none=>exact .inr (.inl (by simp[h1,h2,h3,hg]))
     | some o=>exact .inr (.inr ⟨o,o,rfl,by simp[h1,h2,h3,hg],.same o⟩)
 ·have:pid≠H.next:=by omega
  simp[this,hne]
 ·have:j≠H.next:=by omega
  simp[this,h2,h3]
theorem tagF_len {s:List UInt8}:∀(f k:Nat) (l:List (List UInt8 × List UInt8)) (x),k≤s.length→l.length≤k→tagF f s k l=some x→x.1.length≤s.length
 | 0,_,_,_,_,_,h=>by simp[tagF]at h
 | f+1,k,l,x,hk,hl,h=>by
  simp only[tagF]at h
  have a:=skipN_ge s k
  split at h
  ·cases h
   simp only
   omega
  split at h
  ·cases h
   simp only
   omega
  split at h
  ·cases h
  split at h
  ·rename_i hr
   have:=attrS_bound (skipN_le hk) hr
   exact tagF_len f _ _ _ (by omega) (by simp only[List.length_append,List.length_cons,List.length_nil];omega) h
  ·cases h
theorem startS_len {s:List UInt8} {i:Nat} (hi:i<s.length) {t:Tag} (h:startS s i=some t):t.attrs.length≤s.length:=by
 unfold startS at h
 simp only at h
 split at h
 ·cases hx:tagF (s.length+1) s (untilN s (i+1) [47,62]) []with
  | none=>rw[hx]at h;cases h
  | some x=>
   rw[hx]at h
   simp only[Option.map_some,Option.some.injEq]at h
   subst h
   exact tagF_len _ _ _ _ (untilN_le (s:=s) (i:=i+1) [47,62] (by omega)) (Nat.zero_le _) hx
 ·cases h
def TwAt (attrs:List (List UInt8 × List UInt8)) (X:AHeap) (M:Nat) (x:Nat × List (List UInt8) × AHeap):Prop:=
 x.1≤attrs.length∧twiceF x.2.1 (attrs.drop x.1)=twiceF [] attrs∧x.2.2.get M=some (.map (entriesN x.2.1))∧X.next≤x.2.2.next∧∀j,j<X.next→j≠M→x.2.2.get j=X.get j
theorem attrsA_at:∀(l:List (List UInt8 × List UInt8)) (i:Nat) (h:i<l.length),((attrsA l).drop (i*2)).take 2=[.str l[i].1,.str l[i].2]
 | [],i,h=>by simp at h
 | a::l,0,_=>rfl
 | a::l,i+1,h=>by
  have:=attrsA_at l i (by simpa using h)
  have e:(i+1)*2=i*2+1+1:=by omega
  simp only[attrsA,List.flatMap_cons,e,List.cons_append,List.nil_append,List.drop_succ_cons,List.getElem_cons_succ]at this ⊢
  exact this
set_option maxRecDepth 100000 in
set_option maxHeartbeats 2000000 in
theorem piece_ok {G:Nat→Option (List AV)} (E:Env G) (B:EnvB G) (P:EnvP G) {H:AHeap} {s:List UInt8} {pid ko:Nat} {p:Pst} {l0 l1 l2 s0 s1 s2 er:AV}
  (hp:PAt H pid ko s p l0 l1 l2 s0 s1 s2 er) (hi:p.i<s.length) (hs:s.length≤400000000) (hem:p.empty=none) (hol:p.opens.length≤1000) :
  ACalls Tryz.prog G 63 [.ptr pid 0,.int .i64 p.i] H (PiecePost (pieceS s p) H pid ko s l0 l1 l2 s0 s1 s2 er):=by
 refine ACalls.wf fun wf=>?_
 obtain⟨hpk,⟨em,hpo,hem'⟩,hro⟩:=hp
 rw[hem]at hem'
 have hem':em = .nilp:=hem'
 subst hem'
 have hpn:=wf _ _ hpo
 have hkn:=wf _ _ hro
 obtain⟨i,opens,any,empty⟩:=p
 simp only at hem hpo hro hi hol
 subst hem
 refine ACalls.ret (ACalls.of Tryz.func63 S63_eq R63 N63 rfl rfl ?_)
 have hne0:(pid=H.next)=False:=by simp;omega
 have hne0':(H.next=pid)=False:=by simp;omega
 simp (maxSteps:=400000) only[wF,storeA,reduceCtorEq,Nat.reduceAdd,Nat.reduceSub,Nat.reduceEqDiff,Nat.reduceLeDiff,Int.reduceToNat,Int.reduceLE,Int.reduceLT,Int.reduceAdd,Int.reduceNeg,Nat.reduceMul,S63,N63,R63,T63,hpo,hne0]
 generalize hH0:H.allocAt H.next _=H0
 have g0:H0.get H.next=some (.cells 39 [.int .i64 0,.str [],.str [],.nils,.int .i64 0,.int .i64 0]):=by rw[←hH0];simp
 have n0:H0.next=H.next+1:=by rw[←hH0];simp[AHeap.next_allocAt]
 have f0:∀j,j<H.next→H0.get j=H.get j:=fun j hj=>by rw[←hH0,AHeap.get_allocAt_ne _ _ (by omega)]
 refine AInv.pureK B88 (comment_ok E (Nat.le_of_lt hi) (by omega)) fun H1 h1=>?_
 have g1:=g0
 rw[←h1.2]at g1
 have n1:=h1.1
 have f1:∀j,j<H.next→H1.get j=H.get j:=fun j hj=>by rw[h1.2];exact f0 j hj
 have p1:=(f1 pid hpn).trans hpo
 have okay:∀(J:AHeap) (x:Ev) (q:Pst) (o1 o2:AObj),H.next≤J.next→(∀j,j<H.next→J.get j=H.get j)→q.opens=opens→q.empty=none→o1 = .cells 54 [.str s,.int .i64 q.i,l0,l1,l2,s0,s1,s2,.slc ko q.opens.length,.bool q.any,.nilp,er] →
   PiecePost (.ok (x,q)) H pid ko s l0 l1 l2 s0 s1 s2 er (.ret (evA x)) ((J.set pid o1).set H.next o2):=by
  intro J x q o1 o2 hJn hJ ho hem ho1
  have hne:pid≠H.next:=by omega
  have hne2:ko≠H.next:=by omega
  have hgp:((J.set pid o1).set H.next o2).get pid=some (.cells 54 [.str s,.int .i64 q.i,l0,l1,l2,s0,s1,s2,.slc ko q.opens.length,.bool q.any,.nilp,er]):=by rw[AHeap.get_set_ne _ _ hne,AHeap.get_set_same,ho1]
  refine⟨rfl,.nil hgp,ko,⟨hpk,⟨.nilp,hgp,?_⟩,?_⟩,.inl rfl,hJn,fun j h1 h2 h3=>?_⟩
  ·rw[hem];rfl
  ·rw[AHeap.get_set_ne _ _ hne2,AHeap.get_set_ne _ _ (Ne.symm hpk),hJ ko hkn,ho]
   exact hro
  ·have:j≠H.next:=by omega
   rw[AHeap.get_set_ne _ _ this,AHeap.get_set_ne _ _ h2]
   exact hJ j h1
 cases hc:(commentS s i).2.2 with
 | true=>
  have hr:pieceS s ⟨i,opens,any,none⟩ = .ok (⟨3,[],(commentS s i).1,[],0,0⟩,⟨(commentS s i).2.1,opens,any,none⟩):=by
   unfold pieceS
   rw[if_pos hc]
   rfl
  rw[hr]
  simp (maxSteps:=400000) only[wF,storeA,reduceCtorEq,Nat.reduceAdd,Nat.reduceSub,Nat.reduceEqDiff,Nat.reduceLeDiff,Int.reduceToNat,Int.reduceLE,Int.reduceLT,Int.reduceAdd,Int.reduceNeg,Nat.reduceMul,T63,p1,g1,hne0,hne0',buildA,fillA,AV.boxable]
  exact⟨_,_,Weak.evNil G _ _ _ _,okay H1 ⟨3,[],(commentS s i).1,[],0,0⟩ ⟨(commentS s i).2.1,opens,any,none⟩ _ _ (by omega) f1 rfl rfl rfl⟩
 | false=>
  simp (maxSteps:=400000) only[wF,storeA,reduceCtorEq,Nat.reduceAdd,Nat.reduceSub,Nat.reduceEqDiff,Nat.reduceLeDiff,Int.reduceToNat,Int.reduceLE,Int.reduceLT,Int.reduceAdd,Int.reduceNeg,Nat.reduceMul,T63,p1]
  refine AInv.pureK B89 (instruction_ok E (Nat.le_of_lt hi) (by omega)) fun H2 h2=>?_
  have g2:=g1
  rw[←h2.2]at g2
  have n2:=h2.1
  have f2:∀j,j<H.next→H2.get j=H.get j:=fun j hj=>by rw[h2.2];exact f1 j hj
  have p2:=(f2 pid hpn).trans hpo
  cases hins:(instrS s i).2.2.2 with
  | true=>
   have hr:pieceS s ⟨i,opens,any,none⟩ = .ok (⟨4,(instrS s i).1,(instrS s i).2.1,[],0,0⟩,⟨(instrS s i).2.2.1,opens,any,none⟩):=by
    unfold pieceS
    rw[if_neg (by simp[hc]),if_pos hins]
    rfl
   rw[hr]
   simp (maxSteps:=400000) only[wF,storeA,reduceCtorEq,Nat.reduceAdd,Nat.reduceSub,Nat.reduceEqDiff,Nat.reduceLeDiff,Int.reduceToNat,Int.reduceLE,Int.reduceLT,Int.reduceAdd,Int.reduceNeg,Nat.reduceMul,T63,p2,g2,hne0,hne0',buildA,fillA,AV.boxable]
   exact⟨_,_,Weak.evNil G _ _ _ _,okay H2 ⟨4,(instrS s i).1,(instrS s i).2.1,[],0,0⟩ ⟨(instrS s i).2.2.1,opens,any,none⟩ _ _ (by omega) f2 rfl rfl rfl⟩
  | false=>
   simp (maxSteps:=400000) only[wF,storeA,reduceCtorEq,Nat.reduceAdd,Nat.reduceSub,Nat.reduceEqDiff,Nat.reduceLeDiff,Int.reduceToNat,Int.reduceLE,Int.reduceLT,Int.reduceAdd,Int.reduceNeg,Nat.reduceMul,T63,p2]
   refine AInv.pureK B90 (endTag_ok E (Nat.le_of_lt hi) (by omega)) fun H3 h3=>?_
   have g3:=g2
   rw[←h3.2]at g3
   have n3:=h3.1
   have f3:∀j,j<H.next→H3.get j=H.get j:=fun j hj=>by rw[h3.2];exact f2 j hj
   have p3:=(f3 pid hpn).trans hpo
   have r3:=(f3 ko hkn).trans hro
   cases hen:(endS s i).2.2 with
   | true=>
    have hr:pieceS s ⟨i,opens,any,none⟩=if opens.getLast?=some (endS s i).1 then .ok (⟨1,(endS s i).1,[],[],0,0⟩,⟨(endS s i).2.1,opens.dropLast,any,none⟩)else .error ⟨i,110⟩:=by
     unfold pieceS
     rw[if_neg (by simp[hc]),if_neg (by simp[hins]),if_pos hen]
     rfl
    rw[hr]
    generalize hname:(endS s i).1=name
    rcases List.eq_nil_or_concat opens with rfl | ⟨init,last,rfl⟩
    ·simp only[List.length_nil]at p3
     have e1:IntKind.i64.wrap (((0:Nat):Int)-1) = -1:=by rw[wrap64]<;>simp
     have d1:decide ((-1:Int)<0)=true:=by decide
     simp (maxSteps:=400000) only[wF,storeA,reduceCtorEq,Nat.reduceAdd,Nat.reduceSub,Nat.reduceEqDiff,Nat.reduceLeDiff,Int.reduceToNat,Int.reduceLE,Int.reduceLT,Int.reduceAdd,Int.reduceNeg,Nat.reduceMul,T63,p3,e1,d1,buildA,fillA,ifaceA,AV.boxable]
     exact⟨rfl,by omega,f3⟩
    ·rw[List.concat_eq_append]at p3 r3 hol ⊢
     simp only[List.length_append,List.length_cons,List.length_nil]at p3 hol
     have e1:IntKind.i64.wrap (((init.length+(0+1):Nat):Int)-1)=(init.length:Int):=by rw[wrap64]<;>omega
     have d1:decide ((init.length:Int)<0)=false:=by simp
     have q1:((init.length:Int)<((init.length+(0+1):Nat):Int))=True:=by simp;omega
     have q2:((init.length:Int)≤((init.length+(0+1):Nat):Int))=True:=by simp;omega
     have hgl:(strsA (init++[last]))[init.length]?=some (.str last):=by simp[strsA]
     cases hne:(last==name)with
     | false=>
      have hg:¬(init++[last]).getLast?=some name:=by simp at hne ⊢;exact hne
      rw[if_neg hg]
      simp (maxSteps:=400000) only[wF,storeA,reduceCtorEq,Nat.reduceAdd,Nat.reduceSub,Nat.reduceEqDiff,Nat.reduceLeDiff,Int.reduceToNat,Int.reduceLE,Int.reduceLT,Int.reduceAdd,Int.reduceNeg,Nat.reduceMul,T63,p3,r3,e1,d1,q1,hgl,hname,hne,indexAddrA,buildA,fillA,ifaceA,AV.boxable]
      exact⟨rfl,by omega,f3⟩
     | true=>
      have hg:(init++[last]).getLast?=some name:=by simp at hne ⊢;exact hne
      rw[if_pos hg]
      simp (maxSteps:=400000) only[wF,storeA,reduceCtorEq,Nat.reduceAdd,Nat.reduceSub,Nat.reduceEqDiff,Nat.reduceLeDiff,Int.reduceToNat,Int.reduceLE,Int.reduceLT,Int.reduceAdd,Int.reduceNeg,Nat.reduceMul,T63,p3,r3,g3,e1,d1,q1,q2,hgl,hname,hne,hne0,hne0',indexAddrA,sliceA,boundA,buildA,fillA,AV.boxable,AHeap.set_set]
      have a1:pid≠H.next:=by omega
      have a2:ko≠H.next:=by omega
      generalize hX:(H3.set pid _).set H.next _=X
      have x1:X.get pid=some (.cells 54 [.str s,.int .i64 (endS s i).2.1,l0,l1,l2,s0,s1,s2,.slc ko init.length,.bool any,.nilp,er]):=by rw[←hX,AHeap.get_set_ne _ _ a1,AHeap.get_set_same]
      have x2:X.get ko=some (.row 9 1 (strsA (init++[last]))):=by rw[←hX,AHeap.get_set_ne _ _ a2,AHeap.get_set_ne _ _ (Ne.symm hpk)];exact r3
      have x3:X.next=H3.next:=by rw[←hX];rfl
      have x4:∀j,j<H.next→j≠pid→X.get j=H.get j:=fun j h1 h2=>by rw[←hX,AHeap.get_set_ne _ _ (by omega),AHeap.get_set_ne _ _ h2];exact f3 j h1
      obtain⟨H4,hw,y1,y2,y3,y4⟩:=Weak.popRow G x1 x2 (by simp[strsA]) (by omega) (by omega) (evA ⟨1,name,[],[],0,0⟩)
      refine⟨_,H4,(Weak.evNil G 1 name [] X).trans hw,rfl,.nil y1,X.next,⟨by omega,⟨.nilp,?_,rfl⟩,?_⟩,.inr (by omega),by omega,fun j h1 h2 h3=>?_⟩
      ·rw[y1]
       simp
      ·rw[y2]
       simp[strsA]
      ·rw[y4 j (by omega) h2 h3]
       exact x4 j h1 h2
   | false=>
    simp (maxSteps:=400000) only[wF,storeA,reduceCtorEq,Nat.reduceAdd,Nat.reduceSub,Nat.reduceEqDiff,Nat.reduceLeDiff,Int.reduceToNat,Int.reduceLE,Int.reduceLT,Int.reduceAdd,Int.reduceNeg,Nat.reduceMul,T63,p3]
    refine AInv.retK B91 (startTag_ok E B P hi (by omega) H3) (fun v H4 hq=>?_) (fun v H4 hq=>by cases hq.1)
    obtain⟨hq,hK4⟩:=hq
    cases hq
    have n4:=hK4.1
    have f4:∀j,j<H.next→H4.get j=H.get j:=fun j hj=>by rw[hK4.2 j (by omega)];exact f3 j hj
    have g4:=(hK4.2 H.next (by omega)).trans g3
    have p4:=(f4 pid hpn).trans hpo
    have r4:=(f4 ko hkn).trans hro
    have hr:pieceS s ⟨i,opens,any,none⟩=match startS s i with
     | none => .error ⟨i,5⟩
     | some t=>
      if opens=[]∧any=true then .error ⟨i,5⟩
      else if twiceF [] t.attrs=true then .error ⟨i,4⟩
      else if 200≤opens.length then .error ⟨i,2⟩
      else .ok (⟨0,t.name,[],t.attrs,0,0⟩,
       if t.empty=true then⟨t.next,opens,true,some ⟨1,t.name,[],[],0,0⟩⟩else⟨t.next,opens++[t.name],true,none⟩):=by
     unfold pieceS
     rw[if_neg (by simp[hc]),if_neg (by simp[hins]),if_neg (by simp[hen])]
     rfl
    rw[hr]
    have hne4:(pid=H4.next)=False:=by simp;omega
    have hne5:(H.next=H4.next)=False:=by simp;omega
    cases hst:startS s i with
    | none=>
     simp only[tagA]
     simp (maxSteps:=400000) only[wF,storeA,reduceCtorEq,Nat.reduceAdd,Nat.reduceSub,Nat.reduceEqDiff,Nat.reduceLeDiff,Int.reduceToNat,Int.reduceLE,Int.reduceLT,Int.reduceAdd,Int.reduceNeg,Nat.reduceMul,T63,buildA,fillA,ifaceA,AV.boxable]
     exact⟨rfl,by simp only[AHeap.next_set,AHeap.next_allocAt];omega,fun j hj=>by rw[AHeap.get_set_ne _ _ (by omega),AHeap.get_allocAt_ne _ _ (by omega)];exact f4 j hj⟩
    | some t=>
     have hal:=startS_len hi hst
     obtain⟨name,attrs,emp,nxt⟩:=t
     simp only at hal
     simp only[tagA]
     have panicT:∀(J:AHeap),H.next≤J.next→(∀j,j<H.next→J.get j=H.get j)→Kept H J:=fun J h1 h2=>⟨h1,h2⟩
     by_cases htop:opens=[]∧any=true
     ·obtain⟨rfl,rfl⟩:=htop
      have d0:(((0:Nat):Int)==0)=true:=by simp
      simp (maxSteps:=400000) only[wF,storeA,reduceCtorEq,Nat.reduceAdd,Nat.reduceSub,Nat.reduceEqDiff,Nat.reduceLeDiff,Int.reduceToNat,Int.reduceLE,Int.reduceLT,Int.reduceAdd,Int.reduceNeg,Nat.reduceMul,T63,p4,hne4,hne5,d0,buildA,fillA,ifaceA,AV.boxable]
      exact⟨rfl,by simp only[AHeap.next_set,AHeap.next_allocAt];omega,fun j hj=>by rw[AHeap.get_set_ne _ _ (by omega),AHeap.get_allocAt_ne _ _ (by omega)];exact f4 j hj⟩
     ·rw[if_neg htop]
      have hb:(((opens.length:Int)==0)=true∧any=false)∨((opens.length:Int)==0)=false:=by
       cases opens with
       | nil=>cases any with
        | false=>exact .inl ⟨by simp,rfl⟩
        | true=>exact absurd ⟨rfl,rfl⟩ htop
       | cons a l=>exact .inr (by simp;omega)
      have hla:(attrsA attrs).length=attrs.length*2:=attrsA_len attrs
      rcases hb with ⟨d0,dany⟩ | d0
      case' inl=>subst dany
      all_goals
       simp (maxSteps:=400000) only[wF,storeA,reduceCtorEq,Nat.reduceAdd,Nat.reduceSub,Nat.reduceEqDiff,Nat.reduceLeDiff,Int.reduceToNat,Int.reduceLE,Int.reduceLT,Int.reduceAdd,Int.reduceNeg,Nat.reduceMul,T63,p4,hne4,hne5,d0]
       generalize hX:((H4.allocAt H4.next _).set H4.next _).allocAt _ _=X
       have x0:X.next=H4.next+2:=by rw[←hX];simp only[AHeap.next_set,AHeap.next_allocAt];omega
       have xT:X.get H4.next=some (.cells 138 [.str name,.lst attrs.length (attrsA attrs),.bool emp,.int .i64 nxt]):=by rw[←hX,AHeap.get_allocAt_ne _ _ (by omega),AHeap.get_set_same]
       have xM:X.get (H4.next+1)=some (.map []):=by rw[←hX,AHeap.get_allocAt_same]
       have xo:∀j,j<H4.next→X.get j=H4.get j:=fun j hj=>by rw[←hX,AHeap.get_allocAt_ne _ _ (by omega),AHeap.get_set_ne _ _ (by omega),AHeap.get_allocAt_ne _ _ (by omega)]
       refine ATrS.loopK (κ:=Nat × List (List UInt8) × AHeap) (fun x=>[.ptr pid 0,.int .i64 i,.und,.und,.ptr H.next 0]++List.replicate 11 .und++[.ptr H4.next 0,.und,.map (H4.next+1)]++List.replicate 116 .und++[.lst attrs.length (attrsA attrs),.int .i64 attrs.length,.int .i64 x.1]++List.replicate 59 .und) (fun x=>x.2.2)
        (TwAt attrs X (H4.next+1)) (fun x=>attrs.length-x.1) ⟨(0,[],X),⟨Nat.zero_le _,rfl,xM,Nat.le_refl _,fun _ _ _=>rfl⟩,by simp[Fg],HW.refl _⟩ ?_
       rintro⟨x,seen,J⟩ ⟨hx,htw,hM,hJn,hJ⟩
       simp only at hx htw hM hJn hJ
       have jT:=(hJ H4.next (by omega) (by omega)).trans xT
       have jo:∀j,j<H4.next→J.get j=H4.get j:=fun j hj=>(hJ j (by omega) (by omega)).trans (xo j hj)
       have j4:=(jo H.next (by omega)).trans g4
       have jp:=(jo pid (by omega)).trans p4
       have jk:=(jo ko (by omega)).trans r4
       have jH:∀j,j<H.next→J.get j=H.get j:=fun j hj=>(jo j (by omega)).trans (f4 j hj)
       have m1:(H4.next+1=J.next)=False:=by simp;omega
       have m2:(H4.next=J.next)=False:=by simp;omega
       have m3:(pid=J.next)=False:=by simp;omega
       have m4:(H.next=J.next)=False:=by simp;omega
       have m5:(ko=J.next)=False:=by simp;omega
       by_cases hlt:x<attrs.length
       ·have dl:decide ((x:Int)<(attrs.length:Int))=true:=by simp;omega
        have ql:((x:Int)<(attrs.length:Int))=True:=by simp;omega
        have hat:=attrsA_at attrs x hlt
        have hle:(x*2+2≤(attrsA attrs).length)=True:=by simp;omega
        rw[List.drop_eq_getElem_cons hlt]at htw
        generalize attrs[x]=a at hat htw
        obtain⟨an,av⟩:=a
        simp only at hat
        have ew:IntKind.i64.wrap ((x:Int)+1)=((x+1:Nat):Int):=by rw[wrap64]<;>omega
        cases hcon:seen.contains an with
        | true=>
         obtain⟨jj,hfind⟩:=(findA_seen an seen 0).1 hcon
         have dg:decide ((1:Int)>0)=true:=by decide
         simp (maxSteps:=400000) only[wF,storeA,reduceCtorEq,Nat.reduceAdd,Nat.reduceSub,Nat.reduceEqDiff,Nat.reduceLeDiff,Int.reduceToNat,Int.reduceLE,Int.reduceLT,Int.reduceAdd,Int.reduceNeg,Nat.reduceMul,T63,dl,ql,indexAddrA,hat,hle,lookupA,keyT,entriesA,hM,m1,hfind,dg,buildA,fillA,ifaceA,AV.boxable]
         have:twiceF [] attrs=true:=by rw[←htw];simp only[twiceF,hcon,Bool.true_or]
         rw[if_pos this]
         exact⟨rfl,by simp only[AHeap.next_set,AHeap.next_allocAt];omega,fun j hj=>by rw[AHeap.get_set_ne _ _ (by omega),AHeap.get_allocAt_ne _ _ (by omega)];exact jH j hj⟩
        | false=>
         have hfind:=(findA_seen an seen 0).2 hcon
         have dg:decide ((0:Int)>0)=false:=by decide
         have e01:IntKind.i64.wrap 1=1:=by rw[wrap64]<;>omega
         simp (maxSteps:=400000) only[wF,storeA,reduceCtorEq,Nat.reduceAdd,Nat.reduceSub,Nat.reduceEqDiff,Nat.reduceLeDiff,Int.reduceToNat,Int.reduceLE,Int.reduceLT,Int.reduceAdd,Int.reduceNeg,Nat.reduceMul,T63,dl,ql,indexAddrA,hat,hle,lookupA,updateA,keyT,entriesA,hM,m1,hfind,dg,e01,ew]
         refine⟨(x+1,seen++[an],_),⟨by simp only;omega,?_,?_,by simp only[AHeap.next_set,AHeap.next_allocAt];omega,fun j h1 h2=>?_⟩,by simp only;omega,by simp[Fg],HW.refl _⟩
         ·simp only
          rw[←htw]
          simp only[twiceF,hcon,Bool.false_or]
          exact twiceF_congr _ _ _ fun y=>by rw[Bool.eq_iff_iff];simp[or_comm]
         ·simp only
          simp[AHeap.get_set,entriesN]
         ·simp only
          have b1:j≠J.next:=by omega
          simp only[AHeap.get_set,AHeap.get_allocAt,h2,b1,if_false]
          exact hJ j h1 h2
       ·have dl:decide ((x:Int)<(attrs.length:Int))=false:=by simp;omega
        rw[List.drop_eq_nil_of_le (by omega)]at htw
        have htf:twiceF [] attrs=false:=by rw[←htw];rfl
        rw[htf,if_neg (by simp)]
        by_cases hd:200≤opens.length
        ·have d2:decide ((opens.length:Int)≥200)=true:=by simp;omega
         rw[if_pos hd]
         simp (maxSteps:=400000) only[wF,storeA,reduceCtorEq,Nat.reduceAdd,Nat.reduceSub,Nat.reduceEqDiff,Nat.reduceLeDiff,Int.reduceToNat,Int.reduceLE,Int.reduceLT,Int.reduceAdd,Int.reduceNeg,Nat.reduceMul,T63,dl,jp,d2,buildA,fillA,ifaceA,AV.boxable]
         exact⟨rfl,by omega,jH⟩
        ·have d2:decide ((opens.length:Int)≥200)=false:=by simp;omega
         rw[if_neg hd]
         have m6:(H4.next=pid)=False:=by simp;omega
         have m7:(ko=pid)=False:=by simp;omega
         have k1:(J.next==ko)=false:=by simp;omega
         have k2:(opens.length+1≤maxApp)=True:=by simp[maxApp];omega
         have k3:(pid=J.next+1)=False:=by simp;omega
         have k4:(pid=ko)=False:=by simp;omega
         have k5:(H4.next=J.next+1)=False:=by simp;omega
         have k6:(H4.next=ko)=False:=by simp;omega
         have k7:(H.next=J.next+1)=False:=by simp;omega
         have k8:(H.next=ko)=False:=by simp;omega
         have k9:(H.next=H4.next)=False:=by simp;omega
         cases hemp:emp with
         | true=>
          subst hemp
          simp (maxSteps:=400000) only[wF,storeA,reduceCtorEq,Nat.reduceAdd,Nat.reduceSub,Nat.reduceEqDiff,Nat.reduceLeDiff,Int.reduceToNat,Int.reduceLE,Int.reduceLT,Int.reduceAdd,Int.reduceNeg,Nat.reduceMul,T63,dl,jp,d2,jT,m3,m6,hne0,hne0',j4,m4,m2,buildA,fillA,AV.boxable,AHeap.set_set]
          have c1:pid≠J.next:=by omega
          have c2:pid≠H.next:=by omega
          have c3:ko≠J.next:=by omega
          have c4:ko≠H.next:=by omega
          have c5:ko≠pid:=Ne.symm hpk
          have c6:J.next≠H.next:=by omega
          have c7:J.next≠pid:=by omega
          refine⟨_,_,Weak.of (show Fg _ _ from ⟨.inr rfl,trivial⟩) (HW.refl _),rfl,fun cs ke u1 u2=>?_,ko,⟨hpk,⟨.ptr J.next 0,?_,rfl,J.next,rfl,c7,?_⟩,?_⟩,.inl rfl,?_,fun j h1 h2 h3=>?_⟩
          ·simp[AHeap.get_set,c2]at u1
           subst u1
           simp at u2
           omega
          ·simp[AHeap.get_set,c2]
          ·simp[AHeap.get_set,AHeap.get_allocAt,c6,c7,evO]
          ·simp only[AHeap.get_set,AHeap.get_allocAt,c3,c4,c5,if_false]
           exact jk
          ·simp only[AHeap.next_set,AHeap.next_allocAt]
           omega
          ·have b1:j≠H.next:=by omega
           have b2:j≠J.next:=by omega
           simp only[AHeap.get_set,AHeap.get_allocAt,h2,b1,b2,if_false]
           exact jH j h1
         | false=>
          subst hemp
          simp (maxSteps:=400000) only[wF,storeA,reduceCtorEq,Nat.reduceAdd,Nat.reduceSub,Nat.reduceEqDiff,Nat.reduceLeDiff,Int.reduceToNat,Int.reduceLE,Int.reduceLT,Int.reduceAdd,Int.reduceNeg,Nat.reduceMul,T63,dl,jp,d2,jT,m6,AHeap.set_set]
          refine drawW_fixed mixedOrders L63_34_eq P63_34_eq ?_
          simp (maxSteps:=400000) only[wF,storeA,reduceCtorEq,Nat.reduceAdd,Nat.reduceSub,Nat.reduceEqDiff,Nat.reduceLeDiff,Int.reduceToNat,Int.reduceLE,Int.reduceLT,Int.reduceAdd,Int.reduceNeg,Nat.reduceMul,L63_34,T63,jT,jk,m2,m3,m5,m6,m7,AHeap.set_set,appendA,appSrc,AV.isSlc,sliceLit,fillA,zerosA,srcCells,AV.boxable,Nat.le_refl,Nat.reduceLT,strsA_len,k1,k2,k3,k4,k5,k6,k7,k8,k9,m4,j4,hne0',buildA]
          have c1:pid≠H.next:=by omega
          have c2:J.next+1≠H.next:=by omega
          have c3:J.next+1≠pid:=by omega
          refine⟨⟨fun l hl=>by simp at hl,fun l hl=>by simp at hl;subst hl;simp;omega⟩,_,_,Weak.of (show Fg _ _ from ⟨.inr rfl,trivial⟩) (HW.refl _),rfl,fun cs ke u1 u2=>?_,J.next+1,⟨by omega,⟨.nilp,?_,rfl⟩,?_⟩,.inr (by omega),?_,fun j h1 h2 h3=>?_⟩
          ·simp[AHeap.get_set,c1]at u1
           subst u1
           simp at u2
          ·simp[AHeap.get_set,c1]
          ·simp[AHeap.get_set,AHeap.get_allocAt,c2,c3,strsA]
          ·simp only[AHeap.next_set,AHeap.next_allocAt,AHeap.next_del]
           omega
          ·have b1:j≠H.next:=by omega
           have b2:j≠J.next:=by omega
           have b3:j≠J.next+1:=by omega
           simp only[AHeap.get_set,AHeap.get_allocAt,AHeap.get_del,h2,h3,b1,b2,b3,if_false]
           exact jH j h1
end Go.Ab
