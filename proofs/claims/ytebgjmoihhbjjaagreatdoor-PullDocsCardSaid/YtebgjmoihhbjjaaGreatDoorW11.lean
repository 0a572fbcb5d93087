/- Start tags, walked. -/
import Derived.Test.YtebgjmoihhbjjaaGreatDoorW10
set_option linter.all false
namespace Go.Ab
open Go Go.Lib Go.Proofs
theorem Weak.nilField (G:Nat→Option (List AV)) {H:AHeap} {k:Nat} {e:TypeId} {cs:List AV} (cs':List AV) (hk:H.get k=some (.cells e cs)) (hkn:k<H.next) (re:TypeId) (size:Nat) (hcs:Tzs 0 (fun _=>none) (some (.slc H.next 0)) cs cs') :
  ∃H',(∀a,Weak G a H a H')∧H'.get k=some (.cells e cs')∧H'.get H.next=some (.row re size [])∧H'.next=H.next+1∧∀j,j≠k→j≠H.next→H'.get j=H.get j:=by
 refine⟨⟨H.next+1,fun j=>if j=H.next then some (.row re size [])else if j=k then some (.cells e cs')else H.get j⟩,fun a=>Weak.nilRow H.next re size (Nat.le_refl _) (Nat.lt_succ_self _) (by simp) ?_ (Tzs.refl a),?_,by simp,rfl,?_⟩
 ·intro j
  by_cases h1:j=H.next
  ·exact .inl h1
  ·by_cases h2:j=k
   ·subst h2
    exact .inr (.inr ⟨_,.cells e cs',hk,by simp[h1],.cells _ _ _ hcs⟩)
   ·cases hg:H.get j with
    | none=>exact .inr (.inl (by simp[h1,h2,hg]))
    | some o=>exact .inr (.inr ⟨o,o,rfl,by simp[h1,h2,hg],.same o⟩)
 ·have:k≠H.next:=by omega
  simp[this]
 ·intro j h1 h2
  simp[h1,h2]
theorem Weak.freezeVal (G:Nat→Option (List AV)) {H:AHeap} {j:Nat} {e:TypeId} {size:Nat} {cs:List AV} (hj:H.get j=some (.row e size cs)) (hsz:0<size) {v v':AV} (hv:Tz j (fun len=>some (.lst len cs)) none v v') :
  Weak G [v] H [v'] (H.del j):=
 Weak.freeze hj hsz (Nat.le_refl _) (by simp[AHeap.get_del]) (fun i=>by
  by_cases h:i=j
  ·exact .inr (.inl (by simp[AHeap.get_del,h]))
  ·cases hg:H.get i with
   | none=>exact .inr (.inl (by simp[AHeap.get_del,h,hg]))
   | some o=>exact .inr (.inr ⟨o,o,rfl,by simp[AHeap.get_del,h,hg],.same o⟩)) ⟨hv,trivial⟩
theorem AHeap.set_set (H:AHeap) (k:Nat) (o o':AObj):(H.set k o).set k o'=H.set k o':=by
 unfold AHeap.set
 congr 1
 funext j
 by_cases h:j=k<;>simp[h]
def attrsA (l:List (List UInt8 × List UInt8)):List AV:=l.flatMap fun a=>[.str a.1,.str a.2]
theorem attrsA_len:∀(l:List (List UInt8 × List UInt8)),(attrsA l).length=l.length*2
 | []=>rfl
 | a::l=>by
  have:=attrsA_len l
  simp only[attrsA,List.flatMap_cons,List.length_append,List.length_cons,List.length_nil]at this ⊢
  omega
theorem attrsA_app (l m:List (List UInt8 × List UInt8)):attrsA (l++m)=attrsA l++attrsA m:=by simp[attrsA]
def tagA (x:Option Tag):AV:=
 match x with
 | some t => .tup [.agg [.str t.name,.lst t.attrs.length (attrsA t.attrs),.bool t.empty,.int .i64 t.next],.bool true]
 | none => .tup [.agg [.str [],.lst 0 [],.bool false,.int .i64 0],.bool false]
def TagAt (s name:List UInt8) (k0:Nat) (H:AHeap) (x:Nat × Nat × List (List UInt8 × List UInt8) × AHeap):Prop:=
 x.1≤s.length∧x.2.2.1.length≤x.1∧tagL s x.1 x.2.2.1=tagL s k0 []∧x.2.2.2.get H.next=some (.cells 138 [.str name,.slc x.2.1 x.2.2.1.length,.bool false,.int .i64 0]) ∧
 x.2.2.2.get x.2.1=some (.row 59 2 (attrsA x.2.2.1))∧H.next<x.2.1∧x.2.1<x.2.2.2.next∧∀j,j<H.next→x.2.2.2.get j=H.get j
theorem startTag_ok {G:Nat→Option (List AV)} (E:Env G) (B:EnvB G) (P:EnvP G) {s:List UInt8} {i:Nat} (hi:i<s.length) (hs:s.length≤900000000) (H:AHeap) :
  ACalls Tryz.prog G 91 [.str s,.int .i64 i] H fun r H'=>r = .ret (tagA (startS s i))∧Kept H H':=by
 refine ACalls.wf fun wf=>?_
 refine ACalls.ret (ACalls.of Tryz.func91 S91_eq R91 N91 rfl rfl ?_)
 have e1:IntKind.i64.wrap ((i:Int)+1)=((i+1:Nat):Int):=by rw[wrap64]<;>omega
 simp (maxSteps:=400000) only[wF,storeA,reduceCtorEq,Nat.reduceAdd,Nat.reduceSub,Nat.reduceEqDiff,Nat.reduceLeDiff,Int.reduceToNat,Int.reduceLE,Int.reduceLT,Int.reduceAdd,Int.reduceNeg,Nat.reduceMul,S91,N91,R91,T91,e1]
 generalize hH0:H.allocAt H.next _=H0
 have g0:H0.get H.next=some (.cells 138 [.str [],.nils,.bool false,.int .i64 0]):=by rw[←hH0];simp
 have n0:H0.next=H.next+1:=by rw[←hH0];simp[AHeap.next_allocAt]
 have f0:∀j,j<H.next→H0.get j=H.get j:=fun j hj=>by rw[←hH0,AHeap.get_allocAt_ne _ _ (by omega)]
 refine AInv.pureK B113 (until_ok E (i:=i+1) (by omega) (by omega)) fun H1 h1=>?_
 have hr:startS s i=if isNameS ((s.take (untilN s (i+1) [47,62])).drop (i+1))=true then(tagF (s.length+1) s (untilN s (i+1) [47,62]) []).map fun x=>⟨(s.take (untilN s (i+1) [47,62])).drop (i+1),x.1,x.2.1,x.2.2⟩else none:=rfl
 have k1:=untilN_ge s (i+1) [47,62]
 have k2:=untilN_le (s:=s) (i:=i+1) [47,62] (by omega)
 generalize untilN s (i+1) [47,62]=k at k1 k2 hr ⊢
 rw[tagL_of k2]at hr
 have q1:(((i+1:Nat):Int)≤(k:Nat))=True:=by simp;omega
 have q2:((k:Int)≤s.length)=True:=by simp;omega
 have g1:H1.get H.next=some (.cells 138 [.str [],.nils,.bool false,.int .i64 0]):=by rw[h1.2];exact g0
 have n1:=h1.1
 have hnl:((s.take k).drop (i+1)).length≤1000000000:=by simp;omega
 simp (maxSteps:=400000) only[wF,storeA,reduceCtorEq,Nat.reduceAdd,Nat.reduceSub,Nat.reduceEqDiff,Nat.reduceLeDiff,Int.reduceToNat,Int.reduceLE,Int.reduceLT,Int.reduceAdd,Int.reduceNeg,Nat.reduceMul,T91,e1,q1,q2,g1]
 generalize (s.take k).drop (i+1)=name at hr hnl ⊢
 refine AInv.pureK B43 (isName_ok E hnl) fun H2 h2=>?_
 have g2:H2.get H.next=some (.cells 138 [.str name,.nils,.bool false,.int .i64 0]):=by rw[h2.2];simp
 have n2:=h2.1
 simp only[AHeap.next_set]at n2
 have f2:∀j,j<H.next→H2.get j=H.get j:=fun j hj=>by rw[h2.2,AHeap.get_set_ne _ _ (by omega),h1.2];exact f0 j hj
 have fail:∀(J:AHeap),H.next≤J.next→(∀j,j<H.next→J.get j=H.get j)→∀o,Kept H (J.set H.next o):=fun J hn hj o=>⟨hn,fun j hj'=>by rw[AHeap.get_set_ne _ _ (by omega)];exact hj j hj'⟩
 have none_ok:∀(J:AHeap),Weak G [.tup [.agg [.str [],.nils,.bool false,.int .i64 0],.bool false]] J [tagA none] J:=fun J=>Weak.nilLst ⟨.tup' ⟨.agg' ⟨.same _,.nil _ rfl,.same _,.same _,trivial⟩,.same _,trivial⟩,trivial⟩
 cases hn:isNameS name with
 | false=>
  rw[hn]at hr
  simp (maxSteps:=400000) only[wF,storeA,reduceCtorEq,Nat.reduceAdd,Nat.reduceSub,Nat.reduceEqDiff,Nat.reduceLeDiff,Int.reduceToNat,Int.reduceLE,Int.reduceLT,Int.reduceAdd,Int.reduceNeg,Nat.reduceMul,T91,g2,buildA,fillA]
  exact⟨_,_,none_ok _,by rw[hr];rfl,fail _ (by omega) f2 _⟩
 | true=>
  rw[hn,if_pos rfl]at hr
  simp (maxSteps:=400000) only[wF,storeA,reduceCtorEq,Nat.reduceAdd,Nat.reduceSub,Nat.reduceEqDiff,Nat.reduceLeDiff,Int.reduceToNat,Int.reduceLE,Int.reduceLT,Int.reduceAdd,Int.reduceNeg,Nat.reduceMul,T91]
  obtain⟨H3,hw,g3,r3,n3,f3⟩:=Weak.nilField G [.str name,.slc H2.next 0,.bool false,.int .i64 0] g2 (by omega) 59 2 ⟨.same _,.nil _ rfl,.same _,.same _,trivial⟩
  refine ATrS.weak (hw _) (ATrS.loopK (κ:=Nat × Nat × List (List UInt8 × List UInt8) × AHeap) (fun x=>[.str s,.int .i64 i,.und,.und,.ptr H.next 0,.und,.int .i64 x.1]++List.replicate 63 .und) (fun x=>x.2.2.2)
   (TagAt s name k H) (fun x=>s.length-x.1) ⟨(k,H2.next,[],H3),⟨k2,Nat.zero_le _,rfl,g3,r3,by simp only;omega,by simp only;omega,fun j hj=>by simp only;rw[f3 j (by omega) (by omega)];exact f2 j hj⟩,by simp[Fg],HW.refl _⟩ ?_)
  rintro⟨k',m,l,J⟩ ⟨hk,hl,hv,gJ,rJ,hm,hmn,fJ⟩
  simp only at hk hl hv gJ rJ hm hmn fJ
  have hst:=tagL_step hk l
  rw[hv]at hst
  simp (maxSteps:=400000) only[wF,storeA,reduceCtorEq,Nat.reduceAdd,Nat.reduceSub,Nat.reduceEqDiff,Nat.reduceLeDiff,Int.reduceToNat,Int.reduceLE,Int.reduceLT,Int.reduceAdd,Int.reduceNeg,Nat.reduceMul,T91]
  refine AInv.pureK B114 (skip_ok G hk (by omega)) fun J1 j1=>?_
  have a1:=skipN_ge s k'
  have a2:=skipN_le hk
  have hab:=fun h=>attrS_bound (s:=s) (i:=skipN s k') a2 h
  generalize skipN s k'=a at a1 a2 hst hab ⊢
  have q3:((a:Int)≤s.length)=True:=by simp;omega
  simp (maxSteps:=400000) only[wF,storeA,reduceCtorEq,Nat.reduceAdd,Nat.reduceSub,Nat.reduceEqDiff,Nat.reduceLeDiff,Int.reduceToNat,Int.reduceLE,Int.reduceLT,Int.reduceAdd,Int.reduceNeg,Nat.reduceMul,T91,q3]
  refine AInv.pureK E.hasPreB (E.hasPre _ _) fun J2 j2=>?_
  have gJ2:J2.get H.next=some (.cells 138 [.str name,.slc m l.length,.bool false,.int .i64 0]):=by rw[j2.2,j1.2];exact gJ
  have rJ2:J2.get m=some (.row 59 2 (attrsA l)):=by rw[j2.2,j1.2];exact rJ
  have fJ2:∀j,j<H.next→J2.get j=H.get j:=fun j hj=>by rw[j2.2,j1.2];exact fJ j hj
  have nJ2:m<J2.next:=by have:=j1.1;have:=j2.1;omega
  have done:∀(J:AHeap) (o o' o'':AObj),J.get m=some (.row 59 2 (attrsA l))→H.next≤J.next→(∀j,j<H.next→J.get j=H.get j)→∀(e:Bool) (n:Nat),tagL s k []=some (l,e,n) →
    ∃v' H2,Weak G [.tup [.agg [.str name,.slc m l.length,.bool e,.int .i64 n],.bool true]] (((J.set H.next o).set H.next o').set H.next o'') [v'] H2∧ARes.ret v' = .ret (tagA (startS s i))∧Kept H H2:=by
   intro J o o' o'' hjm hjn hjf e n ht
   refine⟨_,_,Weak.freezeVal G (j:=m) (e:=59) (size:=2) (cs:=attrsA l) ?_ (by omega) (v' := .tup [.agg [.str name,.lst l.length (attrsA l),.bool e,.int .i64 n],.bool true]) (.tup' ⟨.agg' ⟨.same _,.slc _ _ rfl,.same _,.same _,trivial⟩,.same _,trivial⟩),?_,?_⟩
   ·rw[AHeap.get_set_ne _ _ (by omega),AHeap.get_set_ne _ _ (by omega),AHeap.get_set_ne _ _ (by omega)]
    exact hjm
   ·rw[hr,ht]
    rfl
   ·refine⟨hjn,fun j hj=>?_⟩
    rw[AHeap.get_del_ne _ (by omega),AHeap.get_set_ne _ _ (by omega),AHeap.get_set_ne _ _ (by omega),AHeap.get_set_ne _ _ (by omega)]
    exact hjf j hj
  cases hp1:Lib.hasPrefix (s.drop a) [62]with
  | true=>
   have hpl:=hasPrefix_len hp1
   simp only[List.length_cons,List.length_nil,List.length_drop]at hpl
   rw[if_pos hp1]at hst
   have e2:IntKind.i64.wrap ((a:Int)+1)=((a+1:Nat):Int):=by rw[wrap64]<;>omega
   simp (maxSteps:=400000) only[wF,storeA,reduceCtorEq,Nat.reduceAdd,Nat.reduceSub,Nat.reduceEqDiff,Nat.reduceLeDiff,Int.reduceToNat,Int.reduceLE,Int.reduceLT,Int.reduceAdd,Int.reduceNeg,Nat.reduceMul,T91,e2,gJ2]
   have:=done J2 (.cells 138 [.str name,.slc m l.length,.bool false,.int .i64 (a+1:Nat)]) (.cells 138 [.str name,.slc m l.length,.bool false,.int .i64 (a+1:Nat)]) (.cells 138 [.str name,.slc m l.length,.bool false,.int .i64 (a+1:Nat)]) rJ2 (by omega) fJ2 false (a+1) hst
   simpa[AHeap.set_set]using this
  | false=>
   rw[if_neg (by simp[hp1])]at hst
   simp (maxSteps:=400000) only[wF,storeA,reduceCtorEq,Nat.reduceAdd,Nat.reduceSub,Nat.reduceEqDiff,Nat.reduceLeDiff,Int.reduceToNat,Int.reduceLE,Int.reduceLT,Int.reduceAdd,Int.reduceNeg,Nat.reduceMul,T91,q3]
   refine AInv.pureK E.hasPreB (E.hasPre _ _) fun J3 j3=>?_
   have gJ3:J3.get H.next=some (.cells 138 [.str name,.slc m l.length,.bool false,.int .i64 0]):=by rw[j3.2];exact gJ2
   have rJ3:J3.get m=some (.row 59 2 (attrsA l)):=by rw[j3.2];exact rJ2
   have fJ3:∀j,j<H.next→J3.get j=H.get j:=fun j hj=>by rw[j3.2];exact fJ2 j hj
   have nJ3:m<J3.next:=by have:=j3.1;omega
   cases hp2:Lib.hasPrefix (s.drop a) [47,62]with
   | true=>
    have hpl:=hasPrefix_len hp2
    simp only[List.length_cons,List.length_nil,List.length_drop]at hpl
    rw[if_pos hp2]at hst
    have e2:IntKind.i64.wrap ((a:Int)+2)=((a+2:Nat):Int):=by rw[wrap64]<;>omega
    simp (maxSteps:=400000) only[wF,storeA,reduceCtorEq,Nat.reduceAdd,Nat.reduceSub,Nat.reduceEqDiff,Nat.reduceLeDiff,Int.reduceToNat,Int.reduceLE,Int.reduceLT,Int.reduceAdd,Int.reduceNeg,Nat.reduceMul,T91,e2,gJ3]
    have:=done J3 (.cells 138 [.str name,.slc m l.length,.bool true,.int .i64 0]) (.cells 138 [.str name,.slc m l.length,.bool true,.int .i64 (a+2:Nat)]) (.cells 138 [.str name,.slc m l.length,.bool true,.int .i64 (a+2:Nat)]) rJ3 (by omega) fJ3 true (a+2) hst
    simpa[AHeap.set_set]using this
   | false=>
    rw[if_neg (by simp[hp2])]at hst
    by_cases hak:a=k'
    ·rw[if_pos hak]at hst
     have d1:((a:Int)==(k':Int))=true:=by simp;omega
     simp (maxSteps:=400000) only[wF,storeA,reduceCtorEq,Nat.reduceAdd,Nat.reduceSub,Nat.reduceEqDiff,Nat.reduceLeDiff,Int.reduceToNat,Int.reduceLE,Int.reduceLT,Int.reduceAdd,Int.reduceNeg,Nat.reduceMul,T91,d1,gJ3,buildA,fillA]
     exact⟨_,_,none_ok _,by rw[hr,hst];rfl,fail _ (by omega) fJ3 _⟩
    ·rw[if_neg hak]at hst
     have d1:((a:Int)==(k':Int))=false:=by simp;omega
     simp (maxSteps:=400000) only[wF,storeA,reduceCtorEq,Nat.reduceAdd,Nat.reduceSub,Nat.reduceEqDiff,Nat.reduceLeDiff,Int.reduceToNat,Int.reduceLE,Int.reduceLT,Int.reduceAdd,Int.reduceNeg,Nat.reduceMul,T91,d1]
     refine AInv.retK B115 (attribute_ok E B P a2 hs J3) (fun v J4 hq=>?_) (fun v J4 hq=>by cases hq.1)
     obtain⟨hq,hJ4⟩:=hq
     cases hq
     have nJ4:=hJ4.1
     have gJ4:J4.get H.next=some (.cells 138 [.str name,.slc m l.length,.bool false,.int .i64 0]):=by rw[hJ4.2 _ (by omega)];exact gJ3
     have rJ4:J4.get m=some (.row 59 2 (attrsA l)):=by rw[hJ4.2 _ (by omega)];exact rJ3
     have fJ4:∀j,j<H.next→J4.get j=H.get j:=fun j hj=>by rw[hJ4.2 j (by omega)];exact fJ3 j hj
     have hne1:(H.next=J4.next)=False:=by simp;omega
     have hne2:(m=J4.next)=False:=by simp;omega
     cases hok:(attrS s a).2.2 with
     | false=>
      rw[if_neg (by simp[hok])]at hst
      simp (maxSteps:=400000) only[wF,storeA,reduceCtorEq,Nat.reduceAdd,Nat.reduceSub,Nat.reduceEqDiff,Nat.reduceLeDiff,Int.reduceToNat,Int.reduceLE,Int.reduceLT,Int.reduceAdd,Int.reduceNeg,Nat.reduceMul,T91,gJ4,hne1,buildA,fillA]
      refine⟨_,_,none_ok _,by rw[hr,hst];rfl,by simp only[AHeap.next_set,AHeap.next_allocAt];omega,fun j hj=>?_⟩
      have b1:j≠H.next:=by omega
      have b2:j≠J4.next:=by omega
      simp only[AHeap.get_set,AHeap.get_allocAt,b1,b2,if_false]
      exact fJ4 j hj
     | true=>
      rw[if_pos hok]at hst
      have hab:=hab hok
      have hne3:(H.next=J4.next+1)=False:=by simp;omega
      have hne4:(m=J4.next+1)=False:=by simp;omega
      have hne5:(m=H.next)=False:=by simp;omega
      have hne6:(J4.next=H.next)=False:=by simp;omega
      have hne7:(J4.next+1=H.next)=False:=by simp;omega
      have hne8:(J4.next+1==m)=false:=by simp;omega
      have hne9:(H.next=J4.next+1+1)=False:=by simp;omega
      have hne10:(H.next=m)=False:=by simp;omega
      have hle:(l.length+1≤maxApp)=True:=by simp[maxApp];omega
      simp (maxSteps:=400000) only[wF,storeA,reduceCtorEq,Nat.reduceAdd,Nat.reduceSub,Nat.reduceEqDiff,Nat.reduceLeDiff,Int.reduceToNat,Int.reduceLE,Int.reduceLT,Int.reduceAdd,Int.reduceNeg,Nat.reduceMul,T91,gJ4,rJ4,hne1,hne2,hne3,hne4,hne5,hne6,hne7,hne8,hne9,hne10,hle,appendA,appSrc,AV.isSlc,sliceLit,fillA,zerosA,srcCells,AV.boxable,Nat.le_refl,Nat.reduceLT,attrsA_len]
      refine⟨((attrS s a).2.1,J4.next+1+1,l++[(attrS s a).1],_),⟨by simp only;omega,by simp only[List.length_append,List.length_cons,List.length_nil];omega,hst.symm,by simp,?_,by simp only;omega,?_,fun j hj=>?_⟩,by simp only;omega,by simp[Fg],HW.refl _⟩
      ·have:J4.next+1+1≠H.next:=by omega
       simp[AHeap.get_set,AHeap.get_allocAt,this,attrsA_app,attrsA]
      ·simp only[AHeap.next_set,AHeap.next_allocAt]
       omega
      ·have b1:j≠H.next:=by omega
       have b2:j≠J4.next:=by omega
       have b3:j≠J4.next+1:=by omega
       have b4:j≠J4.next+1+1:=by omega
       have b5:j≠m:=by omega
       simp only[AHeap.get_set,AHeap.get_allocAt,AHeap.get_del,b1,b2,b3,b4,b5,if_false]
       exact fJ4 j hj
end Go.Ab
