/- reparse's attribute, walked. -/
import Derived.Test.YtojncnpmlhhccaaGreatDoorHW1
set_option linter.all false
namespace Go.Ab
open Go Go.Lib Go.Proofs
theorem h_byte_ne {c:UInt8} {n:Nat} (hn:n<256):((c.toNat:Int) != (n:Int)) = !(c==UInt8.ofNat n):=by
 by_cases h:c=UInt8.ofNat n
 ·subst h
  have:(UInt8.ofNat n).toNat=n:=by simp;omega
  rw[this]
  simp
 ·have h2:¬(c.toNat=n):=fun e=>h (by rw[←e];simp)
  have h3:(c==UInt8.ofNat n)=false:=by simpa using h
  rw[h3]
  simp only[Bool.not_false,bne_iff_ne,ne_eq]
  omega
structure EnvH (G:Nat→Option (List AV)):Prop where
 has:∀s p,s.length≤1000000000→PureCall Tryz.prog G 84 [.str s,.str p] (.bool (Lib.contains s p))
 hasB:bodyT Tryz.prog 84=true
 trim:∀s p,PureCall Tryz.prog G 12 [.str s,.str p] (.str (Lib.trimPrefix s p))
 trimB:bodyT Tryz.prog 12=true
set_option maxHeartbeats 4000000 in
set_option maxRecDepth 100000 in
theorem h_attribute_ok {G:Nat→Option (List AV)} (E:Env G) (B:EnvB G) (P:EnvP G) (X:EnvH G) {s:List UInt8} (hs:s.length≤900000000) (H:AHeap) :
  ACalls Tryz.prog G 100 [.str s] H fun r H'=>r = .ret (.tup [.agg [.str (attrHS s).1.1,.str (attrHS s).1.2],.int .i64 (attrHS s).2.1,.bool (attrHS s).2.2])∧Kept H H':=by
 refine ACalls.wf fun wf=>?_
 refine ACalls.of Tryz.func100 S100_eq R100 N100 rfl rfl ?_
 simp (maxSteps:=400000) only[wF,storeA,reduceCtorEq,Nat.reduceAdd,Nat.reduceSub,Nat.reduceEqDiff,Nat.reduceLeDiff,Int.reduceToNat,Int.reduceLE,Int.reduceLT,Int.reduceAdd,Int.reduceNeg,Nat.reduceMul,S100,N100,R100,T100]
 generalize hH0:H.allocAt H.next _=H0
 have g0:H0.get H.next=some (.cells 132 [.str [],.str []]):=by rw[←hH0];simp
 have n0:H0.next=H.next+1:=by rw[←hH0];simp only[AHeap.next_allocAt];omega
 have o0:∀j,j<H.next→H0.get j=H.get j:=fun j hj=>by rw[←hH0,AHeap.get_allocAt_ne _ _ (by omega)]
 clear hH0
 refine ATrS.loopK (κ:=Nat) (fun x=>[.str s,.und,.ptr H.next 0,.int .i64 x]++List.replicate 78 .und) (fun _=>H0)
  (fun x=>x≤s.length∧x+uptoS (s.drop x) [32,62,61]=uptoS s [32,62,61]) (fun x=>s.length-x) ⟨0,⟨Nat.zero_le _,by simp⟩,by simp[Fg],HW.refl _⟩ ?_
 rintro n ⟨hn,hu⟩
 have hgo:¬(n<s.length∧[32,62,(61:UInt8)].contains (s.getD n 0)=false)→uptoS s [32,62,61]=n:=fun hh=>by
  rw[←hu]
  by_cases hl:n<s.length
  ·have hg:s.getD n 0=s[n]:=by rw[List.getD_eq_getElem?_getD,List.getElem?_eq_getElem hl];rfl
   rw[uptoS_step _ hl,if_pos]
   ·rfl
   ·by_cases hc:[32,62,(61:UInt8)].contains s[n]=true
    ·exact hc
    ·exact absurd ⟨hl,by rw[hg];simpa using hc⟩ hh
  ·rw[uptoS_end _ (by omega)]
   rfl
 have hstep:n<s.length→[32,62,(61:UInt8)].contains (s.getD n 0)=false→(n+1)+uptoS (s.drop (n+1)) [32,62,61]=uptoS s [32,62,61]:=fun hl hc=>by
  have hg:s.getD n 0=s[n]:=by rw[List.getD_eq_getElem?_getD,List.getElem?_eq_getElem hl];rfl
  rw[uptoS_step _ hl,if_neg (by rw[←hg,hc];simp)]at hu
  omega
 have ew:IntKind.i64.wrap ((n:Int)+1)=((n+1:Nat):Int):=by rw[wrap64]<;>omega
 have tail:uptoS s [32,62,61]=n→True:=fun _=>trivial
 have key:∀(c:UInt8),s[n]?=some c→s.getD n 0=c:=fun c hc=>by rw[List.getD_eq_getElem?_getD,hc];rfl
 by_cases hlt:n<s.length∧[32,62,(61:UInt8)].contains (s.getD n 0)=false
 ·obtain⟨hlt,hc⟩:=hlt
  have d0:decide ((n:Int)<(s.length:Int))=true:=by simp;omega
  have hg:s[n]?=some s[n]:=List.getElem?_eq_getElem hlt
  have hs2:=hstep hlt hc
  rw[key _ hg]at hc
  generalize s[n]=c at hg hc
  simp only[List.contains,List.elem]at hc
  have e1:((c.toNat:Int) != 32)=true:=by
   rw[show(32:Int)=((32:Nat):Int)from rfl,h_byte_ne (by omega)]
   by_cases h:c=32
   ·subst h;simp at hc
   ·simpa using h
  have e2:((c.toNat:Int) != 62)=true:=by
   rw[show(62:Int)=((62:Nat):Int)from rfl,h_byte_ne (by omega)]
   by_cases h:c=62
   ·subst h;simp at hc
   ·simpa using h
  have e3:((c.toNat:Int) != 61)=true:=by
   rw[show(61:Int)=((61:Nat):Int)from rfl,h_byte_ne (by omega)]
   by_cases h:c=61
   ·subst h;simp at hc
   ·simpa using h
  simp (maxSteps:=400000) only[wF,storeA,reduceCtorEq,Nat.reduceAdd,Nat.reduceSub,Nat.reduceEqDiff,Nat.reduceLeDiff,Int.reduceToNat,Int.reduceLE,Int.reduceLT,Int.reduceAdd,Int.reduceNeg,Nat.reduceMul,T100,d0,hg,e1,e2,e3,ew]
  exact⟨n+1,⟨hlt,hs2⟩,by omega,by simp[Fg],HW.refl _⟩
 ·have hun:=hgo hlt
  clear hgo hstep
  have hx:(n=s.length∧decide ((n:Int)<(s.length:Int))=false)∨(n<s.length∧∃c,s[n]?=some c∧(((c.toNat:Int) != 32)=false∨((c.toNat:Int) != 32)=true∧(((c.toNat:Int) != 62)=false∨((c.toNat:Int) != 62)=true∧((c.toNat:Int) != 61)=false))):=by
   by_cases hl:n<s.length
   ·right
    have hg:s[n]?=some s[n]:=List.getElem?_eq_getElem hl
    refine⟨hl,s[n],hg,?_⟩
    have hc:[32,62,(61:UInt8)].contains s[n]=true:=by
     by_cases hc:[32,62,(61:UInt8)].contains s[n]=true
     ·exact hc
     ·exact absurd ⟨hl,by rw[key _ hg];simpa using hc⟩ hlt
    rw[List.contains_iff_mem]at hc
    simp only[List.mem_cons,List.not_mem_nil,or_false]at hc
    generalize s[n]=c at hc
    rcases hc with rfl | rfl | rfl
    ·exact .inl rfl
    ·exact .inr ⟨rfl,.inl rfl⟩
    ·exact .inr ⟨rfl,.inr ⟨rfl,rfl⟩⟩
   ·exact .inl ⟨by omega,by simp;omega⟩
  have q1:((n:Int)≤(s.length:Int))=True:=by simp;omega
  have q0:((0:Int)≤(n:Int))=True:=by simp
  clear hlt key tail ew
  rcases hx with ⟨hnl,d0⟩ | ⟨hnl,c,hg,e1 | ⟨e1,e2 | ⟨e2,e3⟩⟩⟩
  case' inl=>simp (maxSteps:=400000) only[wF,storeA,reduceCtorEq,Nat.reduceAdd,Nat.reduceSub,Nat.reduceEqDiff,Nat.reduceLeDiff,Int.reduceToNat,Int.reduceLE,Int.reduceLT,Int.reduceAdd,Int.reduceNeg,Nat.reduceMul,T100,d0]
  case' inr.inl=>have d0:decide ((n:Int)<(s.length:Int))=true:=by simp;omega
  case' inr.inl=>simp (maxSteps:=400000) only[wF,storeA,reduceCtorEq,Nat.reduceAdd,Nat.reduceSub,Nat.reduceEqDiff,Nat.reduceLeDiff,Int.reduceToNat,Int.reduceLE,Int.reduceLT,Int.reduceAdd,Int.reduceNeg,Nat.reduceMul,T100,d0,hg,e1]
  case' inr.inr.inl=>have d0:decide ((n:Int)<(s.length:Int))=true:=by simp;omega
  case' inr.inr.inl=>simp (maxSteps:=400000) only[wF,storeA,reduceCtorEq,Nat.reduceAdd,Nat.reduceSub,Nat.reduceEqDiff,Nat.reduceLeDiff,Int.reduceToNat,Int.reduceLE,Int.reduceLT,Int.reduceAdd,Int.reduceNeg,Nat.reduceMul,T100,d0,hg,e1,e2]
  case' inr.inr.inr=>have d0:decide ((n:Int)<(s.length:Int))=true:=by simp;omega
  case' inr.inr.inr=>simp (maxSteps:=400000) only[wF,storeA,reduceCtorEq,Nat.reduceAdd,Nat.reduceSub,Nat.reduceEqDiff,Nat.reduceLeDiff,Int.reduceToNat,Int.reduceLE,Int.reduceLT,Int.reduceAdd,Int.reduceNeg,Nat.reduceMul,T100,d0,hg,e1,e2,e3]
  all_goals
   refine drawW_fixed mixedOrders L100_3_eq P100_3_eq ?_
   simp (maxSteps:=400000) only[wF,storeA,reduceCtorEq,Nat.reduceAdd,Nat.reduceSub,Nat.reduceEqDiff,Nat.reduceLeDiff,Int.reduceToNat,Int.reduceLE,Int.reduceLT,Int.reduceAdd,Int.reduceNeg,Nat.reduceMul,L100_3,T100,q0,q1,g0,buildA,fillA,AV.boxable]
   generalize hX0:H0.set H.next _=X0
   have x0:X0.get H.next=some (.cells 132 [.str (s.take n),.str (s.take n)]):=by rw[←hX0,AHeap.get_set_same]
   have xn0:X0.next=H.next+1:=by rw[←hX0,AHeap.next_set];exact n0
   have xo0:∀j,j<H.next→X0.get j=H.get j:=fun j hj=>by rw[←hX0,AHeap.get_set_ne _ _ (by omega)];exact o0 j hj
   clear hX0
   have hA:attrHS s=if isNameS (s.take n)=true then
     (if Lib.hasPrefix (s.drop n) [61,34]=true then
      (if(Lib.cut (s.drop (n+2)) [34]).2.2=true∧Lib.contains (Lib.cut (s.drop (n+2)) [34]).1 [60]=false then((s.take n,(unescS (Lib.cut (s.drop (n+2)) [34]).1).1),n+2+(Lib.cut (s.drop (n+2)) [34]).1.length+1,(unescS (Lib.cut (s.drop (n+2)) [34]).1).2)
      else(([],[]),0,false))
     else((s.take n,s.take n),n,true))
    else(([],[]),0,false):=by
    unfold attrHS
    rw[hun]
   refine AInv.pureK B80 (isName_ok E (by simp only[List.length_take];omega)) fun H1 h1=>?_
   have m1:=h1.1
   have x1:=(congrFun h1.2 _).trans x0
   cases hnm:isNameS (s.take n)with
   | false=>
    rw[hnm,if_neg (by simp)]at hA
    simp (maxSteps:=400000) only[wF,storeA,reduceCtorEq,Nat.reduceAdd,Nat.reduceSub,Nat.reduceEqDiff,Nat.reduceLeDiff,Int.reduceToNat,Int.reduceLE,Int.reduceLT,Int.reduceAdd,Int.reduceNeg,Nat.reduceMul,T100,Bool.not_false,buildA,fillA,AV.boxable,x1]
    refine⟨by rw[hA];rfl,by simp only[AHeap.next_set];omega,fun j hj=>?_⟩
    rw[AHeap.get_set_ne _ _ (by omega),h1.2]
    exact xo0 j hj
   | true=>
    rw[hnm,if_pos rfl]at hA
    simp (maxSteps:=400000) only[wF,storeA,reduceCtorEq,Nat.reduceAdd,Nat.reduceSub,Nat.reduceEqDiff,Nat.reduceLeDiff,Int.reduceToNat,Int.reduceLE,Int.reduceLT,Int.reduceAdd,Int.reduceNeg,Nat.reduceMul,T100,Bool.not_true,q0,q1]
    refine AInv.pureK E.cutPreB (E.cutPre _ _) fun H2 h2=>?_
    have m2:=h2.1
    have x2:=(congrFun h2.2 _).trans x1
    cases hp:Lib.hasPrefix (s.drop n) [61,34]with
    | false=>
     rw[hp,if_neg (by simp)]at hA
     simp (maxSteps:=400000) only[wF,storeA,reduceCtorEq,Nat.reduceAdd,Nat.reduceSub,Nat.reduceEqDiff,Nat.reduceLeDiff,Int.reduceToNat,Int.reduceLE,Int.reduceLT,Int.reduceAdd,Int.reduceNeg,Nat.reduceMul,T100,Bool.not_false,x2,AV.boxable]
     refine⟨by rw[hA],by simp only[AHeap.next_set];omega,fun j hj=>?_⟩
     rw[AHeap.get_set_ne _ _ (by omega),h2.2,h1.2]
     exact xo0 j hj
    | true=>
     have ht:Lib.trimPrefix (s.drop n) [61,34]=s.drop (n+2):=by
      unfold Lib.trimPrefix
      rw[if_pos hp,List.drop_drop]
      rfl
     rw[hp,if_pos rfl]at hA
     simp (maxSteps:=400000) only[wF,storeA,reduceCtorEq,Nat.reduceAdd,Nat.reduceSub,Nat.reduceEqDiff,Nat.reduceLeDiff,Int.reduceToNat,Int.reduceLE,Int.reduceLT,Int.reduceAdd,Int.reduceNeg,Nat.reduceMul,T100,Bool.not_true,ht]
     refine AInv.pureK E.cutB (E.cut _ _ (by simp only[List.length_drop];omega)) fun H3 h3=>?_
     have m3:=h3.1
     have x3:=(congrFun h3.2 _).trans x2
     have hcl:=cut_len (s.drop (n+2)) [34]
     simp only[List.length_drop]at hcl
     generalize Lib.cut (s.drop (n+2)) [34]=C at hA hcl ⊢
     obtain⟨v,rest,ok⟩:=C
     simp only at hA hcl ⊢
     cases ok with
     | false=>
      rw[if_neg (by simp)]at hA
      simp (maxSteps:=400000) only[wF,storeA,reduceCtorEq,Nat.reduceAdd,Nat.reduceSub,Nat.reduceEqDiff,Nat.reduceLeDiff,Int.reduceToNat,Int.reduceLE,Int.reduceLT,Int.reduceAdd,Int.reduceNeg,Nat.reduceMul,T100,Bool.not_false,buildA,fillA,AV.boxable,x3]
      refine⟨by rw[hA];rfl,by simp only[AHeap.next_set];omega,fun j hj=>?_⟩
      rw[AHeap.get_set_ne _ _ (by omega),h3.2,h2.2,h1.2]
      exact xo0 j hj
     | true=>
      simp (maxSteps:=400000) only[wF,storeA,reduceCtorEq,Nat.reduceAdd,Nat.reduceSub,Nat.reduceEqDiff,Nat.reduceLeDiff,Int.reduceToNat,Int.reduceLE,Int.reduceLT,Int.reduceAdd,Int.reduceNeg,Nat.reduceMul,T100,Bool.not_true]
      refine AInv.pureK X.hasB (X.has _ _ (by omega)) fun H4 h4=>?_
      have m4:=h4.1
      have x4:=(congrFun h4.2 _).trans x3
      cases hc60:Lib.contains v [60]with
      | true=>
       rw[hc60,if_neg (by simp)]at hA
       simp (maxSteps:=400000) only[wF,storeA,reduceCtorEq,Nat.reduceAdd,Nat.reduceSub,Nat.reduceEqDiff,Nat.reduceLeDiff,Int.reduceToNat,Int.reduceLE,Int.reduceLT,Int.reduceAdd,Int.reduceNeg,Nat.reduceMul,T100,buildA,fillA,AV.boxable,x4]
       refine⟨by rw[hA];rfl,by simp only[AHeap.next_set];omega,fun j hj=>?_⟩
       rw[AHeap.get_set_ne _ _ (by omega),h4.2,h3.2,h2.2,h1.2]
       exact xo0 j hj
      | false=>
       rw[hc60,if_pos ⟨rfl,rfl⟩]at hA
       simp (maxSteps:=400000) only[wF,storeA,reduceCtorEq,Nat.reduceAdd,Nat.reduceSub,Nat.reduceEqDiff,Nat.reduceLeDiff,Int.reduceToNat,Int.reduceLE,Int.reduceLT,Int.reduceAdd,Int.reduceNeg,Nat.reduceMul,T100]
       refine AInv.retK B96 (h_unescape_ok E B P (by omega) H4) (fun w H5 hq=>?_) (fun w H5 hq=>by cases hq.1)
       obtain⟨hq,h5⟩:=hq
       cases hq
       have m5:=h5.1
       have x5:=(h5.2 _ (by omega)).trans x4
       have e1:IntKind.i64.wrap ((n:Int)+2)=((n+2:Nat):Int):=by rw[wrap64]<;>omega
       have e2:IntKind.i64.wrap (((n+2:Nat):Int)+(v.length:Int))=((n+2+v.length:Nat):Int):=by rw[wrap64]<;>omega
       have e3:IntKind.i64.wrap (((n+2+v.length:Nat):Int)+1)=((n+2+v.length+1:Nat):Int):=by rw[wrap64]<;>omega
       simp (maxSteps:=400000) only[wF,storeA,reduceCtorEq,Nat.reduceAdd,Nat.reduceSub,Nat.reduceEqDiff,Nat.reduceLeDiff,Int.reduceToNat,Int.reduceLE,Int.reduceLT,Int.reduceAdd,Int.reduceNeg,Nat.reduceMul,T100,x5,AV.boxable,e1,e2,e3]
       refine⟨by rw[hA],by simp only[AHeap.next_set];omega,fun j hj=>?_⟩
       simp only[AHeap.get_set,show ¬j=H.next by omega,if_false]
       rw[h5.2 j (by omega),h4.2,h3.2,h2.2,h1.2]
       exact xo0 j hj
end Go.Ab
