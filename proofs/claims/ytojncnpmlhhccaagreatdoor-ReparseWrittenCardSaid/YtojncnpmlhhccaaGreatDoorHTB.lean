/- tree.Build, walked. tree's allowed (documents, texts), above; Equal: walked. Equal of two trees, walked. tree's placed with what it calls, walked. -/
import Derived.Test.YtojncnpmlhhccaaGreatDoorHTA
import Derived.Test.YtojncnpmlhhccaaGreatDoorCodesH3
set_option linter.all false
namespace Go.Ab
open Go Go.Lib Go.Proofs
theorem eventT_err {t:TSt} {x:Ev} {e:Nat} (h:eventT t x = .error e):1≤e:=by
 unfold eventT startT endT textT otherT at h
 split at h
 ·split at h
  ·cases h;omega
  split at h
  ·cases h;omega
  split at h
  ·cases h;omega
  split at h
  ·rename_i h1;cases h;exact TSt.add_err h1
  ·exact attrsT_err _ h
 ·split at h
  ·cases h;omega
  split at h
  ·cases h;omega
  ·cases h
 ·split at h
  ·cases h;omega
  split at h
  ·cases h
  split at h
  ·split at h
   ·cases h;omega
   ·cases h
  ·exact TSt.add_err h
 ·split at h
  ·cases h;omega
  ·exact TSt.add_err h
 ·split at h
  ·cases h;omega
  ·exact TSt.add_err h
 ·cases h;omega
def TbAt (l:List Ev) (H:AHeap) (y:Nat × TSt × Nat × AHeap):Prop:=
 y.1≤l.length∧foldT (l.drop y.1) y.2.1=foldT l t0T∧TOk y.2.1∧TxOk y.2.1∧(1-(y.1:Int)≤y.2.1.deep∧y.2.1.deep≤1+(y.1:Int))∧BAt y.2.2.2 (H.next+2) y.2.2.1 y.2.1∧H.next<y.2.2.1∧y.2.2.2.get H.next=some (.cells 25 [.nils])∧∀j,j<H.next→y.2.2.2.get j=H.get j
set_option maxHeartbeats 8000000 in
set_option maxRecDepth 100000 in
theorem t_build_ok {G:Nat→Option (List AV)} (E:Env G) (X:EnvH G) (T:EnvT G):BuildOk G:=by
 intro l H hl hx
 refine ACalls.ret (ACalls.of Tryz.func17 S17_eq R17 N17 rfl rfl ?_)
 simp (maxSteps:=400000) only[wF,storeA,reduceCtorEq,Nat.reduceAdd,Nat.reduceSub,Nat.reduceEqDiff,Nat.reduceLeDiff,Int.reduceToNat,Int.reduceLE,Int.reduceLT,Int.reduceAdd,Int.reduceNeg,Nat.reduceMul,S17,N17,R17,T17,AV.boxable,buildA,sliceLit,fillA,zerosA]
 refine⟨by omega,?_⟩
 generalize hX0:AHeap.allocAt _ (H.next+1+1) _=X0
 have x0:X0.get H.next=some (.cells 25 [.nils]):=by rw[←hX0,AHeap.get_allocAt_ne _ _ (by omega),AHeap.get_allocAt_ne _ _ (by omega),AHeap.get_allocAt_same]
 have x1:X0.get (H.next+1)=some (.row 36 4 (ndsH t0T.l)):=by rw[←hX0,AHeap.get_allocAt_ne _ _ (by omega),AHeap.get_allocAt_same];rfl
 have x2:X0.get (H.next+2)=some (.cells 85 [.slc (H.next+1) t0T.l.length,.int .i64 t0T.op,.int .i64 t0T.deep,.int .i64 t0T.bytes]):=by rw[←hX0,AHeap.get_allocAt_same];rfl
 have xn:X0.next=H.next+3:=by rw[←hX0];simp only[AHeap.next_allocAt];omega
 have xo:∀j,j<H.next→X0.get j=H.get j:=fun j hj=>by rw[←hX0,AHeap.get_allocAt_ne _ _ (by omega),AHeap.get_allocAt_ne _ _ (by omega),AHeap.get_allocAt_ne _ _ (by omega)]
 clear hX0
 refine ATrS.loopK (κ:=Nat × TSt × Nat × AHeap) (fun y=>[.und,.und,.ptr H.next 0,.und,.ptr (H.next+2) 0]++List.replicate 7 .und++[.lst l.length (evsH l),.int .i64 l.length,.int .i64 y.1]++List.replicate 50 .und) (fun y=>y.2.2.2)
  (TbAt l H) (fun y=>l.length-y.1) ⟨(0,t0T,H.next+1,X0),⟨Nat.zero_le _,rfl,TOk.init,TxOk.init,⟨show(1:Int)-((0:Nat):Int)≤1 by decide,show(1:Int)≤1+((0:Nat):Int) by decide⟩,⟨x2,x1,by simp only;omega,by simp only;omega,by simp only;omega⟩,by simp only;omega,x0,xo⟩,by simp[Fg],HW.refl _⟩ ?_
 clear x0 x1 x2 xo
 rintro⟨i,t,kl,J⟩ ⟨hi,hfo,hok,htx,hdp,hb,hkl,gc,fJ⟩
 simp only at hi hfo hok htx hdp hb hkl gc fJ
 have hb0:=hb
 obtain⟨a1,a2,a3,a4,a5⟩:=hb
 by_cases hlt:i<l.length
 ·have d0:decide ((i:Int)<(l.length:Int))=true:=by simp;omega
  have q0:((i:Int)<(l.length:Int))=True:=by simp;omega
  have hat:=evsH_at l i hlt
  have hle:(i*6+6≤(evsH l).length)=True:=by rw[evsH_len];simp;omega
  have hxb:=hx _ (List.getElem_mem hlt)
  have hdr:l.drop i=l[i]::l.drop (i+1):=List.drop_eq_getElem_cons hlt
  rw[hdr]at hfo
  generalize l[i]=x at hat hxb hfo
  simp only[foldT]at hfo
  simp only[evH]at hat
  have ew:IntKind.i64.wrap ((i:Int)+1)=((i+1:Nat):Int):=by rw[wrap64]<;>omega
  have step:∀{J1:AHeap},J1.get J.next=some (.cells 88 [.int .i64 x.kind,.str x.name,.str x.text,atH x.attrs,.int .i64 x.line,.int .i64 x.col])→J1.next=J.next+1→(∀j,j<J.next→J1.get j=J.get j)→BAt J1 (H.next+2) kl t∧J1.get H.next=some (.cells 25 [.nils]):=fun h1 h2 h3=>
   ⟨(hb0.keep ⟨by omega,h3⟩).1,(h3 _ (by omega)).trans gc⟩
  have hone:(atH x.attrs).one=true:=by unfold atH;split<;>rfl
  have hdb : -100000000≤t.deep∧t.deep≤100000000:=by omega
  have hl1:=hok.len
  have hl2:=hok.bytes
  have hn1:=hxb.1
  have hn2:=hxb.2.1
  rcases(show x.kind=0∨x.kind=1∨x.kind=2∨x.kind=3∨x.kind=4 by have:=hxb.2.2.2.2;omega)with h | h | h | h | h
  case' pos.inl=>
   have z0:((x.kind:Int)==0)=true:=by rw[h];rfl
   simp (maxSteps:=400000) only[wF,storeA,reduceCtorEq,Nat.reduceAdd,Nat.reduceSub,Nat.reduceEqDiff,Nat.reduceLeDiff,Int.reduceToNat,Int.reduceLE,Int.reduceLT,Int.reduceAdd,Int.reduceNeg,Nat.reduceMul,T17,d0,q0,indexAddrA,hat,hle,hone,z0]
  case' pos.inr.inl=>
   have z0:((x.kind:Int)==0)=false:=by rw[h];rfl
   have z1:((x.kind:Int)==1)=true:=by rw[h];rfl
   simp (maxSteps:=400000) only[wF,storeA,reduceCtorEq,Nat.reduceAdd,Nat.reduceSub,Nat.reduceEqDiff,Nat.reduceLeDiff,Int.reduceToNat,Int.reduceLE,Int.reduceLT,Int.reduceAdd,Int.reduceNeg,Nat.reduceMul,T17,d0,q0,indexAddrA,hat,hle,hone,z0,z1]
  case' pos.inr.inr.inl=>
   have z0:((x.kind:Int)==0)=false:=by rw[h];rfl
   have z1:((x.kind:Int)==1)=false:=by rw[h];rfl
   have z2:((x.kind:Int)==2)=true:=by rw[h];rfl
   simp (maxSteps:=400000) only[wF,storeA,reduceCtorEq,Nat.reduceAdd,Nat.reduceSub,Nat.reduceEqDiff,Nat.reduceLeDiff,Int.reduceToNat,Int.reduceLE,Int.reduceLT,Int.reduceAdd,Int.reduceNeg,Nat.reduceMul,T17,d0,q0,indexAddrA,hat,hle,hone,z0,z1,z2]
  case' pos.inr.inr.inr.inl=>
   have z0:((x.kind:Int)==0)=false:=by rw[h];rfl
   have z1:((x.kind:Int)==1)=false:=by rw[h];rfl
   have z2:((x.kind:Int)==2)=false:=by rw[h];rfl
   have z3:((x.kind:Int)==3)=true:=by rw[h];rfl
   simp (maxSteps:=400000) only[wF,storeA,reduceCtorEq,Nat.reduceAdd,Nat.reduceSub,Nat.reduceEqDiff,Nat.reduceLeDiff,Int.reduceToNat,Int.reduceLE,Int.reduceLT,Int.reduceAdd,Int.reduceNeg,Nat.reduceMul,T17,d0,q0,indexAddrA,hat,hle,hone,z0,z1,z2,z3]
  case' pos.inr.inr.inr.inr=>
   have z0:((x.kind:Int)==0)=false:=by rw[h];rfl
   have z1:((x.kind:Int)==1)=false:=by rw[h];rfl
   have z2:((x.kind:Int)==2)=false:=by rw[h];rfl
   have z3:((x.kind:Int)==3)=false:=by rw[h];rfl
   have z4:((x.kind:Int)==4)=true:=by rw[h];rfl
   simp (maxSteps:=400000) only[wF,storeA,reduceCtorEq,Nat.reduceAdd,Nat.reduceSub,Nat.reduceEqDiff,Nat.reduceLeDiff,Int.reduceToNat,Int.reduceLE,Int.reduceLT,Int.reduceAdd,Int.reduceNeg,Nat.reduceMul,T17,d0,q0,indexAddrA,hat,hle,hone,z0,z1,z2,z3,z4]
  all_goals
   generalize hJ1:AHeap.set (AHeap.allocAt J J.next _) J.next _=J1
   have j0:J1.get J.next=some (.cells 88 [.int .i64 x.kind,.str x.name,.str x.text,atH x.attrs,.int .i64 x.line,.int .i64 x.col]):=by rw[←hJ1,AHeap.get_set_same]
   have jn:J1.next=J.next+1:=by rw[←hJ1];simp only[AHeap.next_set,AHeap.next_allocAt];omega
   have jo:∀j,j<J.next→J1.get j=J.get j:=fun j hj=>by rw[←hJ1,AHeap.get_set_ne _ _ (by omega),AHeap.get_allocAt_ne _ _ (by omega)]
   clear hJ1
   obtain⟨b1,c1⟩:=step j0 jn jo
  case' pos.inl=>refine AInv.call B43 (t_start_ok E b1 hok hxb hdb) fun r J2 h2=>?_
  case' pos.inl=>replace h2:BPost J1 (H.next+2) kl (eventT t x) r J2:=by unfold eventT;rw[h];exact h2
  case' pos.inr.inl=>refine AInv.call B44 (t_end_ok E b1 hok hxb hdb) fun r J2 h2=>?_
  case' pos.inr.inl=>replace h2:BPost J1 (H.next+2) kl (eventT t x) r J2:=by unfold eventT;rw[h];exact h2
  case' pos.inr.inr.inl=>refine AInv.call B45 (t_text_ok E b1 hok htx hxb) fun r J2 h2=>?_
  case' pos.inr.inr.inl=>replace h2:BPost J1 (H.next+2) kl (eventT t x) r J2:=by unfold eventT;rw[h];exact h2
  case' pos.inr.inr.inr.inl=>refine AInv.call B46 (t_other4_ok E X T b1 hl1 hl2 (by omega)) fun r J2 h2=>?_
  case' pos.inr.inr.inr.inl=>replace h2:BPost J1 (H.next+2) kl (eventT t x) r J2:=by unfold eventT;rw[h];exact h2
  case' pos.inr.inr.inr.inr=>refine AInv.call B46 (t_other5_ok E X T b1 hl1 hl2 (by omega) (by omega)) fun r J2 h2=>?_
  case' pos.inr.inr.inr.inr=>replace h2:BPost J1 (H.next+2) kl (eventT t x) r J2:=by unfold eventT;rw[h];exact h2
  all_goals
   cases ho:eventT t x with
   | error e=>
    rw[ho]at h2 hfo
    obtain⟨rfl,n2,f2⟩:=h2
    have he:((e:Int) != 0)=true:=by have:=eventT_err ho;simp;omega
    have hR:buildS l = .error e:=by unfold buildS;rw[←hfo]
    have c2:=(f2 _ (by omega) (by omega) (by omega)).trans c1
    simp (maxSteps:=400000) only[wF,storeA,reduceCtorEq,Nat.reduceAdd,Nat.reduceSub,Nat.reduceEqDiff,Nat.reduceLeDiff,Int.reduceToNat,Int.reduceLE,Int.reduceLT,Int.reduceAdd,Int.reduceNeg,Nat.reduceMul,T17,he,c2,buildA,fillA,AV.boxable]
    refine⟨_,_,Weak.treeNil G e _,by rw[hR],by simp only[AHeap.next_set];omega,fun j hj=>?_⟩
    rw[AHeap.get_set_ne _ _ (by omega),f2 j (by omega) (by omega) (by omega),jo j (by omega)]
    exact fJ j hj
   | ok t'=>
    rw[ho]at h2 hfo
    obtain⟨rfl,kl',b3,k3⟩:=h2
    obtain⟨n2,o2,f2⟩:=k3
    have he:(((0:Nat):Int) != 0)=false:=rfl
    have c2:=(f2 _ (by omega) (by omega) (by omega)).trans c1
    obtain⟨hok',hd1,hd2⟩:=hok.event ho
    simp (maxSteps:=400000) only[wF,storeA,reduceCtorEq,Nat.reduceAdd,Nat.reduceSub,Nat.reduceEqDiff,Nat.reduceLeDiff,Int.reduceToNat,Int.reduceLE,Int.reduceLT,Int.reduceAdd,Int.reduceNeg,Nat.reduceMul,T17,he,ew]
    refine⟨(i+1,t',kl',J2),⟨by simp only;omega,hfo,hok',htx.event hok ho,⟨by simp only;omega,by simp only;omega⟩,b3,by simp only;omega,c2,fun j hj=>?_⟩,by simp only;omega,by simp[Fg],HW.refl _⟩
    show J2.get j=_
    rw[f2 j (by omega) (by omega) (by omega),jo j (by omega)]
    exact fJ j hj
 have hil:i=l.length:=by omega
 subst hil
 have d0:decide ((l.length:Int)<(l.length:Int))=false:=by simp
 rw[List.drop_length]at hfo
 simp only[foldT]at hfo
 by_cases ho:t.op=0
 ·have d1:((t.op:Int) != 0)=false:=by simp;omega
  have hR:buildS l = .ok t.l:=by unfold buildS;rw[←hfo];simp only;rw[if_neg (by simp[ho])]
  simp (maxSteps:=400000) only[wF,storeA,reduceCtorEq,Nat.reduceAdd,Nat.reduceSub,Nat.reduceEqDiff,Nat.reduceLeDiff,Int.reduceToNat,Int.reduceLE,Int.reduceLT,Int.reduceAdd,Int.reduceNeg,Nat.reduceMul,T17,d0,a1,d1,gc,buildA,fillA,AV.boxable]
  refine⟨_,_,Weak.h_freezeVal G (j:=kl) (e:=36) (size:=4) (cs:=ndsH t.l) ?_ (by omega) (v':=treeA (.ok t.l)) (.tup' ⟨.agg' ⟨.slc _ _ rfl,trivial⟩,.same _,trivial⟩),by rw[hR],?_,fun j hj=>?_⟩
  ·rw[AHeap.get_set_ne _ _ (by omega)];exact a2
  ·simp only[AHeap.next_del,AHeap.next_set];omega
  ·rw[AHeap.get_del_ne _ (by omega),AHeap.get_set_ne _ _ (by omega)]
   exact fJ j hj
 ·have d1:((t.op:Int) != 0)=true:=by simp;omega
  have hR:buildS l = .error 110:=by unfold buildS;rw[←hfo];simp only;rw[if_pos ho]
  simp (maxSteps:=400000) only[wF,storeA,reduceCtorEq,Nat.reduceAdd,Nat.reduceSub,Nat.reduceEqDiff,Nat.reduceLeDiff,Int.reduceToNat,Int.reduceLE,Int.reduceLT,Int.reduceAdd,Int.reduceNeg,Nat.reduceMul,T17,d0,a1,d1,gc,buildA,fillA,AV.boxable]
  refine⟨_,_,Weak.treeNil G 110 _,by rw[hR],by simp only[AHeap.next_set];omega,fun j hj=>?_⟩
  rw[AHeap.get_set_ne _ _ (by omega)]
  exact fJ j hj
end Go.Ab
namespace Go.Ab
open Go Go.Lib Go.Proofs
theorem t_allowed0_ok {G:Nat→Option (List AV)} (E:Env G) {name text:List UInt8} (ht:text.length≤1000000000):PureCall Tryz.prog G 56 [.int .i64 0,.str name,.str text] (.bool (allowedS 0 name text)):=by
 intro H
 refine ACalls.keep (ACalls.of Tryz.func56 S56_eq R56 N56 rfl rfl ?_)
 have z0:((0:Int)==0)=true:=rfl
 simp (maxSteps:=400000) only[wF,storeA,reduceCtorEq,Nat.reduceAdd,Nat.reduceSub,Nat.reduceEqDiff,Nat.reduceLeDiff,Int.reduceToNat,Int.reduceLE,Int.reduceLT,Int.reduceAdd,Int.reduceNeg,Nat.reduceMul,S56,N56,R56]
 refine AInv.pureK B23 (isText_ok E ht) fun H1 h1=>?_
 unfold allowedS
 cases hT:isTextS text with
 | false=>
  simp (maxSteps:=400000) only[wF,storeA,reduceCtorEq,Nat.reduceAdd,Nat.reduceSub,Nat.reduceEqDiff,Nat.reduceLeDiff,Int.reduceToNat,Int.reduceLE,Int.reduceLT,Int.reduceAdd,Int.reduceNeg,Nat.reduceMul,Bool.not_false]
  exact⟨by simp,h1.post⟩
 | true=>
  cases hN:(name==[])with
  | false=>
   simp (maxSteps:=400000) only[wF,storeA,reduceCtorEq,Nat.reduceAdd,Nat.reduceSub,Nat.reduceEqDiff,Nat.reduceLeDiff,Int.reduceToNat,Int.reduceLE,Int.reduceLT,Int.reduceAdd,Int.reduceNeg,Nat.reduceMul,Bool.not_true,z0,hN]
   first | exact⟨by simp,h1.post⟩ | exact h1.post
  | true=>
   simp (maxSteps:=400000) only[wF,storeA,reduceCtorEq,Nat.reduceAdd,Nat.reduceSub,Nat.reduceEqDiff,Nat.reduceLeDiff,Int.reduceToNat,Int.reduceLE,Int.reduceLT,Int.reduceAdd,Int.reduceNeg,Nat.reduceMul,Bool.not_true,z0,hN]
   first | exact⟨by simp,h1.post⟩ | exact h1.post
theorem t_allowed3_ok {G:Nat→Option (List AV)} (E:Env G) {name text:List UInt8} (ht:text.length≤1000000000):PureCall Tryz.prog G 56 [.int .i64 3,.str name,.str text] (.bool (allowedS 3 name text)):=by
 intro H
 refine ACalls.keep (ACalls.of Tryz.func56 S56_eq R56 N56 rfl rfl ?_)
 have z0:((3:Int)==0)=false:=rfl
 have z1:((3:Int)==1)=false:=rfl
 have z2:((3:Int)==2)=false:=rfl
 have z3:((3:Int)==3)=true:=rfl
 simp (maxSteps:=400000) only[wF,storeA,reduceCtorEq,Nat.reduceAdd,Nat.reduceSub,Nat.reduceEqDiff,Nat.reduceLeDiff,Int.reduceToNat,Int.reduceLE,Int.reduceLT,Int.reduceAdd,Int.reduceNeg,Nat.reduceMul,S56,N56,R56]
 refine AInv.pureK B23 (isText_ok E ht) fun H1 h1=>?_
 unfold allowedS
 cases hT:isTextS text with
 | false=>
  simp (maxSteps:=400000) only[wF,storeA,reduceCtorEq,Nat.reduceAdd,Nat.reduceSub,Nat.reduceEqDiff,Nat.reduceLeDiff,Int.reduceToNat,Int.reduceLE,Int.reduceLT,Int.reduceAdd,Int.reduceNeg,Nat.reduceMul,Bool.not_false]
  exact⟨by simp,h1.post⟩
 | true=>
  cases hN:(name==[])with
  | false=>
   simp (maxSteps:=400000) only[wF,storeA,reduceCtorEq,Nat.reduceAdd,Nat.reduceSub,Nat.reduceEqDiff,Nat.reduceLeDiff,Int.reduceToNat,Int.reduceLE,Int.reduceLT,Int.reduceAdd,Int.reduceNeg,Nat.reduceMul,Bool.not_true,z0,z1,z2,z3,hN]
   first | exact⟨by simp,h1.post⟩ | exact h1.post
  | true=>
   simp (maxSteps:=400000) only[wF,storeA,reduceCtorEq,Nat.reduceAdd,Nat.reduceSub,Nat.reduceEqDiff,Nat.reduceLeDiff,Int.reduceToNat,Int.reduceLE,Int.reduceLT,Int.reduceAdd,Int.reduceNeg,Nat.reduceMul,Bool.not_true,z0,z1,z2,z3,hN]
   first | exact⟨by cases text<;>rfl,h1.post⟩ | exact h1.post
def upN (l:List Nd) (a:Nat):Nat→Nat→Nat
 | 0,i=>i
 | f+1,i=>if a<i then upN l a f (l.getD i nd0).up.toNat else i
def aboveN (l:List Nd) (a i:Nat):Bool:=upN l a i i==a
def UpOk (l:List Nd) (i:Nat):Prop:=∀k,0<k→k≤i→0≤(l.getD k nd0).up∧(l.getD k nd0).up<k
theorem upN_fuel {l:List Nd} {a:Nat}:∀{f g i:Nat},UpOk l i→i≤f→i≤g→upN l a f i=upN l a g i
 | 0,g,i,h,hf,hg=>by
  have:i=0:=by omega
  subst this
  cases g with
  | zero=>rfl
  | succ g=>simp[upN]
 | f+1,0,i,h,hf,hg=>by
  have:i=0:=by omega
  subst this
  simp[upN]
 | f+1,g+1,i,h,hf,hg=>by
  simp only[upN]
  split
  ·rename_i hai
   have:=h i (by omega) (Nat.le_refl _)
   exact upN_fuel (fun k k1 k2=>h k k1 (by omega)) (by omega) (by omega)
  ·rfl
theorem upN_step {l:List Nd} {a i:Nat} (h:UpOk l i) (ha:a<i):upN l a i i=upN l a (l.getD i nd0).up.toNat (l.getD i nd0).up.toNat:=by
 have:=h i (by omega) (Nat.le_refl _)
 obtain⟨j,rfl⟩:∃j,i=j+1:=⟨i-1,by omega⟩
 conv=>lhs;rw[upN]
 rw[if_pos ha]
 exact upN_fuel (fun k k1 k2=>h k k1 (by omega)) (by omega) (Nat.le_refl _)
theorem upN_end {l:List Nd} {a i:Nat} (ha:¬a<i):upN l a i i=i:=by
 cases i with
 | zero=>rfl
 | succ i=>rw[upN,if_neg ha]
set_option maxHeartbeats 4000000 in
set_option maxRecDepth 100000 in
theorem t_above_ok (G:Nat→Option (List AV)) {l:List Nd} {a i:Nat} (hi:i<l.length) (hu:UpOk l i):PureCall Tryz.prog G 36 [.agg [.lst l.length (ndsH l)],.int .i64 a,.int .i64 i] (.bool (aboveN l a i)):=by
 intro H
 refine ACalls.keep (ACalls.of Tryz.func36 S36_eq R36 N36 rfl rfl ?_)
 simp (maxSteps:=400000) only[wF,storeA,reduceCtorEq,Nat.reduceAdd,Nat.reduceSub,Nat.reduceEqDiff,Nat.reduceLeDiff,Int.reduceToNat,Int.reduceLE,Int.reduceLT,Int.reduceAdd,Int.reduceNeg,Nat.reduceMul,S36,N36,R36,T36,AV.boxable]
 generalize hX0:AHeap.allocAt H H.next _=X
 have x0:X.get H.next=some (.cells 25 [.lst l.length (ndsH l)]):=by rw[←hX0,AHeap.get_allocAt_same]
 have xn:X.next=H.next+1:=by rw[←hX0];simp only[AHeap.next_allocAt];omega
 have xo:∀j,j<H.next→X.get j=H.get j:=fun j hj=>by rw[←hX0,AHeap.get_allocAt_ne _ _ (by omega)]
 clear hX0
 refine ATrS.loopK (κ:=Nat) (fun c=>[.und,.int .i64 a,.int .i64 c,.ptr H.next 0]++List.replicate 15 .und) (fun _=>X)
  (fun c=>c≤i∧upN l a c c=upN l a i i) (fun c=>c) ⟨i,⟨Nat.le_refl _,rfl⟩,by simp[Fg],HW.refl _⟩ ?_
 rintro c ⟨hc,hcu⟩
 have huc:UpOk l c:=fun k k1 k2=>hu k k1 (by omega)
 by_cases hlt:a<c
 ·have d0:decide ((c:Int)>(a:Int))=true:=by simp;omega
  have q0:((0:Int)≤(c:Int))=True:=by simp
  have q1:((c:Int)<(l.length:Int))=True:=by simp;omega
  have hcl:c<l.length:=by omega
  have g3:=ndsH_get l c 3 hcl (by omega)
  have hgd:l.getD c nd0=l[c]:=by rw[List.getD_eq_getElem?_getD,List.getElem?_eq_getElem hcl];rfl
  have hst:=upN_step huc hlt
  have hb:=huc c (by omega) (Nat.le_refl _)
  rw[hgd]at hst hb
  generalize l[c]=x at g3 hst hb
  simp only[ndH,List.getElem?_cons_zero,List.getElem?_cons_succ]at g3
  simp (maxSteps:=400000) only[wF,storeA,reduceCtorEq,Nat.reduceAdd,Nat.reduceSub,Nat.reduceEqDiff,Nat.reduceLeDiff,Int.reduceToNat,Int.reduceLE,Int.reduceLT,Int.reduceAdd,Int.reduceNeg,Nat.reduceMul,T36,d0,x0,q0,q1,indexAddrA,g3]
  have hx:x.up=((x.up.toNat:Nat):Int):=by omega
  exact⟨x.up.toNat,⟨by omega,by rw[←hst];exact hcu⟩,by omega,by simp[Fg];omega,HW.refl _⟩
 ·have d0:decide ((c:Int)>(a:Int))=false:=by simp;omega
  rw[upN_end hlt]at hcu
  have he:((c:Int)==(a:Int))=aboveN l a i:=by
   unfold aboveN
   rw[←hcu]
   by_cases h:c=a
   ·subst h;simp
   ·rw[beq_false_of_ne h,beq_false_of_ne (by omega)]
  simp (maxSteps:=400000) only[wF,storeA,reduceCtorEq,Nat.reduceAdd,Nat.reduceSub,Nat.reduceEqDiff,Nat.reduceLeDiff,Int.reduceToNat,Int.reduceLE,Int.reduceLT,Int.reduceAdd,Int.reduceNeg,Nat.reduceMul,T36,d0]
  first | exact⟨by rw[he],by omega,xo⟩ | exact⟨he,by omega,xo⟩
end Go.Ab
namespace Go.Ab
open Go Go.Lib Go.Proofs
theorem T11:(fieldT Tryz.prog 25 0=some (0,23))∧(aggT Tryz.prog 23=some false)∧(szT Tryz.prog 23=some 1)∧(strT Tryz.prog 23=false)∧(mapT Tryz.prog 23=none)∧(elemT Tryz.prog 23=some 36)∧(szT Tryz.prog 36=some 4)∧(aggT Tryz.prog 36=some true) ∧
  (eqT Tryz.prog 36=some [(0,.i),(1,.s),(2,.s),(3,.i)]):=
 ⟨by kernel_rfl,by kernel_rfl,by kernel_rfl,by kernel_rfl,by kernel_rfl,by kernel_rfl,by kernel_rfl,by kernel_rfl,by kernel_rfl⟩
def ndEq (x y:Nd):Bool:=((x.kind:Int)==(y.kind:Int))&&((x.name==y.name)&&((x.text==y.text)&&(x.up==y.up)))
theorem ndEq_iff (x y:Nd):ndEq x y=true↔x=y:=by
 obtain⟨a,b,c,d⟩:=x
 obtain⟨a',b',c',d'⟩:=y
 simp only[ndEq,Bool.and_eq_true,beq_iff_eq,Nd.mk.injEq]
 constructor
 ·rintro⟨h1,h2,h3,h4⟩;exact⟨by omega,h2,h3,h4⟩
 ·rintro⟨h1,h2,h3,h4⟩;exact⟨by omega,h2,h3,h4⟩
set_option maxHeartbeats 4000000 in
set_option maxRecDepth 100000 in
theorem e_equal_ok (G:Nat→Option (List AV)) {l m:List Nd} (hl:l.length≤1000000000):PureCall Tryz.prog G 11 [.agg [.lst l.length (ndsH l)],.agg [.lst m.length (ndsH m)]] (.bool (decide (l=m))):=by
 intro H
 refine ACalls.keep (ACalls.of Tryz.func11 S11_eq R11 N11 rfl rfl ?_)
 by_cases hlm:l.length=m.length
 case neg=>
  have d0:((l.length:Int) != (m.length:Int))=true:=by simp;omega
  have u1:(H.next=H.next+1)=False:=by simp
  have u2:(H.next+1=H.next)=False:=by simp
  have hR:decide (l=m)=false:=by
   simp only[decide_eq_false_iff_not]
   rintro rfl
   exact hlm rfl
  simp (maxSteps:=400000) only[wF,storeA,reduceCtorEq,Nat.reduceAdd,Nat.reduceSub,Nat.reduceEqDiff,Nat.reduceLeDiff,Int.reduceToNat,Int.reduceLE,Int.reduceLT,Int.reduceAdd,Int.reduceNeg,Nat.reduceMul,S11,N11,R11,T11,AV.boxable,d0,u1,u2]
  refine⟨by rw[hR],by omega,fun j hj=>?_⟩
  rw[if_neg (by omega),if_neg (by omega)]
 have d0:((l.length:Int) != (m.length:Int))=false:=by simp;omega
 have u1:(H.next=H.next+1)=False:=by simp
 have u2:(H.next+1=H.next)=False:=by simp
 simp (maxSteps:=400000) only[wF,storeA,reduceCtorEq,Nat.reduceAdd,Nat.reduceSub,Nat.reduceEqDiff,Nat.reduceLeDiff,Int.reduceToNat,Int.reduceLE,Int.reduceLT,Int.reduceAdd,Int.reduceNeg,Nat.reduceMul,S11,N11,R11,T11,AV.boxable,d0,u1,u2]
 generalize hX0:AHeap.allocAt _ (H.next+1) _=X
 have x0:X.get H.next=some (.cells 25 [.lst l.length (ndsH l)]):=by rw[←hX0,AHeap.get_allocAt_ne _ _ (by omega),AHeap.get_allocAt_same]
 have x1:X.get (H.next+1)=some (.cells 25 [.lst m.length (ndsH m)]):=by rw[←hX0,AHeap.get_allocAt_same]
 have xn:X.next=H.next+2:=by rw[←hX0];simp only[AHeap.next_allocAt];omega
 have xo:∀j,j<H.next→X.get j=H.get j:=fun j hj=>by rw[←hX0,AHeap.get_allocAt_ne _ _ (by omega),AHeap.get_allocAt_ne _ _ (by omega)]
 clear hX0
 refine ATrS.loopK (κ:=Nat) (fun c=>[.und,.und,.ptr H.next 0,.ptr (H.next+1) 0,.und,.int .i64 c]++List.replicate 25 .und) (fun _=>X)
  (fun c=>c≤l.length∧l.take c=m.take c) (fun c=>l.length-c) ⟨0,⟨Nat.zero_le _,rfl⟩,by simp[Fg],HW.refl _⟩ ?_
 rintro c ⟨hc,ht⟩
 by_cases hlt:c<l.length
 ·have d1:decide ((c:Int)<(l.length:Int))=true:=by simp;omega
  have q0:((c:Int)<(l.length:Int))=True:=by simp;omega
  have q1:((c:Int)<(m.length:Int))=True:=by simp;omega
  have hat:=ndsH_at l c hlt
  have hat2:=ndsH_at m c (by omega)
  have hle:(c*4+4≤(ndsH l).length)=True:=by rw[ndsH_len];simp;omega
  have hle2:(c*4+4≤(ndsH m).length)=True:=by rw[ndsH_len];simp;omega
  have htl:l.take (c+1)=l.take c++[l[c]]:=by rw[List.take_succ,List.getElem?_eq_getElem hlt];rfl
  have htm:m.take (c+1)=m.take c++[m[c]]:=by rw[List.take_succ,List.getElem?_eq_getElem (by omega)];rfl
  have hne:l=m→l[c]=m[c]:=fun h=>by subst h;rfl
  generalize l[c]=x at hat htl hne
  generalize m[c]=y at hat2 htm hne
  simp only[ndH]at hat hat2
  have hq:=ndEq_iff x y
  unfold ndEq at hq
  have ew:IntKind.i64.wrap ((c:Int)+1)=((c+1:Nat):Int):=by rw[wrap64]<;>omega
  generalize hb:(((x.kind:Int)==(y.kind:Int))&&((x.name==y.name)&&((x.text==y.text)&&(x.up==y.up))))=b at hq
  simp (maxSteps:=400000) only[wF,storeA,reduceCtorEq,Nat.reduceAdd,Nat.reduceSub,Nat.reduceEqDiff,Nat.reduceLeDiff,Int.reduceToNat,Int.reduceLE,Int.reduceLT,Int.reduceAdd,Int.reduceNeg,Nat.reduceMul,T11,x0,d1]
  refine drawW_fixed mixedOrders L11_6_eq P11_6_eq ?_
  simp (maxSteps:=400000) only[wF,storeA,reduceCtorEq,Nat.reduceAdd,Nat.reduceSub,Nat.reduceEqDiff,Nat.reduceLeDiff,Int.reduceToNat,Int.reduceLE,Int.reduceLT,Int.reduceAdd,Int.reduceNeg,Nat.reduceMul,L11_6,T11,x0,x1,q0,q1,indexAddrA,hat,hat2,hle,hle2,eqCells,eqCell,eqNeq,hb]
  cases b with
  | false=>
   have hR:decide (l=m)=false:=by
    simp only[decide_eq_false_iff_not]
    intro h
    exact absurd (hq.2 (hne h)) (by simp)
   simp (maxSteps:=400000) only[wF,storeA,reduceCtorEq,Nat.reduceAdd,Nat.reduceSub,Nat.reduceEqDiff,Nat.reduceLeDiff,Int.reduceToNat,Int.reduceLE,Int.reduceLT,Int.reduceAdd,Int.reduceNeg,Nat.reduceMul,T11,Bool.not_false]
   first | exact⟨by rw[hR],by omega,xo⟩ | exact⟨hR.symm,by omega,xo⟩
  | true=>
   have hxy:=hq.1 rfl
   simp (maxSteps:=400000) only[wF,storeA,reduceCtorEq,Nat.reduceAdd,Nat.reduceSub,Nat.reduceEqDiff,Nat.reduceLeDiff,Int.reduceToNat,Int.reduceLE,Int.reduceLT,Int.reduceAdd,Int.reduceNeg,Nat.reduceMul,T11,Bool.not_true,ew]
   exact⟨c+1,⟨hlt,by rw[htl,htm,ht,hxy]⟩,by omega,by simp[Fg],HW.refl _⟩
 ·have d1:decide ((c:Int)<(l.length:Int))=false:=by simp;omega
  have hR:decide (l=m)=true:=by
   simp only[decide_eq_true_eq]
   have hcl:c=l.length:=by omega
   subst hcl
   rw[List.take_length,hlm,List.take_length]at ht
   exact ht
  simp (maxSteps:=400000) only[wF,storeA,reduceCtorEq,Nat.reduceAdd,Nat.reduceSub,Nat.reduceEqDiff,Nat.reduceLeDiff,Int.reduceToNat,Int.reduceLE,Int.reduceLT,Int.reduceAdd,Int.reduceNeg,Nat.reduceMul,T11,x0,d1]
  first | exact⟨by rw[hR],by omega,xo⟩ | exact⟨hR,by omega,xo⟩
end Go.Ab
namespace Go.Ab
open Go Go.Lib Go.Proofs
theorem t_placed1_ok (G:Nat→Option (List AV)) {H:AHeap} {k:Nat} {x:Nd} (y:Nd) (hk:H.get k=some (.cells 36 (ndH x))) (hkn:k<H.next) :
  ACalls Tryz.prog G 91 [.agg (ndH y),.ptr k 0] H fun r H'=>r = .ret (.bool (y.name==x.name):AV)∧Keeps H H':=by
 refine ACalls.keep (ACalls.of Tryz.func91 S91_eq R91 N91 rfl rfl ?_)
 simp only[ndH]at hk ⊢
 have u1:(k=H.next)=False:=by simp;omega
 simp (maxSteps:=400000) only[wF,storeA,reduceCtorEq,Nat.reduceAdd,Nat.reduceSub,Nat.reduceEqDiff,Nat.reduceLeDiff,Int.reduceToNat,Int.reduceLE,Int.reduceLT,Int.reduceAdd,Int.reduceNeg,Nat.reduceMul,S91,N91,R91,T91,AV.boxable,hk,u1]
 refine⟨by omega,fun j hj=>?_⟩
 rw[if_neg (by omega)]
def idxF (s:List UInt8):List Nd→Nat→Int
 | [],_ => -1
 | y::l,c=>if(y.name==s)=true then c else idxF s l (c+1)
theorem idxF_any (s:List UInt8):∀(l:List Nd) (c:Nat),decide ((0:Int)≤idxF s l c)=l.any fun y=>y.name==s
 | [],c=>rfl
 | y::l,c=>by
  by_cases h:(y.name==s)=true
  ·have e:idxF s (y::l) c=c:=by simp only[idxF,if_pos h]
   rw[e,List.any_cons,h];simp
  ·have e:idxF s (y::l) c=idxF s l (c+1):=by simp only[idxF,if_neg h]
   rw[e,List.any_cons,idxF_any s l (c+1),Bool.not_eq_true _ |>.mp h];rfl
def IxAt (s:List UInt8) (m:List Nd) (H:AHeap) (x:Nat × AHeap):Prop:=x.1≤m.length∧idxF s (m.drop x.1) x.1=idxF s m 0∧Keeps H x.2
set_option maxHeartbeats 4000000 in
set_option maxRecDepth 100000 in
theorem sl_IndexFunc_ok (G:Nat→Option (List AV)) {H:AHeap} {k:Nat} {x:Nd} {m:List Nd} {cs:List AV} (hcs:∀(i:Nat) (h:i<m.length),(cs.drop (i*4)).take 4=ndH m[i]) (hlen:m.length*4≤cs.length) (hm:m.length≤1000000000)
  (hk:H.get k=some (.cells 36 (ndH x))) (hkn:k<H.next) :
  ACalls Tryz.prog G 129 [.lst m.length cs,.func 91 [.ptr k 0]] H fun r H'=>r = .ret (.int .i64 (idxF x.name m 0))∧Keeps H H':=by
 refine ACalls.of Tryz.func129 S129_eq R129 N129 rfl rfl ?_
 simp (maxSteps:=400000) only[wF,storeA,reduceCtorEq,Nat.reduceAdd,Nat.reduceSub,Nat.reduceEqDiff,Nat.reduceLeDiff,Int.reduceToNat,Int.reduceLE,Int.reduceLT,Int.reduceAdd,Int.reduceNeg,Nat.reduceMul,S129,N129,R129,T129]
 refine ATrS.loopK (κ:=Nat × AHeap) (fun c=>[.lst m.length cs,.func 91 [.ptr k 0],.und,.und,.und,.und,.und,.int .i64 m.length,.int .i64 c.1]++List.replicate 10 .und) (fun c=>c.2)
  (IxAt x.name m H) (fun c=>m.length-c.1) ⟨(0,H),⟨Nat.zero_le _,rfl,Keeps.refl H⟩,by simp[Fg],HW.refl _⟩ ?_
 rintro⟨c,J⟩ ⟨hc,hi,hJ⟩
 simp only at hc hi hJ
 by_cases hlt:c<m.length
 ·have d1:decide ((c:Int)<(m.length:Int))=true:=by simp;omega
  have q1:((c:Int)<(m.length:Int))=True:=by simp;omega
  have hat:=hcs c hlt
  have hle:(c*4+4≤cs.length)=True:=by simp;omega
  have ew:IntKind.i64.wrap ((c:Int)+1)=((c+1:Nat):Int):=by rw[wrap64]<;>omega
  rw[List.drop_eq_getElem_cons hlt]at hi
  simp only[idxF]at hi
  generalize m[c]=y at hat hi
  have hkJ:J.get k=some (.cells 36 (ndH x)):=by rw[hJ.2];exact hk
  simp (maxSteps:=400000) only[wF,storeA,reduceCtorEq,Nat.reduceAdd,Nat.reduceSub,Nat.reduceEqDiff,Nat.reduceLeDiff,Int.reduceToNat,Int.reduceLE,Int.reduceLT,Int.reduceAdd,Int.reduceNeg,Nat.reduceMul,T129,d1,q1,indexAddrA,hat,hle]
  refine AInv.retK B91 (t_placed1_ok G y hkJ (by have:=hJ.1;omega)) ?_ (fun v J2 hq=>by cases hq.1)
  rintro v J2 ⟨hv,h2⟩
  cases hv
  cases hb:(y.name==x.name)with
  | true=>
   rw[hb,if_pos rfl]at hi
   simp (maxSteps:=400000) only[wF,storeA,reduceCtorEq,Nat.reduceAdd,Nat.reduceSub,Nat.reduceEqDiff,Nat.reduceLeDiff,Int.reduceToNat,Int.reduceLE,Int.reduceLT,Int.reduceAdd,Int.reduceNeg,Nat.reduceMul,]
   exact⟨by rw[hi],hJ.trans h2⟩
  | false=>
   rw[hb,if_neg (by simp)]at hi
   simp (maxSteps:=400000) only[wF,storeA,reduceCtorEq,Nat.reduceAdd,Nat.reduceSub,Nat.reduceEqDiff,Nat.reduceLeDiff,Int.reduceToNat,Int.reduceLE,Int.reduceLT,Int.reduceAdd,Int.reduceNeg,Nat.reduceMul,ew]
   exact⟨(c+1,J2),⟨hlt,hi,hJ.trans h2⟩,by simp only;omega,by simp[Fg],HW.refl _⟩
 ·have d1:decide ((c:Int)<(m.length:Int))=false:=by simp;omega
  have hce:c=m.length:=by omega
  subst hce
  rw[List.drop_length]at hi
  simp only[idxF]at hi
  simp (maxSteps:=400000) only[wF,storeA,reduceCtorEq,Nat.reduceAdd,Nat.reduceSub,Nat.reduceEqDiff,Nat.reduceLeDiff,Int.reduceToNat,Int.reduceLE,Int.reduceLT,Int.reduceAdd,Int.reduceNeg,Nat.reduceMul,d1]
  exact⟨by rw[←hi],hJ⟩
theorem sl_ContainsFunc_ok (G:Nat→Option (List AV)) {H:AHeap} {k:Nat} {x:Nd} {m:List Nd} {cs:List AV} (hcs:∀(i:Nat) (h:i<m.length),(cs.drop (i*4)).take 4=ndH m[i]) (hlen:m.length*4≤cs.length) (hm:m.length≤1000000000)
  (hk:H.get k=some (.cells 36 (ndH x))) (hkn:k<H.next) :
  ACalls Tryz.prog G 90 [.lst m.length cs,.func 91 [.ptr k 0]] H fun r H'=>r = .ret (.bool (m.any fun y=>y.name==x.name))∧Keeps H H':=by
 refine ACalls.of Tryz.func90 S90_eq R90 N90 rfl rfl ?_
 simp (maxSteps:=400000) only[wF,storeA,reduceCtorEq,Nat.reduceAdd,Nat.reduceSub,Nat.reduceEqDiff,Nat.reduceLeDiff,Int.reduceToNat,Int.reduceLE,Int.reduceLT,Int.reduceAdd,Int.reduceNeg,Nat.reduceMul,S90,N90,R90,T90]
 refine AInv.retK B129 (sl_IndexFunc_ok G hcs hlen hm hk hkn) ?_ (fun v J2 hq=>by cases hq.1)
 rintro v J2 ⟨hv,h2⟩
 cases hv
 simp (maxSteps:=400000) only[wF,storeA,reduceCtorEq,Nat.reduceAdd,Nat.reduceSub,Nat.reduceEqDiff,Nat.reduceLeDiff,Int.reduceToNat,Int.reduceLE,Int.reduceLT,Int.reduceAdd,Int.reduceNeg,Nat.reduceMul,idxF_any]
 first | exact⟨rfl,h2⟩ | exact h2
def placedN (l:List Nd) (i before:Nat):Bool:=
 if(l.getD (l.getD i nd0).up.toNat nd0).kind≠1∧((l.getD (l.getD i nd0).up.toNat nd0).kind≠0∨(l.getD i nd0).kind=2)then false
 else if before=0 then true
 else if(l.getD i nd0).kind=2 then((l.getD before nd0).kind==2) && !(((l.take i).drop ((l.getD i nd0).up.toNat+1)).any fun y=>y.name==(l.getD i nd0).name)
 else((l.getD i nd0).kind != 3)||((l.getD before nd0).kind != 3)
theorem ndsH_take:∀(l:List Nd) (i:Nat),ndsH (l.take i)=(ndsH l).take (i*4)
 | [],i=>by simp[ndsH]
 | a::l,0=>by simp[ndsH]
 | a::l,i+1=>by
  have e:(i+1)*4=i*4+4:=by omega
  have:=ndsH_take l i
  simp only[ndsH,List.take_succ_cons,List.flatMap_cons,ndH,e,List.cons_append,List.nil_append]at this ⊢
  rw[this]
theorem ndsH_drop:∀(l:List Nd) (i:Nat),ndsH (l.drop i)=(ndsH l).drop (i*4)
 | [],i=>by simp[ndsH]
 | a::l,0=>by simp[ndsH]
 | a::l,i+1=>by
  have e:(i+1)*4=i*4+4:=by omega
  have:=ndsH_drop l i
  simp only[ndsH,List.drop_succ_cons,List.flatMap_cons,ndH,e,List.cons_append,List.nil_append]at this ⊢
  exact this
theorem nd_getD {l:List Nd} {i:Nat} (h:i<l.length):l.getD i nd0=l[i]:=by rw[List.getD_eq_getElem?_getD,List.getElem?_eq_getElem h];rfl
set_option maxHeartbeats 8000000 in
set_option maxRecDepth 100000 in
theorem t_placed_ok (G:Nat→Option (List AV)) {l:List Nd} {i before:Nat} (hi:i<l.length) (hl:l.length≤65536) (hu:0≤(l.getD i nd0).up∧(l.getD i nd0).up<i) (hb:before<l.length) :
  PureCall Tryz.prog G 57 [.agg [.lst l.length (ndsH l)],.int .i64 i,.int .i64 before] (.bool (placedN l i before)):=by
 intro H
 refine ACalls.keep (ACalls.of Tryz.func57 S57_eq R57 N57 rfl rfl ?_)
 have hxe:=nd_getD hi
 have hbe:=nd_getD hb
 generalize hX:l.getD i nd0=x at hu hxe
 obtain⟨u,hue⟩:∃u:Nat,x.up=u:=⟨x.up.toNat,by omega⟩
 have hui:u<i:=by omega
 have hul:u<l.length:=by omega
 have hpe:=nd_getD hul
 have gi:=ndsH_at l i hi
 have g3:=ndsH_get l i 3 hi (by omega)
 have gu0:=ndsH_get l u 0 hul (by omega)
 have gb0:=ndsH_get l before 0 hb (by omega)
 have hut:x.up.toNat=u:=by omega
 unfold placedN
 rw[hX,hut]
 generalize l.getD u nd0=p at hpe
 generalize l.getD before nd0=q at hbe
 rw[←hxe]at gi g3
 rw[←hpe]at gu0
 rw[←hbe]at gb0
 have q0:((i:Int)<(l.length:Int))=True:=by simp;omega
 have q1:((u:Int)<(l.length:Int))=True:=by simp;omega
 have q2:((before:Int)<(l.length:Int))=True:=by simp;omega
 have hle:(i*4+4≤(ndsH l).length)=True:=by rw[ndsH_len];simp;omega
 simp only[ndH,hue,List.getElem?_cons_zero,List.getElem?_cons_succ,Nat.add_zero]at gi g3 gu0 gb0
 have u1:(H.next=H.next+1)=False:=by simp
 have u2:(H.next+1=H.next)=False:=by simp
 simp (maxSteps:=400000) only[wF,storeA,reduceCtorEq,Nat.reduceAdd,Nat.reduceSub,Nat.reduceEqDiff,Nat.reduceLeDiff,Int.reduceToNat,Int.reduceLE,Int.reduceLT,Int.reduceAdd,Int.reduceNeg,Nat.reduceMul,S57,N57,R57,T57,AV.boxable]
 refine drawW_fixed mixedOrders L57_1_eq P57_1_eq ?_
 simp (maxSteps:=400000) only[wF,storeA,reduceCtorEq,Nat.reduceAdd,Nat.reduceSub,Nat.reduceEqDiff,Nat.reduceLeDiff,Int.reduceToNat,Int.reduceLE,Int.reduceLT,Int.reduceAdd,Int.reduceNeg,Nat.reduceMul,L57_1,T57,indexAddrA,u1,u2,q0,q1,gi,g3,gu0,hle,AV.boxable]
 refine⟨by simp,?_⟩
 generalize hX0:AHeap.set _ (H.next+1) _=X
 have x0:X.get H.next=some (.cells 25 [.lst l.length (ndsH l)]):=by rw[←hX0,AHeap.get_set_ne _ _ (by omega),AHeap.get_allocAt_ne _ _ (by omega),AHeap.get_allocAt_same]
 have x1:X.get (H.next+1)=some (.cells 36 [.int .i64 x.kind,.str x.name,.str x.text,.int .i64 u]):=by rw[←hX0,AHeap.get_set_same]
 have xn:X.next=H.next+2:=by rw[←hX0];simp only[AHeap.next_set,AHeap.next_allocAt];omega
 have xo:∀j,j<H.next→X.get j=H.get j:=fun j hj=>by rw[←hX0,AHeap.get_set_ne _ _ (by omega),AHeap.get_allocAt_ne _ _ (by omega),AHeap.get_allocAt_ne _ _ (by omega)]
 clear hX0
 have fin:H.next≤X.next∧∀j,j<H.next→X.get j=H.get j:=⟨by omega,xo⟩
 have cast0:∀(n k:Nat),((n:Int)==(k:Int))=decide (n=k):=fun n k=>by
  by_cases h:n=k
  ·subst h;simp
  ·rw[beq_false_of_ne (by omega),decide_eq_false h]
 have castN:∀(n k:Nat),((n:Int) != (k:Int)) = !decide (n=k):=fun n k=>by rw[bne,cast0]
 have e2:=cast0 x.kind 2
 have n1:=castN p.kind 1
 have n0:=castN p.kind 0
 have b0:=cast0 before 0
 have k3:=castN x.kind 3
 have r2:=cast0 q.kind 2
 have r3:=castN q.kind 3
 simp only[Int.cast_ofNat_Int,Int.natCast_zero]at e2 n1 n0 b0 k3 r2 r3
 have ew:IntKind.i64.wrap ((u:Int)+1)=((u+1:Nat):Int):=by rw[wrap64]<;>omega
 by_cases hbad:p.kind≠1∧(p.kind≠0∨x.kind=2)
 ·rw[if_pos hbad]
  rw[decide_eq_false hbad.1]at n1
  by_cases h0:p.kind=0
  ·have h2:x.kind=2:=hbad.2.resolve_left (fun h=>h h0)
   rw[decide_eq_true h0]at n0
   rw[decide_eq_true h2]at e2
   simp (maxSteps:=400000) only[wF,storeA,reduceCtorEq,Nat.reduceAdd,Nat.reduceSub,Nat.reduceEqDiff,Nat.reduceLeDiff,Int.reduceToNat,Int.reduceLE,Int.reduceLT,Int.reduceAdd,Int.reduceNeg,Nat.reduceMul,x1,e2,n1,n0,Bool.not_true,Bool.not_false,T57]
   first | exact⟨rfl,fin⟩ | exact fin
  ·rw[decide_eq_false h0]at n0
   simp (maxSteps:=400000) only[wF,storeA,reduceCtorEq,Nat.reduceAdd,Nat.reduceSub,Nat.reduceEqDiff,Nat.reduceLeDiff,Int.reduceToNat,Int.reduceLE,Int.reduceLT,Int.reduceAdd,Int.reduceNeg,Nat.reduceMul,x1,e2,n1,n0,Bool.not_true,Bool.not_false,T57]
   first | exact⟨rfl,fin⟩ | exact fin
 rw[if_neg hbad]
 have hgood:p.kind=1∨p.kind=0∧x.kind≠2:=by
  by_cases h:p.kind=1
  ·exact .inl h
  ·by_cases h':p.kind=0
   ·exact .inr ⟨h',fun h2=>hbad ⟨h,.inr h2⟩⟩
   ·exact absurd ⟨h,.inl h'⟩ hbad
 by_cases hb0:before=0
 ·rw[if_pos hb0]
  rw[decide_eq_true hb0]at b0
  rcases hgood with hp | ⟨hp,hx2⟩
  ·rw[decide_eq_true hp]at n1
   simp (maxSteps:=400000) only[wF,storeA,reduceCtorEq,Nat.reduceAdd,Nat.reduceSub,Nat.reduceEqDiff,Nat.reduceLeDiff,Int.reduceToNat,Int.reduceLE,Int.reduceLT,Int.reduceAdd,Int.reduceNeg,Nat.reduceMul,x1,e2,n1,b0,Bool.not_true,Bool.not_false,T57]
   first | exact⟨rfl,fin⟩ | exact fin
  ·rw[decide_eq_false (by omega:¬p.kind=1)]at n1
   rw[decide_eq_true hp]at n0
   rw[decide_eq_false hx2]at e2
   simp (maxSteps:=400000) only[wF,storeA,reduceCtorEq,Nat.reduceAdd,Nat.reduceSub,Nat.reduceEqDiff,Nat.reduceLeDiff,Int.reduceToNat,Int.reduceLE,Int.reduceLT,Int.reduceAdd,Int.reduceNeg,Nat.reduceMul,x1,e2,n1,n0,b0,Bool.not_true,Bool.not_false,T57]
   first | exact⟨rfl,fin⟩ | exact fin
 rw[if_neg hb0]
 rw[decide_eq_false hb0]at b0
 by_cases hx2:x.kind=2
 ·rw[if_pos hx2]
  rw[decide_eq_true hx2]at e2
  have hp:p.kind=1:=hgood.resolve_right (fun h=>h.2 hx2)
  rw[decide_eq_true hp]at n1
  by_cases hq:q.kind=2
  ·rw[decide_eq_true hq]at r2
   have s1:((0:Int)≤(i:Int))=True:=by simp
   have s2:((i:Int)≤(l.length:Int))=True:=by simp;omega
   have s3:((0:Int)≤((u+1:Nat):Int))=True:=by simp;omega
   have s4:(((u+1:Nat):Int)≤(i:Int))=True:=by simp;omega
   simp (maxSteps:=400000) only[wF,storeA,reduceCtorEq,Nat.reduceAdd,Nat.reduceSub,Nat.reduceEqDiff,Nat.reduceLeDiff,Int.reduceToNat,Int.reduceLE,Int.reduceLT,Int.reduceAdd,Int.reduceNeg,Nat.reduceMul,x1,x0,e2,n1,b0,r2,q2,gb0,indexAddrA,ew,sliceA,boundA,s1,s2,s3,s4,Int.toNat_natCast,Bool.not_true,Bool.not_false,T57]
   refine⟨rfl,?_⟩
   have hml:((l.take i).drop (u+1)).length=i-(u+1):=by simp only[List.length_drop,List.length_take];omega
   rw[←ndsH_take,←ndsH_drop,←hml]
   have hx1:X.get (H.next+1)=some (.cells 36 (ndH x)):=by rw[x1];simp only[ndH,hue]
   refine AInv.retK B90 (sl_ContainsFunc_ok G (x:=x) (m:=(l.take i).drop (u+1)) (fun j hj=>ndsH_at _ j hj) (by rw[ndsH_len];exact Nat.le_refl _) (by omega) hx1 (by omega)) ?_ (fun v J2 hq=>by cases hq.1)
   rintro v J2 ⟨hv,h2⟩
   cases hv
   simp (maxSteps:=400000) only[wF,storeA,reduceCtorEq,Nat.reduceAdd,Nat.reduceSub,Nat.reduceEqDiff,Nat.reduceLeDiff,Int.reduceToNat,Int.reduceLE,Int.reduceLT,Int.reduceAdd,Int.reduceNeg,Nat.reduceMul,T57]
   have fin2:H.next≤J2.next∧∀j,j<H.next→J2.get j=H.get j:=⟨by have:=h2.1;omega,fun j hj=>by rw[h2.2];exact xo j hj⟩
   first | exact⟨by rw[hq];rfl,fin2⟩ | exact⟨rfl,fin2⟩ | exact fin2
  ·rw[decide_eq_false hq]at r2
   simp (maxSteps:=400000) only[wF,storeA,reduceCtorEq,Nat.reduceAdd,Nat.reduceSub,Nat.reduceEqDiff,Nat.reduceLeDiff,Int.reduceToNat,Int.reduceLE,Int.reduceLT,Int.reduceAdd,Int.reduceNeg,Nat.reduceMul,x1,x0,e2,n1,b0,r2,q2,gb0,indexAddrA,Bool.not_true,Bool.not_false,T57]
   first | exact⟨by rw[beq_false_of_ne hq];rfl,fin⟩ | exact⟨by rw[beq_false_of_ne hq,Bool.false_and],fin⟩
 ·rw[if_neg hx2]
  rw[decide_eq_false hx2]at e2
  have rw3:(x.kind != 3||q.kind != 3)=(!decide (x.kind=3) || !decide (q.kind=3)):=rfl
  rw[rw3]
  by_cases hk3:x.kind=3
  ·rw[decide_eq_true hk3]at k3 ⊢
   rcases hgood with hp | ⟨hp,_⟩
   ·rw[decide_eq_true hp]at n1
    simp (maxSteps:=400000) only[wF,storeA,reduceCtorEq,Nat.reduceAdd,Nat.reduceSub,Nat.reduceEqDiff,Nat.reduceLeDiff,Int.reduceToNat,Int.reduceLE,Int.reduceLT,Int.reduceAdd,Int.reduceNeg,Nat.reduceMul,x1,x0,e2,n1,b0,k3,r3,q2,gb0,indexAddrA,Bool.not_true,Bool.not_false,T57]
    first | exact⟨rfl,fin⟩ | exact⟨by simp,fin⟩
   ·rw[decide_eq_false (by omega:¬p.kind=1)]at n1
    rw[decide_eq_true hp]at n0
    simp (maxSteps:=400000) only[wF,storeA,reduceCtorEq,Nat.reduceAdd,Nat.reduceSub,Nat.reduceEqDiff,Nat.reduceLeDiff,Int.reduceToNat,Int.reduceLE,Int.reduceLT,Int.reduceAdd,Int.reduceNeg,Nat.reduceMul,x1,x0,e2,n1,n0,b0,k3,r3,q2,gb0,indexAddrA,Bool.not_true,Bool.not_false,T57]
    first | exact⟨rfl,fin⟩ | exact⟨by simp,fin⟩
  ·rw[decide_eq_false hk3]at k3 ⊢
   rcases hgood with hp | ⟨hp,_⟩
   ·rw[decide_eq_true hp]at n1
    simp (maxSteps:=400000) only[wF,storeA,reduceCtorEq,Nat.reduceAdd,Nat.reduceSub,Nat.reduceEqDiff,Nat.reduceLeDiff,Int.reduceToNat,Int.reduceLE,Int.reduceLT,Int.reduceAdd,Int.reduceNeg,Nat.reduceMul,x1,x0,e2,n1,b0,k3,r3,q2,gb0,indexAddrA,Bool.not_true,Bool.not_false,T57]
    first | exact⟨rfl,fin⟩ | exact fin | exact⟨by simp,fin⟩
   ·rw[decide_eq_false (by omega:¬p.kind=1)]at n1
    rw[decide_eq_true hp]at n0
    simp (maxSteps:=400000) only[wF,storeA,reduceCtorEq,Nat.reduceAdd,Nat.reduceSub,Nat.reduceEqDiff,Nat.reduceLeDiff,Int.reduceToNat,Int.reduceLE,Int.reduceLT,Int.reduceAdd,Int.reduceNeg,Nat.reduceMul,x1,x0,e2,n1,n0,b0,k3,r3,q2,gb0,indexAddrA,Bool.not_true,Bool.not_false,T57]
    first | exact⟨rfl,fin⟩ | exact fin | exact⟨by simp,fin⟩
end Go.Ab
