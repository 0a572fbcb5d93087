/- tree.Build, walked. -/
import Derived.Test.YtojncnpmlhhccaaGreatDoorHT4
set_option linter.all false
namespace Go.Ab
open Go Go.Lib Go.Proofs
theorem eventT_err {t:TSt} {x:Ev} {e:Nat} (h:eventT t x = .error e):1≤e:=by
 unfold eventT startT endT textT otherT at h
 split at h
 ·split at h
  ·cases h;omega
  split at h
  ·cases h;omega
  split at h
  ·cases h;omega
  split at h
  ·rename_i h1;cases h;exact TSt.add_err h1
  ·exact attrsT_err _ h
 ·split at h
  ·cases h;omega
  split at h
  ·cases h;omega
  ·cases h
 ·split at h
  ·cases h;omega
  split at h
  ·cases h
  split at h
  ·split at h
   ·cases h;omega
   ·cases h
  ·exact TSt.add_err h
 ·split at h
  ·cases h;omega
  ·exact TSt.add_err h
 ·split at h
  ·cases h;omega
  ·exact TSt.add_err h
 ·cases h;omega
def TbAt (l:List Ev) (H:AHeap) (y:Nat × TSt × Nat × AHeap):Prop:=
 y.1≤l.length∧foldT (l.drop y.1) y.2.1=foldT l t0T∧TOk y.2.1∧TxOk y.2.1∧(1-(y.1:Int)≤y.2.1.deep∧y.2.1.deep≤1+(y.1:Int))∧BAt y.2.2.2 (H.next+2) y.2.2.1 y.2.1∧H.next<y.2.2.1∧y.2.2.2.get H.next=some (.cells 25 [.nils])∧∀j,j<H.next→y.2.2.2.get j=H.get j
set_option maxHeartbeats 8000000 in
set_option maxRecDepth 100000 in
theorem t_build_ok {G:Nat→Option (List AV)} (E:Env G) (X:EnvH G) (T:EnvT G):BuildOk G:=by
 intro l H hl hx
 refine ACalls.ret (ACalls.of Tryz.func17 S17_eq R17 N17 rfl rfl ?_)
 simp (maxSteps:=400000) only[wF,storeA,reduceCtorEq,Nat.reduceAdd,Nat.reduceSub,Nat.reduceEqDiff,Nat.reduceLeDiff,Int.reduceToNat,Int.reduceLE,Int.reduceLT,Int.reduceAdd,Int.reduceNeg,Nat.reduceMul,S17,N17,R17,T17,AV.boxable,buildA,sliceLit,fillA,zerosA]
 refine⟨by omega,?_⟩
 generalize hX0:AHeap.allocAt _ (H.next+1+1) _=X0
 have x0:X0.get H.next=some (.cells 25 [.nils]):=by rw[←hX0,AHeap.get_allocAt_ne _ _ (by omega),AHeap.get_allocAt_ne _ _ (by omega),AHeap.get_allocAt_same]
 have x1:X0.get (H.next+1)=some (.row 36 4 (ndsH t0T.l)):=by rw[←hX0,AHeap.get_allocAt_ne _ _ (by omega),AHeap.get_allocAt_same];rfl
 have x2:X0.get (H.next+2)=some (.cells 85 [.slc (H.next+1) t0T.l.length,.int .i64 t0T.op,.int .i64 t0T.deep,.int .i64 t0T.bytes]):=by rw[←hX0,AHeap.get_allocAt_same];rfl
 have xn:X0.next=H.next+3:=by rw[←hX0];simp only[AHeap.next_allocAt];omega
 have xo:∀j,j<H.next→X0.get j=H.get j:=fun j hj=>by rw[←hX0,AHeap.get_allocAt_ne _ _ (by omega),AHeap.get_allocAt_ne _ _ (by omega),AHeap.get_allocAt_ne _ _ (by omega)]
 clear hX0
 refine ATrS.loopK (κ:=Nat × TSt × Nat × AHeap) (fun y=>[.und,.und,.ptr H.next 0,.und,.ptr (H.next+2) 0]++List.replicate 7 .und++[.lst l.length (evsH l),.int .i64 l.length,.int .i64 y.1]++List.replicate 50 .und) (fun y=>y.2.2.2)
  (TbAt l H) (fun y=>l.length-y.1) ⟨(0,t0T,H.next+1,X0),⟨Nat.zero_le _,rfl,TOk.init,TxOk.init,⟨show(1:Int)-((0:Nat):Int)≤1 by decide,show(1:Int)≤1+((0:Nat):Int) by decide⟩,⟨x2,x1,by simp only;omega,by simp only;omega,by simp only;omega⟩,by simp only;omega,x0,xo⟩,by simp[Fg],HW.refl _⟩ ?_
 clear x0 x1 x2 xo
 rintro⟨i,t,kl,J⟩ ⟨hi,hfo,hok,htx,hdp,hb,hkl,gc,fJ⟩
 simp only at hi hfo hok htx hdp hb hkl gc fJ
 have hb0:=hb
 obtain⟨a1,a2,a3,a4,a5⟩:=hb
 by_cases hlt:i<l.length
 ·have d0:decide ((i:Int)<(l.length:Int))=true:=by simp;omega
  have q0:((i:Int)<(l.length:Int))=True:=by simp;omega
  have hat:=evsH_at l i hlt
  have hle:(i*6+6≤(evsH l).length)=True:=by rw[evsH_len];simp;omega
  have hxb:=hx _ (List.getElem_mem hlt)
  have hdr:l.drop i=l[i]::l.drop (i+1):=List.drop_eq_getElem_cons hlt
  rw[hdr]at hfo
  generalize l[i]=x at hat hxb hfo
  simp only[foldT]at hfo
  simp only[evH]at hat
  have ew:IntKind.i64.wrap ((i:Int)+1)=((i+1:Nat):Int):=by rw[wrap64]<;>omega
  have step:∀{J1:AHeap},J1.get J.next=some (.cells 88 [.int .i64 x.kind,.str x.name,.str x.text,atH x.attrs,.int .i64 x.line,.int .i64 x.col])→J1.next=J.next+1→(∀j,j<J.next→J1.get j=J.get j)→BAt J1 (H.next+2) kl t∧J1.get H.next=some (.cells 25 [.nils]):=fun h1 h2 h3=>
   ⟨(hb0.keep ⟨by omega,h3⟩).1,(h3 _ (by omega)).trans gc⟩
  have hone:(atH x.attrs).one=true:=by unfold atH;split<;>rfl
  have hdb : -100000000≤t.deep∧t.deep≤100000000:=by omega
  have hl1:=hok.len
  have hl2:=hok.bytes
  have hn1:=hxb.1
  have hn2:=hxb.2.1
  rcases(show x.kind=0∨x.kind=1∨x.kind=2∨x.kind=3∨x.kind=4 by have:=hxb.2.2.2.2;omega)with h | h | h | h | h
  case' pos.inl=>
   have z0:((x.kind:Int)==0)=true:=by rw[h];rfl
   simp (maxSteps:=400000) only[wF,storeA,reduceCtorEq,Nat.reduceAdd,Nat.reduceSub,Nat.reduceEqDiff,Nat.reduceLeDiff,Int.reduceToNat,Int.reduceLE,Int.reduceLT,Int.reduceAdd,Int.reduceNeg,Nat.reduceMul,T17,d0,q0,indexAddrA,hat,hle,hone,z0]
  case' pos.inr.inl=>
   have z0:((x.kind:Int)==0)=false:=by rw[h];rfl
   have z1:((x.kind:Int)==1)=true:=by rw[h];rfl
   simp (maxSteps:=400000) only[wF,storeA,reduceCtorEq,Nat.reduceAdd,Nat.reduceSub,Nat.reduceEqDiff,Nat.reduceLeDiff,Int.reduceToNat,Int.reduceLE,Int.reduceLT,Int.reduceAdd,Int.reduceNeg,Nat.reduceMul,T17,d0,q0,indexAddrA,hat,hle,hone,z0,z1]
  case' pos.inr.inr.inl=>
   have z0:((x.kind:Int)==0)=false:=by rw[h];rfl
   have z1:((x.kind:Int)==1)=false:=by rw[h];rfl
   have z2:((x.kind:Int)==2)=true:=by rw[h];rfl
   simp (maxSteps:=400000) only[wF,storeA,reduceCtorEq,Nat.reduceAdd,Nat.reduceSub,Nat.reduceEqDiff,Nat.reduceLeDiff,Int.reduceToNat,Int.reduceLE,Int.reduceLT,Int.reduceAdd,Int.reduceNeg,Nat.reduceMul,T17,d0,q0,indexAddrA,hat,hle,hone,z0,z1,z2]
  case' pos.inr.inr.inr.inl=>
   have z0:((x.kind:Int)==0)=false:=by rw[h];rfl
   have z1:((x.kind:Int)==1)=false:=by rw[h];rfl
   have z2:((x.kind:Int)==2)=false:=by rw[h];rfl
   have z3:((x.kind:Int)==3)=true:=by rw[h];rfl
   simp (maxSteps:=400000) only[wF,storeA,reduceCtorEq,Nat.reduceAdd,Nat.reduceSub,Nat.reduceEqDiff,Nat.reduceLeDiff,Int.reduceToNat,Int.reduceLE,Int.reduceLT,Int.reduceAdd,Int.reduceNeg,Nat.reduceMul,T17,d0,q0,indexAddrA,hat,hle,hone,z0,z1,z2,z3]
  case' pos.inr.inr.inr.inr=>
   have z0:((x.kind:Int)==0)=false:=by rw[h];rfl
   have z1:((x.kind:Int)==1)=false:=by rw[h];rfl
   have z2:((x.kind:Int)==2)=false:=by rw[h];rfl
   have z3:((x.kind:Int)==3)=false:=by rw[h];rfl
   have z4:((x.kind:Int)==4)=true:=by rw[h];rfl
   simp (maxSteps:=400000) only[wF,storeA,reduceCtorEq,Nat.reduceAdd,Nat.reduceSub,Nat.reduceEqDiff,Nat.reduceLeDiff,Int.reduceToNat,Int.reduceLE,Int.reduceLT,Int.reduceAdd,Int.reduceNeg,Nat.reduceMul,T17,d0,q0,indexAddrA,hat,hle,hone,z0,z1,z2,z3,z4]
  all_goals
   generalize hJ1:AHeap.set (AHeap.allocAt J J.next _) J.next _=J1
   have j0:J1.get J.next=some (.cells 88 [.int .i64 x.kind,.str x.name,.str x.text,atH x.attrs,.int .i64 x.line,.int .i64 x.col]):=by rw[←hJ1,AHeap.get_set_same]
   have jn:J1.next=J.next+1:=by rw[←hJ1];simp only[AHeap.next_set,AHeap.next_allocAt];omega
   have jo:∀j,j<J.next→J1.get j=J.get j:=fun j hj=>by rw[←hJ1,AHeap.get_set_ne _ _ (by omega),AHeap.get_allocAt_ne _ _ (by omega)]
   clear hJ1
   obtain⟨b1,c1⟩:=step j0 jn jo
  case' pos.inl=>refine AInv.call B43 (t_start_ok E b1 hok hxb hdb) fun r J2 h2=>?_
  case' pos.inl=>replace h2:BPost J1 (H.next+2) kl (eventT t x) r J2:=by unfold eventT;rw[h];exact h2
  case' pos.inr.inl=>refine AInv.call B44 (t_end_ok E b1 hok hxb hdb) fun r J2 h2=>?_
  case' pos.inr.inl=>replace h2:BPost J1 (H.next+2) kl (eventT t x) r J2:=by unfold eventT;rw[h];exact h2
  case' pos.inr.inr.inl=>refine AInv.call B45 (t_text_ok E b1 hok htx hxb) fun r J2 h2=>?_
  case' pos.inr.inr.inl=>replace h2:BPost J1 (H.next+2) kl (eventT t x) r J2:=by unfold eventT;rw[h];exact h2
  case' pos.inr.inr.inr.inl=>refine AInv.call B46 (t_other4_ok E X T b1 hl1 hl2 (by omega)) fun r J2 h2=>?_
  case' pos.inr.inr.inr.inl=>replace h2:BPost J1 (H.next+2) kl (eventT t x) r J2:=by unfold eventT;rw[h];exact h2
  case' pos.inr.inr.inr.inr=>refine AInv.call B46 (t_other5_ok E X T b1 hl1 hl2 (by omega) (by omega)) fun r J2 h2=>?_
  case' pos.inr.inr.inr.inr=>replace h2:BPost J1 (H.next+2) kl (eventT t x) r J2:=by unfold eventT;rw[h];exact h2
  all_goals
   cases ho:eventT t x with
   | error e=>
    rw[ho]at h2 hfo
    obtain⟨rfl,n2,f2⟩:=h2
    have he:((e:Int) != 0)=true:=by have:=eventT_err ho;simp;omega
    have hR:buildS l = .error e:=by unfold buildS;rw[←hfo]
    have c2:=(f2 _ (by omega) (by omega) (by omega)).trans c1
    simp (maxSteps:=400000) only[wF,storeA,reduceCtorEq,Nat.reduceAdd,Nat.reduceSub,Nat.reduceEqDiff,Nat.reduceLeDiff,Int.reduceToNat,Int.reduceLE,Int.reduceLT,Int.reduceAdd,Int.reduceNeg,Nat.reduceMul,T17,he,c2,buildA,fillA,AV.boxable]
    refine⟨_,_,Weak.treeNil G e _,by rw[hR],by simp only[AHeap.next_set];omega,fun j hj=>?_⟩
    rw[AHeap.get_set_ne _ _ (by omega),f2 j (by omega) (by omega) (by omega),jo j (by omega)]
    exact fJ j hj
   | ok t'=>
    rw[ho]at h2 hfo
    obtain⟨rfl,kl',b3,k3⟩:=h2
    obtain⟨n2,o2,f2⟩:=k3
    have he:(((0:Nat):Int) != 0)=false:=rfl
    have c2:=(f2 _ (by omega) (by omega) (by omega)).trans c1
    obtain⟨hok',hd1,hd2⟩:=hok.event ho
    simp (maxSteps:=400000) only[wF,storeA,reduceCtorEq,Nat.reduceAdd,Nat.reduceSub,Nat.reduceEqDiff,Nat.reduceLeDiff,Int.reduceToNat,Int.reduceLE,Int.reduceLT,Int.reduceAdd,Int.reduceNeg,Nat.reduceMul,T17,he,ew]
    refine⟨(i+1,t',kl',J2),⟨by simp only;omega,hfo,hok',htx.event hok ho,⟨by simp only;omega,by simp only;omega⟩,b3,by simp only;omega,c2,fun j hj=>?_⟩,by simp only;omega,by simp[Fg],HW.refl _⟩
    show J2.get j=_
    rw[f2 j (by omega) (by omega) (by omega),jo j (by omega)]
    exact fJ j hj
 have hil:i=l.length:=by omega
 subst hil
 have d0:decide ((l.length:Int)<(l.length:Int))=false:=by simp
 rw[List.drop_length]at hfo
 simp only[foldT]at hfo
 by_cases ho:t.op=0
 ·have d1:((t.op:Int) != 0)=false:=by simp;omega
  have hR:buildS l = .ok t.l:=by unfold buildS;rw[←hfo];simp only;rw[if_neg (by simp[ho])]
  simp (maxSteps:=400000) only[wF,storeA,reduceCtorEq,Nat.reduceAdd,Nat.reduceSub,Nat.reduceEqDiff,Nat.reduceLeDiff,Int.reduceToNat,Int.reduceLE,Int.reduceLT,Int.reduceAdd,Int.reduceNeg,Nat.reduceMul,T17,d0,a1,d1,gc,buildA,fillA,AV.boxable]
  refine⟨_,_,Weak.h_freezeVal G (j:=kl) (e:=36) (size:=4) (cs:=ndsH t.l) ?_ (by omega) (v':=treeA (.ok t.l)) (.tup' ⟨.agg' ⟨.slc _ _ rfl,trivial⟩,.same _,trivial⟩),by rw[hR],?_,fun j hj=>?_⟩
  ·rw[AHeap.get_set_ne _ _ (by omega)];exact a2
  ·simp only[AHeap.next_del,AHeap.next_set];omega
  ·rw[AHeap.get_del_ne _ (by omega),AHeap.get_set_ne _ _ (by omega)]
   exact fJ j hj
 ·have d1:((t.op:Int) != 0)=true:=by simp;omega
  have hR:buildS l = .error 110:=by unfold buildS;rw[←hfo];simp only;rw[if_pos ho]
  simp (maxSteps:=400000) only[wF,storeA,reduceCtorEq,Nat.reduceAdd,Nat.reduceSub,Nat.reduceEqDiff,Nat.reduceLeDiff,Int.reduceToNat,Int.reduceLE,Int.reduceLT,Int.reduceAdd,Int.reduceNeg,Nat.reduceMul,T17,d0,a1,d1,gc,buildA,fillA,AV.boxable]
  refine⟨_,_,Weak.treeNil G 110 _,by rw[hR],by simp only[AHeap.next_set];omega,fun j hj=>?_⟩
  rw[AHeap.get_set_ne _ _ (by omega)]
  exact fJ j hj
end Go.Ab
