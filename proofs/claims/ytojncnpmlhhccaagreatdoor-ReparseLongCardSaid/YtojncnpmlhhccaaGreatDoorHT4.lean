/- tree's builder: start, walked. -/
import Derived.Test.YtojncnpmlhhccaaGreatDoorHT3
set_option linter.all false
namespace Go.Ab
open Go Go.Lib Go.Proofs
def evL (x:Ev):List AV:=[.int .i64 x.kind,.str x.name,.str x.text,.lst x.attrs.length (attrsH x.attrs),.int .i64 x.line,.int .i64 x.col]
theorem Weak.evL (G:Nat→Option (List AV)) (b:AV) (x:Ev) (H:AHeap):Weak G [b,.agg (evH x)] H [b,.agg (evL x)] H:=by
 unfold evH Go.Ab.evL atH
 by_cases h:x.attrs=[]
 ·rw[if_pos h,h]
  exact Weak.nilLst ⟨.same _,.agg' ⟨.same _,.same _,.same _,.nil _ rfl,.same _,.same _,trivial⟩,trivial⟩
 ·rw[if_neg h]
  exact h_weak_refl G _ H
theorem attrsH_at:∀(l:List (List UInt8 × List UInt8)) (i:Nat) (h:i<l.length),((attrsH l).drop (i*2)).take 2=[.str l[i].1,.str l[i].2]
 | [],i,h=>by simp at h
 | a::l,0,_=>rfl
 | a::l,i+1,h=>by
  have:=attrsH_at l i (by simpa using h)
  have e:(i+1)*2=i*2+1+1:=by omega
  simp only[attrsH,List.flatMap_cons,e,List.cons_append,List.nil_append,List.drop_succ_cons,List.getElem_cons_succ]at this ⊢
  exact this
theorem TSt.add_err {t:TSt} {kind:Nat} {name text:List UInt8} {e:Nat} (h:t.add kind name text = .error e):1≤e:=by
 unfold TSt.add at h
 split at h
 ·cases h;omega
 ·cases h
theorem attrsT_err:∀(l:List (List UInt8 × List UInt8)) {t:TSt} {e:Nat},attrsT l t = .error e→1≤e
 | [],_,_,h=>by cases h
 | a::l,t,e,h=>by
  simp only[attrsT]at h
  split at h
  ·rename_i e' h1
   cases h
   exact TSt.add_err h1
  ·exact attrsT_err l h
def TreAt (H:AHeap) (xid mid:Nat) (x:Ev) (y:Nat × Bool × List (List UInt8 × Nat) × AHeap):Prop:=
 y.1≤x.attrs.length∧((x.attrs.take y.1).all fun a=>allowedS 2 a.1 a.2)=true∧(y.2.1||dupT (x.attrs.take y.1) (x.attrs.drop y.1))=dupT [] x.attrs ∧
 y.2.2.2.get xid=some (.cells 88 [.int .i64 x.kind,.str x.name,.str x.text,.lst x.attrs.length (attrsH x.attrs),.int .i64 x.line,.int .i64 x.col]) ∧
 y.2.2.2.get mid=some (.map (cntE y.2.2.1))∧CntOk y.2.2.1 (x.attrs.take y.1)∧mid<y.2.2.2.next∧∀j,j<H.next→y.2.2.2.get j=H.get j
def Tre2At (H:AHeap) (bid kl:Nat) (l:List (List UInt8 × List UInt8)) (o:Except Nat TSt) (y:Nat × TSt × Nat × AHeap):Prop:=
 y.1≤l.length∧attrsT (l.drop y.1) y.2.1=o∧TOk y.2.1∧BAt y.2.2.2 bid y.2.2.1 y.2.1∧BKeep H bid kl y.2.2.2 y.2.2.1
set_option maxHeartbeats 8000000 in
set_option maxRecDepth 100000 in
theorem t_start_ok {G:Nat→Option (List AV)} (E:Env G) {H:AHeap} {bid kl:Nat} {t:TSt} (hb:BAt H bid kl t) (hok:TOk t) {x:Ev} (hx:EvB 10000000 x) (hd : -100000000≤t.deep∧t.deep≤100000000) :
  ACalls Tryz.prog G 43 [.ptr bid 0,.agg (evH x)] H (BPost H bid kl (startT t x)):=by
 refine ACalls.weak (Weak.evL G _ x H) ?_
 refine ACalls.of Tryz.func43 S43_eq R43 N43 rfl rfl ?_
 have hb0:=hb
 obtain⟨a1,a2,a3,a4,a5⟩:=hb
 have hne:=hok.op
 have hlen:=hok.len
 have hby:=hok.bytes
 have hn:=hx.1
 have hx2:=hx.2.2.1
 simp (maxSteps:=400000) only[wF,storeA,reduceCtorEq,Nat.reduceAdd,Nat.reduceSub,Nat.reduceEqDiff,Nat.reduceLeDiff,Int.reduceToNat,Int.reduceLE,Int.reduceLT,Int.reduceAdd,Int.reduceNeg,Nat.reduceMul,S43,N43,R43,T43,AV.boxable,evL]
 generalize hX0:AHeap.allocAt H H.next _=X
 have x0:X.get H.next=some (.cells 88 [.int .i64 x.kind,.str x.name,.str x.text,.lst x.attrs.length (attrsH x.attrs),.int .i64 x.line,.int .i64 x.col]):=by rw[←hX0,AHeap.get_allocAt_same]
 have xn:X.next=H.next+1:=by rw[←hX0];simp only[AHeap.next_allocAt];omega
 have xo:∀j,j<H.next→X.get j=H.get j:=fun j hj=>by rw[←hX0,AHeap.get_allocAt_ne _ _ (by omega)]
 clear hX0
 refine AInv.pureK B56 (t_allowed1_ok E (by omega) (by simp)) fun H1 h1=>?_
 have p1:=h1.1
 have y0:=(congrFun h1.2 _).trans x0
 have yo:∀j,j<H.next→H1.get j=H.get j:=fun j hj=>(congrFun h1.2 _).trans (xo j hj)
 unfold startT
 cases hA:allowedS 1 x.name []with
 | false=>
  simp (maxSteps:=400000) only[wF,storeA,reduceCtorEq,Nat.reduceAdd,Nat.reduceSub,Nat.reduceEqDiff,Nat.reduceLeDiff,Int.reduceToNat,Int.reduceLE,Int.reduceLT,Int.reduceAdd,Int.reduceNeg,Nat.reduceMul,Bool.not_false,T43]
  exact⟨rfl,by omega,fun j j1 _ _=>yo j j1⟩
 | true=>
 rw[if_neg (by simp)]
 have f0:(H.next=H1.next)=False:=by simp;omega
 simp (maxSteps:=400000) only[wF,storeA,reduceCtorEq,Nat.reduceAdd,Nat.reduceSub,Nat.reduceEqDiff,Nat.reduceLeDiff,Int.reduceToNat,Int.reduceLE,Int.reduceLT,Int.reduceAdd,Int.reduceNeg,Nat.reduceMul,Bool.not_true,T43,y0,f0]
 generalize hX1:AHeap.allocAt H1 H1.next _=X1
 have f1:H.next<H1.next:=by omega
 have z0:X1.get H.next=some (.cells 88 [.int .i64 x.kind,.str x.name,.str x.text,.lst x.attrs.length (attrsH x.attrs),.int .i64 x.line,.int .i64 x.col]):=by rw[←hX1,AHeap.get_allocAt_ne _ _ (by omega)];exact y0
 have z1:X1.get H1.next=some (.map []):=by rw[←hX1,AHeap.get_allocAt_same]
 have zn:X1.next=H1.next+1:=by rw[←hX1];simp only[AHeap.next_allocAt];omega
 have zo:∀j,j<H.next→X1.get j=H.get j:=fun j hj=>by rw[←hX1,AHeap.get_allocAt_ne _ _ (by omega)];exact yo j hj
 clear hX1
 refine ATrS.loopK (κ:=Nat × Bool × List (List UInt8 × Nat) × AHeap) (fun y=>[.ptr bid 0,.und,.und,.ptr H.next 0,.int .i64 0,.map H1.next,.bool y.2.1]++List.replicate 12 .und++[.lst x.attrs.length (attrsH x.attrs),.int .i64 x.attrs.length,.int .i64 y.1]++List.replicate 64 .und) (fun y=>y.2.2.2)
  (TreAt H H.next H1.next x) (fun y=>x.attrs.length-y.1) ⟨(0,false,[],X1),⟨Nat.zero_le _,rfl,rfl,z0,z1,⟨by simp,by simp⟩,by simp only;omega,zo⟩,by simp[Fg],HW.refl _⟩ ?_
 clear z0 z1 zo y0 yo x0 xo
 rintro⟨i,tw,es,J⟩ ⟨hi,hal,hdu,gx,gm,hc,gn,fJ⟩
 simp only at hi hal hdu gx gm hc gn fJ
 by_cases hlt:i<x.attrs.length
 ·have d0:decide ((i:Int)<(x.attrs.length:Int))=true:=by simp;omega
  have q0:((i:Int)<(x.attrs.length:Int))=True:=by simp;omega
  have hat:=attrsH_at x.attrs i hlt
  have hle:(i*2+2≤(attrsH x.attrs).length)=True:=by rw[attrsH_len];simp;omega
  have hab:=hx.2.2.2.1 _ (List.getElem_mem hlt)
  have htk:x.attrs.take (i+1)=x.attrs.take i++[x.attrs[i]]:=by rw[List.take_succ,List.getElem?_eq_getElem hlt];rfl
  have hdr:x.attrs.drop i=x.attrs[i]::x.attrs.drop (i+1):=List.drop_eq_getElem_cons hlt
  rw[hdr]at hdu
  have hallx:(x.attrs.all fun a=>allowedS 2 a.1 a.2)=true→allowedS 2 x.attrs[i].1 x.attrs[i].2=true:=fun h=>List.all_eq_true.1 h _ (List.getElem_mem hlt)
  generalize x.attrs[i]=a at hat hab htk hdr hdu hallx
  obtain⟨an,av⟩:=a
  simp only at hat hab hallx
  have ew:IntKind.i64.wrap ((i:Int)+1)=((i+1:Nat):Int):=by rw[wrap64]<;>omega
  simp (maxSteps:=400000) only[wF,storeA,reduceCtorEq,Nat.reduceAdd,Nat.reduceSub,Nat.reduceEqDiff,Nat.reduceLeDiff,Int.reduceToNat,Int.reduceLE,Int.reduceLT,Int.reduceAdd,Int.reduceNeg,Nat.reduceMul,T43,d0,q0,indexAddrA,hat,hle]
  generalize hJ1:AHeap.set (AHeap.allocAt J J.next _) J.next _=J1
  have j0:J1.get J.next=some (.cells 132 [.str an,.str av]):=by rw[←hJ1,AHeap.get_set_same]
  have jn:J1.next=J.next+1:=by rw[←hJ1];simp only[AHeap.next_set,AHeap.next_allocAt];omega
  have jo:∀j,j<J.next→J1.get j=J.get j:=fun j hj=>by rw[←hJ1,AHeap.get_set_ne _ _ (by omega),AHeap.get_allocAt_ne _ _ (by omega)]
  clear hJ1
  refine AInv.pureK B56 (t_allowed2_ok E (by omega) (by omega)) fun J2 h2=>?_
  have p2:=h2.1
  have k0:=(congrFun h2.2 _).trans j0
  have km:=(congrFun h2.2 _).trans ((jo _ gn).trans gm)
  have kx:=(congrFun h2.2 _).trans ((jo _ (by omega)).trans gx)
  have ko:∀j,j<H.next→J2.get j=H.get j:=fun j hj=>(congrFun h2.2 _).trans ((jo _ (by omega)).trans (fJ j hj))
  cases hA2:allowedS 2 an av with
  | false=>
   have hall:(x.attrs.all fun a=>allowedS 2 a.1 a.2)=false:=by
    rcases Bool.eq_false_or_eq_true (x.attrs.all fun a=>allowedS 2 a.1 a.2)with h | h
    ·rw[hallx h]at hA2;cases hA2
    ·exact h
   rw[if_pos hall]
   simp (maxSteps:=400000) only[wF,storeA,reduceCtorEq,Nat.reduceAdd,Nat.reduceSub,Nat.reduceEqDiff,Nat.reduceLeDiff,Int.reduceToNat,Int.reduceLE,Int.reduceLT,Int.reduceAdd,Int.reduceNeg,Nat.reduceMul,Bool.not_false,T43]
   exact⟨rfl,by omega,fun j j1 _ _=>ko j j1⟩
  | true=>
   obtain⟨s1,s2⟩:=cnt_step an av hc
   have dg0:decide ((0:Int)>0)=false:=by decide
   have e01:IntKind.i64.wrap 1=((1:Nat):Int):=by rw[wrap64]<;>omega
   have hal':((x.attrs.take (i+1)).all fun a=>allowedS 2 a.1 a.2)=true:=by rw[htk,List.all_append,hal];simp[hA2]
   have hdu':((tw||(x.attrs.take i).any fun b=>b.1==an)||dupT (x.attrs.take (i+1)) (x.attrs.drop (i+1)))=dupT [] x.attrs:=by
    rw[←hdu,htk,Bool.or_assoc]
    rfl
   rw[←htk]at s1 s2
   have htl:(x.attrs.take i).length=i:=by rw[List.length_take];omega
   rcases Bool.eq_false_or_eq_true ((x.attrs.take i).any fun b=>b.1==an)with hf | hf
   ·obtain⟨j,c,es',hfind,w2,w3,w4,w5⟩:=s1 hf
    have dgc:decide ((c:Int)>0)=true:=by simp;omega
    have ec:IntKind.i64.wrap ((c:Int)+1)=((c+1:Nat):Int):=by rw[wrap64]<;>omega
    rw[hf,Bool.or_true]at hdu'
    cases tw with
    | true=>
     simp (maxSteps:=400000) only[wF,storeA,reduceCtorEq,Nat.reduceAdd,Nat.reduceSub,Nat.reduceEqDiff,Nat.reduceLeDiff,Int.reduceToNat,Int.reduceLE,Int.reduceLT,Int.reduceAdd,Int.reduceNeg,Nat.reduceMul,T43,Bool.not_true,k0,km,lookupA,updateA,keyT,entriesA,hfind,dgc,ec,ew]
     refine⟨(i+1,true,es',_),⟨by simp only;omega,hal',hdu',?_,?_,w5,?_,fun j hj=>?_⟩,by simp only;omega,by simp[Fg],HW.refl _⟩
     ·show(AHeap.set _ _ _).get _=_
      rw[AHeap.get_set_ne _ _ (by omega)];exact kx
     ·show(AHeap.set _ _ _).get _=_
      rw[AHeap.get_set_same,w4]
     ·simp only[AHeap.next_set];omega
     ·show(AHeap.set _ _ _).get _=_
      rw[AHeap.get_set_ne _ _ (by omega)];exact ko j hj
    | false=>
     simp (maxSteps:=400000) only[wF,storeA,reduceCtorEq,Nat.reduceAdd,Nat.reduceSub,Nat.reduceEqDiff,Nat.reduceLeDiff,Int.reduceToNat,Int.reduceLE,Int.reduceLT,Int.reduceAdd,Int.reduceNeg,Nat.reduceMul,T43,Bool.not_true,k0,km,lookupA,updateA,keyT,entriesA,hfind,dgc,ec,ew]
     refine⟨(i+1,true,es',_),⟨by simp only;omega,hal',hdu',?_,?_,w5,?_,fun j hj=>?_⟩,by simp only;omega,by simp[Fg],HW.refl _⟩
     ·show(AHeap.set _ _ _).get _=_
      rw[AHeap.get_set_ne _ _ (by omega)];exact kx
     ·show(AHeap.set _ _ _).get _=_
      rw[AHeap.get_set_same,w4]
     ·simp only[AHeap.next_set];omega
     ·show(AHeap.set _ _ _).get _=_
      rw[AHeap.get_set_ne _ _ (by omega)];exact ko j hj
   ·obtain⟨hfind,es',w4,w5⟩:=s2 hf
    rw[hf,Bool.or_false]at hdu'
    cases tw with
    | true=>
     simp (maxSteps:=400000) only[wF,storeA,reduceCtorEq,Nat.reduceAdd,Nat.reduceSub,Nat.reduceEqDiff,Nat.reduceLeDiff,Int.reduceToNat,Int.reduceLE,Int.reduceLT,Int.reduceAdd,Int.reduceNeg,Nat.reduceMul,T43,Bool.not_true,k0,km,lookupA,updateA,keyT,entriesA,hfind,dg0,e01,ew]
     refine⟨(i+1,true,es',_),⟨by simp only;omega,hal',hdu',?_,?_,w5,?_,fun j hj=>?_⟩,by simp only;omega,by simp[Fg],HW.refl _⟩
     ·show(AHeap.set _ _ _).get _=_
      rw[AHeap.get_set_ne _ _ (by omega)];exact kx
     ·show(AHeap.set _ _ _).get _=_
      rw[AHeap.get_set_same,w4]
     ·simp only[AHeap.next_set];omega
     ·show(AHeap.set _ _ _).get _=_
      rw[AHeap.get_set_ne _ _ (by omega)];exact ko j hj
    | false=>
     simp (maxSteps:=400000) only[wF,storeA,reduceCtorEq,Nat.reduceAdd,Nat.reduceSub,Nat.reduceEqDiff,Nat.reduceLeDiff,Int.reduceToNat,Int.reduceLE,Int.reduceLT,Int.reduceAdd,Int.reduceNeg,Nat.reduceMul,T43,Bool.not_true,k0,km,lookupA,updateA,keyT,entriesA,hfind,dg0,e01,ew]
     refine⟨(i+1,false,es',_),⟨by simp only;omega,hal',hdu',?_,?_,w5,?_,fun j hj=>?_⟩,by simp only;omega,by simp[Fg],HW.refl _⟩
     ·show(AHeap.set _ _ _).get _=_
      rw[AHeap.get_set_ne _ _ (by omega)];exact kx
     ·show(AHeap.set _ _ _).get _=_
      rw[AHeap.get_set_same,w4]
     ·simp only[AHeap.next_set];omega
     ·show(AHeap.set _ _ _).get _=_
      rw[AHeap.get_set_ne _ _ (by omega)];exact ko j hj
 have hil:i=x.attrs.length:=by omega
 subst hil
 rw[List.take_length]at hal
 rw[List.take_length,List.drop_length,show dupT x.attrs []=false from rfl,Bool.or_false]at hdu
 rw[if_neg (by rw[hal];simp),←hdu]
 clear hdu hc hlt hi
 have d0:decide ((x.attrs.length:Int)<(x.attrs.length:Int))=false:=by simp
 cases tw with
 | true=>
  simp (maxSteps:=400000) only[wF,storeA,reduceCtorEq,Nat.reduceAdd,Nat.reduceSub,Nat.reduceEqDiff,Nat.reduceLeDiff,Int.reduceToNat,Int.reduceLE,Int.reduceLT,Int.reduceAdd,Int.reduceNeg,Nat.reduceMul,T43,d0]
  exact⟨rfl,by omega,fun j j1 _ _=>fJ j j1⟩
 | false=>
 rw[if_neg (by simp)]
 simp (maxSteps:=400000) only[wF,storeA,reduceCtorEq,Nat.reduceAdd,Nat.reduceSub,Nat.reduceEqDiff,Nat.reduceLeDiff,Int.reduceToNat,Int.reduceLE,Int.reduceLT,Int.reduceAdd,Int.reduceNeg,Nat.reduceMul,T43,d0,gx]
 obtain⟨b1,k1⟩:=hb0.keep (show Kept H J from ⟨by omega,fJ⟩)
 refine AInv.call B79 (t_add_ok G b1 (kind:=1) hlen hby (by simp)) fun r J1 h1=>?_
 cases ho:t.add 1 x.name []with
 | error e=>
  rw[ho]at h1
  obtain⟨rfl,n1,o1⟩:=h1
  have he:((e:Int) != 0)=true:=by have:=TSt.add_err ho;simp;omega
  simp (maxSteps:=400000) only[wF,storeA,reduceCtorEq,Nat.reduceAdd,Nat.reduceSub,Nat.reduceEqDiff,Nat.reduceLeDiff,Int.reduceToNat,Int.reduceLE,Int.reduceLT,Int.reduceAdd,Int.reduceNeg,Nat.reduceMul,T43,he]
  exact⟨rfl,by omega,fun j j1 j2 j3=>by rw[o1 j (by omega) j2 j3];exact fJ j j1⟩
 | ok t1=>
  rw[ho]at h1
  obtain⟨rfl,kl1,b2,k2⟩:=h1
  obtain⟨hok1,to1,td1,tl1⟩:=hok.add ho
  have hb2:=b2
  obtain⟨c1,c2,c3,c4,c5⟩:=b2
  have k12:=k1.trans k2
  obtain⟨n2,o2,f2⟩:=k2
  have gx1:=(f2 _ (by omega) (by omega) (by omega)).trans gx
  have he:(((0:Nat):Int) != 0)=false:=rfl
  have el:IntKind.i64.wrap ((t1.l.length:Int)-1)=(t.l.length:Int):=by rw[tl1,wrap64]<;>omega
  have ed:IntKind.i64.wrap (t1.deep+1)=t.deep+1:=by rw[td1,wrap64]<;>omega
  have v1:(H.next=bid)=False:=by simp;omega
  have v2:(bid=H.next)=False:=by simp;omega
  simp (maxSteps:=400000) only[wF,storeA,reduceCtorEq,Nat.reduceAdd,Nat.reduceSub,Nat.reduceEqDiff,Nat.reduceLeDiff,Int.reduceToNat,Int.reduceLE,Int.reduceLT,Int.reduceAdd,Int.reduceNeg,Nat.reduceMul,T43,he,c1,el,ed,gx1,v1,v2,h_set_set]
  generalize hX2:AHeap.set J1 bid _=X2
  have hb3:BAt X2 bid kl1 { t1 with op:=t.l.length,deep:=t.deep+1 }:=by
   rw[←hX2]
   exact⟨by rw[AHeap.get_set_same],by rw[AHeap.get_set_ne _ _ (by omega)];exact c2,c3,by simp only[AHeap.next_set];omega,by simp only[AHeap.next_set];omega⟩
  have k3:BKeep H bid kl X2 kl1:=by
   obtain⟨m1,m2,m3⟩:=k12
   rw[←hX2]
   exact⟨by simp only[AHeap.next_set];omega,m2,fun j j1 j2 j3=>by rw[AHeap.get_set_ne _ _ j2];exact m3 j j1 j2 j3⟩
  have hok3:TOk { t1 with op:=t.l.length,deep:=t.deep+1 }:=⟨by simp only;omega,hok1.up,hok1.len,hok1.bytes⟩
  clear hX2
  generalize ({ t1 with op:=t.l.length,deep:=t.deep+1 }:TSt)=t2 at hb3 hok3 ⊢
  refine ATrS.loopK (κ:=Nat × TSt × Nat × AHeap) (fun y=>[.ptr bid 0]++List.replicate 69 .und++[.lst x.attrs.length (attrsH x.attrs),.int .i64 x.attrs.length,.int .i64 y.1]++List.replicate 13 .und) (fun y=>y.2.2.2)
   (Tre2At H bid kl x.attrs (attrsT x.attrs t2)) (fun y=>x.attrs.length-y.1) ⟨(0,t2,kl1,X2),⟨Nat.zero_le _,rfl,hok3,hb3,k3⟩,by simp[Fg],HW.refl _⟩ ?_
  rintro⟨i,u,kl3,Y⟩ ⟨hi,hfo,hoku,hbu,hku⟩
  simp only at hi hfo hoku hbu hku
  by_cases hlt:i<x.attrs.length
  ·have d0:decide ((i:Int)<(x.attrs.length:Int))=true:=by simp;omega
   have q0:((i:Int)<(x.attrs.length:Int))=True:=by simp;omega
   have hat:=attrsH_at x.attrs i hlt
   have hle:(i*2+2≤(attrsH x.attrs).length)=True:=by rw[attrsH_len];simp;omega
   have hab:=hx.2.2.2.1 _ (List.getElem_mem hlt)
   have hdr:x.attrs.drop i=x.attrs[i]::x.attrs.drop (i+1):=List.drop_eq_getElem_cons hlt
   rw[hdr]at hfo
   generalize x.attrs[i]=a at hat hab hfo
   obtain⟨an,av⟩:=a
   simp only[attrsT]at hfo
   simp only at hat hab
   have ew:IntKind.i64.wrap ((i:Int)+1)=((i+1:Nat):Int):=by rw[wrap64]<;>omega
   simp (maxSteps:=400000) only[wF,storeA,reduceCtorEq,Nat.reduceAdd,Nat.reduceSub,Nat.reduceEqDiff,Nat.reduceLeDiff,Int.reduceToNat,Int.reduceLE,Int.reduceLT,Int.reduceAdd,Int.reduceNeg,Nat.reduceMul,T43,d0,q0,indexAddrA,hat,hle]
   generalize hY1:AHeap.set (AHeap.allocAt Y Y.next _) Y.next _=Y1
   have yn:Y1.next=Y.next+1:=by rw[←hY1];simp only[AHeap.next_set,AHeap.next_allocAt];omega
   have yo:∀j,j<Y.next→Y1.get j=Y.get j:=fun j hj=>by rw[←hY1,AHeap.get_set_ne _ _ (by omega),AHeap.get_allocAt_ne _ _ (by omega)]
   clear hY1
   obtain⟨b5,k5⟩:=hbu.keep (show Kept Y Y1 from ⟨by omega,yo⟩)
   refine AInv.call B79 (t_add_ok G b5 (kind:=2) hoku.len hoku.bytes (by omega)) fun r Y2 h2=>?_
   have k7:=hku.trans k5
   cases hoa:u.add 2 an av with
   | error e=>
    rw[hoa]at h2 hfo
    obtain⟨rfl,n3,f3⟩:=h2
    have he:((e:Int) != 0)=true:=by have:=TSt.add_err hoa;simp;omega
    simp (maxSteps:=400000) only[wF,storeA,reduceCtorEq,Nat.reduceAdd,Nat.reduceSub,Nat.reduceEqDiff,Nat.reduceLeDiff,Int.reduceToNat,Int.reduceLE,Int.reduceLT,Int.reduceAdd,Int.reduceNeg,Nat.reduceMul,T43,he]
    rw[←hfo]
    obtain⟨m1,m2,m3⟩:=k7
    exact⟨rfl,by omega,fun j j1 j2 j3=>by rw[f3 j (by omega) j2 (by rcases m2 with h | h<;>omega)];exact m3 j j1 j2 j3⟩
   | ok u'=>
    rw[hoa]at h2 hfo
    obtain⟨rfl,kl4,b6,k6⟩:=h2
    simp (maxSteps:=400000) only[wF,storeA,reduceCtorEq,Nat.reduceAdd,Nat.reduceSub,Nat.reduceEqDiff,Nat.reduceLeDiff,Int.reduceToNat,Int.reduceLE,Int.reduceLT,Int.reduceAdd,Int.reduceNeg,Nat.reduceMul,T43,he,ew]
    exact⟨(i+1,u',kl4,Y2),⟨hlt,hfo,(hoku.add hoa).1,b6,k7.trans k6⟩,by simp only;omega,by simp[Fg],HW.refl _⟩
  ·have d0:decide ((i:Int)<(x.attrs.length:Int))=false:=by simp;omega
   rw[List.drop_eq_nil_of_le (by omega)]at hfo
   simp only[attrsT]at hfo
   simp (maxSteps:=400000) only[wF,storeA,reduceCtorEq,Nat.reduceAdd,Nat.reduceSub,Nat.reduceEqDiff,Nat.reduceLeDiff,Int.reduceToNat,Int.reduceLE,Int.reduceLT,Int.reduceAdd,Int.reduceNeg,Nat.reduceMul,T43,d0]
   rw[←hfo]
   exact⟨rfl,kl3,hbu,hku⟩
end Go.Ab
