/- tree's in, below and its iterator, walked. tree's Text, walked. -/
import Derived.Test.YtojncnpmlhhccaaGreatDoorHT9
set_option linter.all false
namespace Go.Ab
open Go Go.Lib Go.Proofs
theorem t_in_ok {G:Nat→Option (List AV)} (E:Env G) (X:EnvH G) (T:EnvT G) {l:List Nd} (hv:ValidN l) {node:Nat} (hn:node<l.length):PureCall Tryz.prog G 31 [.agg [.lst l.length (ndsH l)],.int .i64 node] (.bool true):=by
 intro H
 refine ACalls.keep (ACalls.of Tryz.func31 S31_eq R31 N31 rfl rfl ?_)
 have d0:decide ((node:Int)≥0)=true:=by simp
 have d1:decide ((node:Int)<(l.length:Int))=true:=by simp;omega
 simp (maxSteps:=400000) only[wF,storeA,reduceCtorEq,Nat.reduceAdd,Nat.reduceSub,Nat.reduceEqDiff,Nat.reduceLeDiff,Int.reduceToNat,Int.reduceLE,Int.reduceLT,Int.reduceAdd,Int.reduceNeg,Nat.reduceMul,S31,N31,R31,T31,AV.boxable,d0,d1]
 generalize hX:AHeap.allocAt _ _ _=X1
 have xn:X1.next=H.next+1:=by rw[←hX];simp only[AHeap.next_allocAt];omega
 have xo:∀j,j<H.next→X1.get j=H.get j:=fun j hj=>by rw[←hX,AHeap.get_allocAt_ne _ _ (by omega)]
 clear hX
 refine AInv.pureK B21 (t_Check_ok E X T hv) fun H1 h1=>?_
 have z:((0:Int)==0)=true:=rfl
 simp (maxSteps:=400000) only[wF,storeA,reduceCtorEq,Nat.reduceAdd,Nat.reduceSub,Nat.reduceEqDiff,Nat.reduceLeDiff,Int.reduceToNat,Int.reduceLE,Int.reduceLT,Int.reduceAdd,Int.reduceNeg,Nat.reduceMul,T31,z]
 have:=h1.1
 exact⟨by omega,fun j hj=>by rw[h1.2];exact xo j hj⟩
theorem t_below_ok (G:Nat→Option (List AV)) {l:List Nd} {node:Nat} (H:AHeap):ACalls Tryz.prog G 37 [.agg [.lst l.length (ndsH l)],.int .i64 node] H fun r H'=>
  r = .ret (.func 74 [.ptr (H.next+1) 0,.ptr H.next 0])∧H'.get H.next=some (.cells 25 [.lst l.length (ndsH l)])∧H'.get (H.next+1)=some (.cells 3 [.int .i64 node])∧H'.next=H.next+2∧∀j,j<H.next→H'.get j=H.get j:=by
 refine ACalls.of Tryz.func37 S37_eq R37 N37 rfl rfl ?_
 simp (maxSteps:=400000) only[wF,storeA,reduceCtorEq,Nat.reduceAdd,Nat.reduceSub,Nat.reduceEqDiff,Nat.reduceLeDiff,Int.reduceToNat,Int.reduceLE,Int.reduceLT,Int.reduceAdd,Int.reduceNeg,Nat.reduceMul,S37,N37,R37,T37,AV.boxable]
 refine⟨rfl,fun j hj=>?_⟩
 rw[if_neg (by omega),if_neg (by omega)]
def stopN (l:List Nd) (a:Nat):Nat→Nat→Nat
 | 0,k=>k
 | f+1,k=>if k<l.length∧aboveN l a k=true then stopN l a f (k+1)else k
theorem AYield.mono {P:Program} {G:Nat→Option (List AV)} {k:Nat} {args:List AV} {H:AHeap} {K K':AV→AHeap→Prop} (h:AYield P G k args H K) (hk:∀v H,K v H→K' v H):AYield P G k args H K':=
 let ⟨b,ps,x,y,h1,h2⟩:=h;⟨b,ps,x,y,h1,h2.mono hk⟩
set_option maxHeartbeats 4000000 in
set_option maxRecDepth 100000 in
theorem t_below1_ok (G:Nat→Option (List AV)) {l:List Nd} {node k i j:Nat} (hl:l.length≤65536) (hu:∀m,m<l.length→UpOk l m) (I:Nat→AHeap→Prop)
  (hI:∀m J,I m J→J.get i=some (.cells 3 [.int .i64 node])∧J.get j=some (.cells 25 [.lst l.length (ndsH l)]))
  (hK:∀m J J',I m J→Keeps J J'→I m J')
  (hy:∀m J,I m J→node<m→m<l.length→aboveN l node m=true→AYield Tryz.prog G k [.int .i64 m,.agg (ndH (l.getD m nd0))] J fun v J'=>v = .bool true∧I (m+1) J')
  {H:AHeap} (hn:node<l.length) (h0:I (node+1) H) :
  ACalls Tryz.prog G 74 [.yld k,.ptr i 0,.ptr j 0] H fun r H'=>r = .ret (.tup [])∧I (stopN l node l.length (node+1)) H':=by
 refine ACalls.of Tryz.func74 S74_eq R74 N74 rfl rfl ?_
 have ew0:IntKind.i64.wrap ((node:Int)+1)=((node+1:Nat):Int):=by rw[wrap64]<;>omega
 obtain⟨a1,a2⟩:=hI _ _ h0
 simp (maxSteps:=400000) only[wF,storeA,reduceCtorEq,Nat.reduceAdd,Nat.reduceSub,Nat.reduceEqDiff,Nat.reduceLeDiff,Int.reduceToNat,Int.reduceLE,Int.reduceLT,Int.reduceAdd,Int.reduceNeg,Nat.reduceMul,S74,N74,R74,T74,a1,ew0]
 refine ATrS.loopK (κ:=Nat × AHeap) (fun c=>[.yld k,.ptr i 0,.ptr j 0,.und,.int .i64 c.1]++List.replicate 24 .und) (fun c=>c.2)
  (fun c=>node<c.1∧c.1≤l.length∧I c.1 c.2∧∃f,l.length≤c.1+f∧stopN l node f c.1=stopN l node l.length (node+1)) (fun c=>l.length-c.1)
  ⟨(node+1,H),⟨by simp only;omega,hn,h0,l.length,by simp only;omega,rfl⟩,by simp[Fg],HW.refl _⟩ ?_
 clear a1 a2 h0 ew0
 rintro⟨m,J⟩ ⟨hm,hml,hIm,f,hf,hst⟩
 simp only at hm hml hIm hf hst
 obtain⟨a1,a2⟩:=hI _ _ hIm
 by_cases hlt:m<l.length
 case neg=>
  have d0:decide ((m:Int)<(l.length:Int))=false:=by simp;omega
  have he:stopN l node f m=m:=by
   cases f with
   | zero=>rfl
   | succ f=>rw[stopN,if_neg (fun h=>hlt h.1)]
  rw[he]at hst
  simp (maxSteps:=400000) only[wF,storeA,reduceCtorEq,Nat.reduceAdd,Nat.reduceSub,Nat.reduceEqDiff,Nat.reduceLeDiff,Int.reduceToNat,Int.reduceLE,Int.reduceLT,Int.reduceAdd,Int.reduceNeg,Nat.reduceMul,T74,a1,a2,d0]
  first | exact⟨rfl,hst▸hIm⟩ | exact hst▸hIm
 have d0:decide ((m:Int)<(l.length:Int))=true:=by simp;omega
 obtain⟨f,rfl⟩:∃f',f=f'+1:=⟨f-1,by omega⟩
 simp (maxSteps:=400000) only[wF,storeA,reduceCtorEq,Nat.reduceAdd,Nat.reduceSub,Nat.reduceEqDiff,Nat.reduceLeDiff,Int.reduceToNat,Int.reduceLE,Int.reduceLT,Int.reduceAdd,Int.reduceNeg,Nat.reduceMul,T74,a1,a2,d0]
 refine AInv.pureK B36 (t_above_ok G (l:=l) (a:=node) hlt (hu m hlt)) fun J1 h1=>?_
 have hI1:=hK _ _ _ hIm h1
 obtain⟨b1,b2⟩:=hI _ _ hI1
 cases hab:aboveN l node m with
 | false=>
  have he:stopN l node (f+1) m=m:=by rw[stopN,if_neg (fun h=>by rw[hab]at h;cases h.2)]
  rw[he]at hst
  simp (maxSteps:=400000) only[wF,storeA,reduceCtorEq,Nat.reduceAdd,Nat.reduceSub,Nat.reduceEqDiff,Nat.reduceLeDiff,Int.reduceToNat,Int.reduceLE,Int.reduceLT,Int.reduceAdd,Int.reduceNeg,Nat.reduceMul,T74,b1,b2]
  first | exact⟨rfl,hst▸hI1⟩ | exact hst▸hI1
 | true=>
  have he:stopN l node (f+1) m=stopN l node f (m+1):=by rw[stopN,if_pos ⟨hlt,hab⟩]
  rw[he]at hst
  have q1:((m:Int)<(l.length:Int))=True:=by simp;omega
  have hat:=ndsH_at l m hlt
  have hxe:=nd_getD hlt
  have hle:(m*4+4≤(ndsH l).length)=True:=by rw[ndsH_len];simp;omega
  have ew:IntKind.i64.wrap ((m:Int)+1)=((m+1:Nat):Int):=by rw[wrap64]<;>omega
  have hym:=hy m J1 hI1 hm hlt hab
  rw[hxe]at hym
  simp only[ndH]at hat hym
  generalize l[m]=x at hat hxe hym
  simp (maxSteps:=400000) only[wF,storeA,reduceCtorEq,Nat.reduceAdd,Nat.reduceSub,Nat.reduceEqDiff,Nat.reduceLeDiff,Int.reduceToNat,Int.reduceLE,Int.reduceLT,Int.reduceAdd,Int.reduceNeg,Nat.reduceMul,T74,b1,b2,q1,hat,hle,indexAddrA]
  refine hym.mono ?_
  rintro v J2 ⟨rfl,hI2⟩
  simp (maxSteps:=400000) only[wF,storeA,reduceCtorEq,Nat.reduceAdd,Nat.reduceSub,Nat.reduceEqDiff,Nat.reduceLeDiff,Int.reduceToNat,Int.reduceLE,Int.reduceLT,Int.reduceAdd,Int.reduceNeg,Nat.reduceMul,T74,Bool.not_true,ew]
  exact⟨(m+1,J2),⟨by simp only;omega,hlt,hI2,f,by simp only;omega,hst⟩,by simp only;omega,by simp[Fg],HW.refl _⟩
end Go.Ab
namespace Go.Ab
open Go Go.Lib Go.Proofs
def textTo (l:List Nd) (a m:Nat):List UInt8:=((l.take m).drop (a+1)).flatMap fun x=>if x.kind=3 then x.text else []
def textSum:List Nd→Nat
 | []=>0
 | x::l=>x.text.length+textSum l
theorem textSum_app:∀(l m:List Nd),textSum (l++m)=textSum l+textSum m
 | [],m=>by simp[textSum]
 | x::l,m=>by simp only[List.cons_append,textSum,textSum_app l m];omega
theorem textTo_le (l:List Nd):(l.flatMap fun x=>if x.kind=3 then x.text else []).length≤textSum l:=by
 induction l with
 | nil=>exact Nat.le_refl _
 | cons x l ih=>
  simp only[List.flatMap_cons,List.length_append,textSum]
  have:(if x.kind=3 then x.text else []).length≤x.text.length:=by split<;>simp
  omega
theorem textTo_step {l:List Nd} {a m:Nat} (ha:a<m) (hm:m<l.length):textTo l a (m+1)=textTo l a m++(if(l.getD m nd0).kind=3 then(l.getD m nd0).text else []):=by
 unfold textTo
 have e:l.take (m+1)=l.take m++[l.getD m nd0]:=by rw[List.take_succ,List.getElem?_eq_getElem hm,nd_getD hm];rfl
 rw[e,List.drop_append,List.flatMap_append]
 have h0:a+1-(l.take m).length=0:=by rw[List.length_take];omega
 rw[h0,List.drop_zero]
 simp only[List.flatMap_cons,List.flatMap_nil,List.append_nil]
theorem textTo_bound {l:List Nd} {a m:Nat} (hm:m<l.length):(textTo l a m).length+(l.getD m nd0).text.length≤textSum l:=by
 have h1:textSum l=textSum (l.take m)+((l.getD m nd0).text.length+textSum (l.drop (m+1))):=by
  conv=>lhs;rw[←List.take_append_drop m l]
  rw[textSum_app,List.drop_eq_getElem_cons hm,textSum,nd_getD hm]
 have h2:=textTo_le ((l.take m).drop (a+1))
 have h3:textSum (l.take m)=textSum ((l.take m).take (a+1))+textSum ((l.take m).drop (a+1)):=by rw[←textSum_app,List.take_append_drop]
 unfold textTo
 omega
theorem ATrS.range_eq {P:Program} {G:Nat→Option (List AV)} {g:Operand} {ps:List Tmp} {sx sy:SC} {Q:APost} {a:List AV} {H:AHeap} {f:FuncId} {caps:List AV} (hg:ev a g = .func f caps) (hb:bodyT P f=true)
  (hin:∀(x y:Code) (b:List AV),b=a→prep x=sx→prep y=sy→ACalls P G f (.yld H.next::caps) (H.alloc (.loop .ready none b ps x y)) (rangedA H.next b ps x y b Q)) :
  ATrS P G (.rangeF g ps sx sy) Q a H:=ATrS.range hg hb fun x y hx hy=>hin x y a rfl hx hy
def TxAt (H:AHeap) (l:List Nd) (node ii jj kk bid:Nat) (b:List AV) (x y:Code) (m:Nat) (J:AHeap):Prop:=
 J.get kk=some (.loop .ready none b [31,32] x y)∧J.get ii=some (.cells 3 [.int .i64 node])∧J.get jj=some (.cells 25 [.lst l.length (ndsH l)])∧(∃jb,BldAt J bid jb (textTo l node m)∧jb<J.next∧H.next<jb)∧kk<J.next∧ii<J.next∧jj<J.next∧∀j,j<H.next→J.get j=H.get j
set_option maxHeartbeats 8000000 in
set_option maxRecDepth 100000 in
theorem t_Text_ok {G:Nat→Option (List AV)} (E:Env G) (X:EnvH G) (T:EnvT G) (B:EnvB G) {l:List Nd} (hv:ValidN l) {node:Nat} (hn:node<l.length) (hk:(l.getD node nd0).kind=0∨(l.getD node nd0).kind=1) (hsum:textSum l≤1000000000) :
  PureCall Tryz.prog G 15 [.agg [.lst l.length (ndsH l)],.int .i64 node] (.str (textTo l node (stopN l node l.length (node+1)))):=by
 intro H
 refine ACalls.keep (ACalls.of Tryz.func15 S15_eq R15 N15 rfl rfl ?_)
 have hxe:=nd_getD hn
 have hat:=ndsH_at l node hn
 rw[←hxe]at hat
 have hle:(node*4+4≤(ndsH l).length)=True:=by rw[ndsH_len];simp;omega
 have q1:((node:Int)<(l.length:Int))=True:=by simp;omega
 generalize l.getD node nd0=x at hxe hat hk
 simp only[ndH]at hat
 simp (maxSteps:=400000) only[wF,storeA,reduceCtorEq,Nat.reduceAdd,Nat.reduceSub,Nat.reduceEqDiff,Nat.reduceLeDiff,Int.reduceToNat,Int.reduceLE,Int.reduceLT,Int.reduceAdd,Int.reduceNeg,Nat.reduceMul,S15,N15,R15,T15,AV.boxable]
 generalize hX:AHeap.allocAt _ _ _=X1
 have x0:X1.get H.next=some (.cells 25 [.lst l.length (ndsH l)]):=by rw[←hX,AHeap.get_allocAt_same]
 have xn:X1.next=H.next+1:=by rw[←hX];simp only[AHeap.next_allocAt];omega
 have xo:∀j,j<H.next→X1.get j=H.get j:=fun j hj=>by rw[←hX,AHeap.get_allocAt_ne _ _ (by omega)]
 clear hX
 refine AInv.pureK B31 (t_in_ok E X T hv hn) fun H1 h1=>?_
 have p1:=h1.1
 have y0:=(congrFun h1.2 _).trans x0
 have yo:∀j,j<H.next→H1.get j=H.get j:=fun j hj=>(congrFun h1.2 _).trans (xo j hj)
 have u1:(H.next=H1.next)=False:=by simp;omega
 simp (maxSteps:=400000) only[wF,storeA,reduceCtorEq,Nat.reduceAdd,Nat.reduceSub,Nat.reduceEqDiff,Nat.reduceLeDiff,Int.reduceToNat,Int.reduceLE,Int.reduceLT,Int.reduceAdd,Int.reduceNeg,Nat.reduceMul,T15,Bool.not_true,y0,q1,hat,hle,indexAddrA,u1,AV.boxable]
 generalize hX2:AHeap.set _ H1.next _=X2
 have z0:X2.get H.next=some (.cells 25 [.lst l.length (ndsH l)]):=by rw[←hX2,AHeap.get_set_ne _ _ (by omega),AHeap.get_allocAt_ne _ _ (by omega)];exact y0
 have z1:X2.get H1.next=some (.cells 36 [.int .i64 x.kind,.str x.name,.str x.text,.int .i64 x.up]):=by rw[←hX2,AHeap.get_set_same]
 have zn:X2.next=H1.next+1:=by rw[←hX2];simp only[AHeap.next_set,AHeap.next_allocAt];omega
 have zo:∀j,j<H.next→X2.get j=H.get j:=fun j hj=>by rw[←hX2,AHeap.get_set_ne _ _ (by omega),AHeap.get_allocAt_ne _ _ (by omega)];exact yo j hj
 clear hX2
 have u2:(H.next=X2.next)=False:=by simp;omega
 have c0:((x.kind:Int) != 0) = !decide (x.kind=0):=by
  by_cases h:x.kind=0
  ·rw[h];rfl
  ·rw[decide_eq_false h,bne,beq_false_of_ne (by omega)]
 have c1:x.kind=1→((x.kind:Int) != 1)=false:=fun h=>by rw[h];rfl
 rcases hk with hk | hk
 case' inl=>
  rw[decide_eq_true hk]at c0
  simp (maxSteps:=400000) only[wF,storeA,reduceCtorEq,Nat.reduceAdd,Nat.reduceSub,Nat.reduceEqDiff,Nat.reduceLeDiff,Int.reduceToNat,Int.reduceLE,Int.reduceLT,Int.reduceAdd,Int.reduceNeg,Nat.reduceMul,T15,Bool.not_true,Bool.not_false,c0,z0,u2,AV.boxable]
 case' inr=>
  rw[decide_eq_false (by omega)]at c0
  have c1:=c1 hk
  simp (maxSteps:=400000) only[wF,storeA,reduceCtorEq,Nat.reduceAdd,Nat.reduceSub,Nat.reduceEqDiff,Nat.reduceLeDiff,Int.reduceToNat,Int.reduceLE,Int.reduceLT,Int.reduceAdd,Int.reduceNeg,Nat.reduceMul,T15,Bool.not_true,Bool.not_false,c0,c1,z0,z1,u2,AV.boxable]
 all_goals
  generalize hX3:AHeap.allocAt _ _ _=X3
  have a1:X3.get X2.next=some (.cells 69 [.nilp,.nils]):=by rw[←hX3,AHeap.get_allocAt_same]
  have an:X3.next=X2.next+1:=by rw[←hX3];simp only[AHeap.next_allocAt];omega
  have ao:∀j,j<H.next→X3.get j=H.get j:=fun j hj=>by rw[←hX3,AHeap.get_allocAt_ne _ _ (by omega)];exact zo j hj
  clear hX3
  refine AInv.retK B37 (t_below_ok G X3) ?_ (fun v J2 hq=>by cases hq.1)
  rintro v J ⟨hv2,j1,j2,jn,jo⟩
  cases hv2
  obtain⟨J',hw,hb,jn',jo'⟩:=Weak.builder G (k:=X2.next) (H:=J) (by rw[jo _ (by omega)];exact a1) (by omega)
  simp (maxSteps:=400000) only[wF,storeA,reduceCtorEq,Nat.reduceAdd,Nat.reduceSub,Nat.reduceEqDiff,Nat.reduceLeDiff,Int.reduceToNat,Int.reduceLE,Int.reduceLT,Int.reduceAdd,Int.reduceNeg,Nat.reduceMul,T15]
  refine ATrS.weak (hw _) ?_
  refine ATrS.range_eq (f:=74) rfl B74 ?_
  intro xc yc bA hbA hxc hyc
  have hJn:J'.next=J.next+1:=jn'
  refine ACalls.mono (t_below1_ok G hv.len (fun m hm=>hv.upOk hm) (TxAt H l node (X3.next+1) X3.next J'.next X2.next bA xc yc) (fun m J h=>⟨h.2.1,h.2.2.1⟩) ?hK ?hy hn ?h0) ?hfin
  case hK=>
   rintro m A A' ⟨k1,k2,k3,⟨jb,k4,k9,k10⟩,k5,k6,k7,k8⟩ hA
   refine⟨by rw[hA.2];exact k1,by rw[hA.2];exact k2,by rw[hA.2];exact k3,⟨jb,?_,?_⟩,?_,?_,?_,fun j hj=>by rw[hA.2];exact k8 j hj⟩
   ·unfold BldAt;rw[hA.2];exact k4
   ·have:=hA.1;exact⟨by omega,k10⟩
   ·have:=hA.1;omega
   ·have:=hA.1;omega
   ·have:=hA.1;omega
  case h0=>
   refine⟨AHeap.get_alloc_same _ _,?_,?_,⟨J.next,?_,by simp only[AHeap.next_alloc];omega,by omega⟩,?_,?_,?_,fun j hj=>?_⟩
   ·rw[AHeap.get_alloc_ne _ _ (by omega),jo' _ (by omega) (by omega)];exact j2
   ·rw[AHeap.get_alloc_ne _ _ (by omega),jo' _ (by omega) (by omega)];exact j1
   ·obtain⟨b0,hb0,e1,e2⟩:=hb
    refine⟨b0,hb0,?_,?_⟩
    ·rw[AHeap.get_alloc_ne _ _ (by omega)]
     have:textTo l node (node+1)=[]:=by simp[textTo,List.drop_eq_nil_of_le]
     rw[this];exact e1
    ·rw[AHeap.get_alloc_ne _ _ (by omega)]
     have:textTo l node (node+1)=[]:=by simp[textTo,List.drop_eq_nil_of_le]
     rw[this];exact e2
   ·simp only[AHeap.next_alloc];omega
   ·simp only[AHeap.next_alloc];omega
   ·simp only[AHeap.next_alloc];omega
   ·rw[AHeap.get_alloc_ne _ _ (by omega),jo' _ (by omega) (by omega),jo _ (by omega)];exact ao j hj
  case hy=>
   rintro m A ⟨k1,k2,k3,⟨jb,k4,k9,k10⟩,k5,k6,k7,k8⟩ hm hml hab
   refine⟨bA,_,xc,yc,k1,ARound.of hxc hyc rfl rfl rfl ?_⟩
   have hstep:=textTo_step hm hml
   have hbnd:=textTo_bound (a:=node) hml
   generalize l.getD m nd0=y at hstep hbnd
   simp only[ndH]
   have w1:(A.next=J'.next)=False:=by simp;omega
   have w2:(J'.next=A.next)=False:=by simp;omega
   have hne:A.next≠J'.next:=by omega
   have hkb:J'.next≠X2.next:=by omega
   have hkj:J'.next≠jb:=by
    intro e
    obtain⟨b0,_,_,e2⟩:=k4
    rw[←e,k1]at e2
    cases e2
   have hbA1:X2.next<A.next:=by omega
   have hij:X3.next+1≠jb∧X3.next≠jb:=by
    obtain⟨b0,_,_,e2⟩:=k4
    refine⟨fun e=>?_,fun e=>?_⟩
    ·rw[←e,k2]at e2;cases e2
    ·rw[←e,k3]at e2;cases e2
   have hcase:∀(v:AV) (A2:AHeap) (jb':Nat),A.next<A2.next→A2.get J'.next=some (.loop .busy none bA [31,32] xc yc)→A2.get (X3.next+1)=some (.cells 3 [.int .i64 node])→A2.get X3.next=some (.cells 25 [.lst l.length (ndsH l)]) →
     BldAt A2 X2.next jb' (textTo l node (m+1))→jb'<A2.next∧H.next<jb'→(∀j,j<H.next→A2.get j=H.get j)→TxAt H l node (X3.next+1) X3.next J'.next X2.next bA xc yc (m+1) (A2.set J'.next (.loop .ready none bA [31,32] xc yc)):=by
    rintro v A2 jb' g0 g1 g2 g3 g4 g6 g5
    have hjk:J'.next≠jb':=by
     intro e
     obtain⟨b0,_,_,e2⟩:=g4
     rw[←e,g1]at e2
     cases e2
    refine⟨AHeap.get_set_same _ _ _,?_,?_,⟨jb',?_,by simp only[AHeap.next_set];exact g6⟩,by simp only[AHeap.next_set];omega,by simp only[AHeap.next_set];omega,by simp only[AHeap.next_set];omega,fun j hj=>?_⟩
    ·rw[AHeap.get_set_ne _ _ (by omega)];exact g2
    ·rw[AHeap.get_set_ne _ _ (by omega)];exact g3
    ·obtain⟨b0,hb0,e1,e2⟩:=g4
     exact⟨b0,hb0,by rw[AHeap.get_set_ne _ _ (by omega)];exact e1,by rw[AHeap.get_set_ne _ _ (Ne.symm hjk)];exact e2⟩
    ·rw[AHeap.get_set_ne _ _ (by omega)];exact g5 j hj
   have pre:∀(A1:AHeap),A1=AHeap.set (AHeap.set (AHeap.allocAt A A.next (.cells 36 [.int .i64 0,.str [],.str [],.int .i64 0])) A.next (.cells 36 [.int .i64 y.kind,.str y.name,.str y.text,.int .i64 y.up])) J'.next (.loop .busy none bA [31,32] xc yc) →
     A1.next=A.next+1∧A1.get A.next=some (.cells 36 [.int .i64 y.kind,.str y.name,.str y.text,.int .i64 y.up])∧A1.get J'.next=some (.loop .busy none bA [31,32] xc yc)∧∀j,j≠A.next→j≠J'.next→A1.get j=A.get j:=by
    rintro A1 rfl
    refine⟨by simp only[AHeap.next_set,AHeap.next_allocAt];omega,?_,AHeap.get_set_same _ _ _,fun j h1 h2=>?_⟩
    ·rw[AHeap.get_set_ne _ _ hne,AHeap.get_set_same]
    ·rw[AHeap.get_set_ne _ _ h2,AHeap.get_set_ne _ _ h1,AHeap.get_allocAt_ne _ _ h1]
   have k4':=k4
   obtain⟨b0,hb0,e1,e2⟩:=k4'
   have hbl:∀(A1:AHeap),(∀j,j≠A.next→j≠J'.next→A1.get j=A.get j)→BldAt A1 X2.next jb (textTo l node m):=fun A1 h=>
    ⟨b0,hb0,by rw[h _ (by omega) (by omega)];exact e1,by rw[h _ (by omega) (Ne.symm hkj)];exact e2⟩
   by_cases hy3:y.kind=3
   ·have d0:((y.kind:Int)==3)=true:=by rw[hy3];rfl
    rw[if_pos hy3]at hstep
    subst hbA
    simp (maxSteps:=400000) only[wF,storeA,reduceCtorEq,Nat.reduceAdd,Nat.reduceSub,Nat.reduceEqDiff,Nat.reduceLeDiff,Int.reduceToNat,Int.reduceLE,Int.reduceLT,Int.reduceAdd,Int.reduceNeg,Nat.reduceMul,T15,putsA,w1,w2,k1,d0]
    generalize hA1:AHeap.set _ J'.next _=A1
    obtain⟨f1,f2,f3,f4⟩:=pre A1 hA1.symm
    clear hA1
    refine AInv.retK B38 (writeString_ok B (hbl A1 f4) (by omega)) (fun v A2 hq=>?_) (fun v A2 hq=>by cases hq.1)
    obtain⟨hv3,jb',hb',n1,n2,hf⟩:=hq
    cases hv3
    rw[←hstep]at hb'
    have g1:A2.get J'.next=_:=(hf _ (by omega) (by omega) hkj).trans f3
    simp (maxSteps:=400000) only[wF,storeA,reduceCtorEq,Nat.reduceAdd,Nat.reduceSub,Nat.reduceEqDiff,Nat.reduceLeDiff,Int.reduceToNat,Int.reduceLE,Int.reduceLT,Int.reduceAdd,Int.reduceNeg,Nat.reduceMul,T15,roundA,g1]
    refine hcase .und A2 jb' (by omega) g1 ?_ ?_ hb' ⟨n2,by omega⟩ (fun j hj=>?_)
    ·rw[hf _ (by omega) (by omega) hij.1,f4 _ (by omega) (by omega)];exact k2
    ·rw[hf _ (by omega) (by omega) hij.2,f4 _ (by omega) (by omega)];exact k3
    ·rw[hf _ (by omega) (by omega) (by omega),f4 _ (by omega) (by omega)];exact k8 j hj
   ·have d0:((y.kind:Int)==3)=false:=by rw[beq_eq_false_iff_ne];omega
    rw[if_neg hy3,List.append_nil]at hstep
    subst hbA
    simp (maxSteps:=400000) only[wF,storeA,reduceCtorEq,Nat.reduceAdd,Nat.reduceSub,Nat.reduceEqDiff,Nat.reduceLeDiff,Int.reduceToNat,Int.reduceLE,Int.reduceLT,Int.reduceAdd,Int.reduceNeg,Nat.reduceMul,T15,putsA,w1,w2,k1,d0,roundA]
    generalize hA1:AHeap.set (AHeap.set _ A.next _) J'.next _=A1
    obtain⟨f1,f2,f3,f4⟩:=pre A1 hA1.symm
    clear hA1
    refine hcase .und A1 jb (by omega) f3 ?_ ?_ (hstep▸hbl A1 f4) ⟨by omega,k10⟩ (fun j hj=>?_)
    ·rw[f4 _ (by omega) (by omega)];exact k2
    ·rw[f4 _ (by omega) (by omega)];exact k3
    ·rw[f4 _ (by omega) (by omega)];exact k8 j hj
  case hfin=>
   rintro r A ⟨rfl,k1,k2,k3,⟨jb,k4,k9,k10⟩,k5,k6,k7,k8⟩
   refine .inl ⟨k1,?_⟩
   subst hbA
   simp (maxSteps:=400000) only[wF,storeA,reduceCtorEq,Nat.reduceAdd,Nat.reduceSub,Nat.reduceEqDiff,Nat.reduceLeDiff,Int.reduceToNat,Int.reduceLE,Int.reduceLT,Int.reduceAdd,Int.reduceNeg,Nat.reduceMul,T15]
   have hkj:J'.next≠jb:=by
    intro e
    obtain⟨b0,_,_,e2⟩:=k4
    rw[←e,k1]at e2
    cases e2
   have hbd:BldAt (A.del J'.next) X2.next jb (textTo l node (stopN l node l.length (node+1))):=by
    obtain⟨b0,hb0,e1,e2⟩:=k4
    exact⟨b0,hb0,by rw[AHeap.get_del_ne _ (by omega)];exact e1,by rw[AHeap.get_del_ne _ (Ne.symm hkj)];exact e2⟩
   refine AInv.retK B.stringB (B.string _ _ _ _ hbd) (fun v A2 hq=>?_) (fun v A2 hq=>by cases hq.1)
   obtain⟨hv3,n2,hf⟩:=hq
   cases hv3
   simp (maxSteps:=400000) only[wF,storeA,reduceCtorEq,Nat.reduceAdd,Nat.reduceSub,Nat.reduceEqDiff,Nat.reduceLeDiff,Int.reduceToNat,Int.reduceLE,Int.reduceLT,Int.reduceAdd,Int.reduceNeg,Nat.reduceMul,T15]
   have fin:H.next≤A2.next∧∀j,j<H.next→A2.get j=H.get j:=⟨by rw[n2];simp only[AHeap.next_del];omega,fun j hj=>by rw[hf,AHeap.get_del_ne _ (by omega),AHeap.get_del_ne _ (by omega)];exact k8 j hj⟩
   first | exact⟨rfl,fin⟩ | exact fin
end Go.Ab
