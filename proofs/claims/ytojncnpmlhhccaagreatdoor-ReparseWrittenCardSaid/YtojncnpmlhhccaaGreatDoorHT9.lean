/- tree.Check of a valid tree, walked. -/
import Derived.Test.YtojncnpmlhhccaaGreatDoorHTB
set_option linter.all false
namespace Go.Ab
open Go Go.Lib Go.Proofs
def depN (l:List Nd):Nat→Nat→Nat
 | 0,_=>1
 | f+1,i=>if i=0 then 1 else depN l f (l.getD i nd0).up.toNat+1
def lastN (l:List Nd) (u:Nat):Nat→Nat
 | 0=>0
 | i+1=>if 1≤i∧(l.getD i nd0).up=(u:Int)then i else lastN l u i
theorem depN_fuel {l:List Nd}:∀{f g i:Nat},UpOk l i→i≤f→i≤g→depN l f i=depN l g i
 | 0,g,i,h,hf,hg=>by
  have:i=0:=by omega
  subst this
  cases g with
  | zero=>rfl
  | succ g=>simp[depN]
 | f+1,0,i,h,hf,hg=>by
  have:i=0:=by omega
  subst this
  simp[depN]
 | f+1,g+1,i,h,hf,hg=>by
  simp only[depN]
  split
  ·rfl
  ·rename_i hi
   have:=h i (by omega) (Nat.le_refl _)
   have e:=depN_fuel (l:=l) (f:=f) (g:=g) (i:=(l.getD i nd0).up.toNat) (fun k k1 k2=>h k k1 (by omega)) (by omega) (by omega)
   rw[e]
theorem depN_step {l:List Nd} {i:Nat} (h:UpOk l i) (hi:0<i):depN l i i=depN l (l.getD i nd0).up.toNat (l.getD i nd0).up.toNat+1:=by
 have:=h i hi (Nat.le_refl _)
 obtain⟨j,rfl⟩:∃j,i=j+1:=⟨i-1,by omega⟩
 conv=>lhs;rw[depN]
 rw[if_neg (by omega),depN_fuel (fun k k1 k2=>h k k1 (by omega)) (by omega) (Nat.le_refl _)]
theorem depN_le (l:List Nd):∀(f i:Nat),depN l f i≤f+1
 | 0,i=>Nat.le_refl _
 | f+1,i=>by
  simp only[depN]
  split
  ·omega
  ·have:=depN_le l f (l.getD i nd0).up.toNat
   omega
theorem lastN_lt (l:List Nd) (u:Nat):∀(i:Nat),lastN l u i≤i-1
 | 0=>Nat.le_refl _
 | i+1=>by
  simp only[lastN]
  split
  ·omega
  ·have:=lastN_lt l u i
   omega
structure ValidN (l:List Nd):Prop where
 len0:1≤l.length
 len:l.length≤65536
 up0:(l.getD 0 nd0).up = -1
 kind:∀i,i<l.length→(l.getD i nd0).kind≤5
 allowed:∀i,i<l.length→allowedS (l.getD i nd0).kind (l.getD i nd0).name (l.getD i nd0).text=true
 bound:∀i,i<l.length→(l.getD i nd0).name.length≤1000000000∧(l.getD i nd0).text.length≤1000000000
 up:∀i,0<i→i<l.length→0≤(l.getD i nd0).up∧(l.getD i nd0).up<i
 above:∀i,0<i→i<l.length→aboveN l (l.getD i nd0).up.toNat (i-1)=true
 doc:∀i,0<i→i<l.length→(l.getD i nd0).kind≠0
 placed:∀i,0<i→i<l.length→placedN l i (lastN l (l.getD i nd0).up.toNat i)=true
 deep:∀i,0<i→i<l.length→(l.getD i nd0).kind≠2→depN l i i≤200
theorem ValidN.upOk {l:List Nd} (h:ValidN l) {i:Nat} (hi:i<l.length):UpOk l i:=fun k k1 k2=>h.up k k1 (by omega)
theorem t_allowed_ok {G:Nat→Option (List AV)} (E:Env G) (X:EnvH G) (T:EnvT G) {kind:Nat} {name text:List UInt8} (hk:kind≤5) (hn:name.length≤1000000000) (ht:text.length≤1000000000) (h:allowedS kind name text=true) :
  PureCall Tryz.prog G 56 [.int .i64 kind,.str name,.str text] (.bool true):=by
 have h0:=h
 match kind,hk with
 | 0,_=>rw[←h];exact t_allowed0_ok E ht
 | 1,_=>
  have ht0:text=[]:=by
   simp only[allowedS,Bool.and_eq_true,beq_iff_eq]at h
   exact h.2.2
  subst ht0
  rw[←h];exact t_allowed1_ok E hn ht
 | 2,_=>rw[←h];exact t_allowed2_ok E hn ht
 | 3,_=>rw[←h];exact t_allowed3_ok E ht
 | 4,_=>
  have hn0:name=[]:=by
   simp only[allowedS,Bool.and_eq_true,beq_iff_eq]at h
   exact h.2.1.1
  subst hn0
  rw[←h];exact t_allowed4_ok E X T ht
 | 5,_=>rw[←h];exact t_allowed5_ok E X T hn ht
def ChkAt (l:List Nd) (H:AHeap) (x:Nat × List AV × List AV × AHeap):Prop:=
 x.1≤l.length∧x.2.1.length=l.length∧x.2.2.1.length=l.length∧(∀u,u<l.length→x.2.1[u]?=some (.int .i64 (lastN l u x.1)))∧(∀k,k<l.length→k<x.1∨k=0→x.2.2.1[k]?=some (.int .i64 (depN l k k))) ∧
 x.2.2.2.get H.next=some (.cells 25 [.lst l.length (ndsH l)])∧x.2.2.2.get (H.next+1)=some (.row 3 1 x.2.1)∧x.2.2.2.get (H.next+2)=some (.row 3 1 x.2.2.1)∧H.next+3≤x.2.2.2.next∧∀j,j<H.next→x.2.2.2.get j=H.get j
set_option maxHeartbeats 8000000 in
set_option maxRecDepth 100000 in
theorem t_Check_ok {G:Nat→Option (List AV)} (E:Env G) (X:EnvH G) (T:EnvT G) {l:List Nd} (hv:ValidN l):PureCall Tryz.prog G 21 [.agg [.lst l.length (ndsH l)]] (.int .i64 0):=by
 intro H
 refine ACalls.keep (ACalls.of Tryz.func21 S21_eq R21 N21 rfl rfl ?_)
 have l0:=hv.len0
 have l1:=hv.len
 have d1:decide ((l.length:Int)<1)=false:=by simp;omega
 have d2:decide ((l.length:Int)>65536)=false:=by simp;omega
 have q0:((0:Int)<(l.length:Int))=True:=by simp;omega
 have g3:=ndsH_get l 0 3 (by omega) (by omega)
 have hx0:=nd_getD (l:=l) (i:=0) (by omega)
 have hup0:=hv.up0
 rw[←hx0]at g3
 simp only[ndH,List.getElem?_cons_zero,List.getElem?_cons_succ,hup0,Nat.zero_mul,Nat.zero_add]at g3
 have n1:((-1:Int) != -1)=false:=rfl
 have m1:((0:Int)≤(l.length:Int))=True:=by simp
 have m2:((l.length:Int)≤(maxApp:Int))=True:=by simp[maxApp];omega
 have u1:(H.next=H.next+1)=False:=by simp
 have u2:(H.next+1=H.next)=False:=by simp
 have u3:(H.next=H.next+2)=False:=by simp
 have u4:(H.next+1=H.next+2)=False:=by simp
 simp (maxSteps:=400000) only[wF,storeA,reduceCtorEq,Nat.reduceAdd,Nat.reduceSub,Nat.reduceEqDiff,Nat.reduceLeDiff,Int.reduceToNat,Int.reduceLE,Int.reduceLT,Int.reduceAdd,Int.reduceNeg,Nat.reduceMul,S21,N21,R21,T21,AV.boxable,d1,d2,q0,g3,n1,indexAddrA,makeA,m1,m2,u1,u2,u3,u4,Int.toNat_natCast,Int.le_refl]
 have zl:∀(z:AV) (n:Nat),zerosA [z] n=List.replicate n z:=fun z n=>by
  induction n with
  | zero=>rfl
  | succ n ih=>simp only[zerosA,ih,List.cons_append,List.nil_append,List.replicate_succ]
 rw[zl]
 refine⟨by simp;omega,?_⟩
 generalize hX0:AHeap.set _ (H.next+1+1) _=X0
 have x0:X0.get H.next=some (.cells 25 [.lst l.length (ndsH l)]):=by rw[←hX0,AHeap.get_set_ne _ _ (by omega),AHeap.get_allocAt_ne _ _ (by omega),AHeap.get_allocAt_ne _ _ (by omega),AHeap.get_allocAt_same]
 have x1:X0.get (H.next+1)=some (.row 3 1 (List.replicate l.length (.int .i64 0))):=by rw[←hX0,AHeap.get_set_ne _ _ (by omega),AHeap.get_allocAt_ne _ _ (by omega),AHeap.get_allocAt_same]
 have x2:X0.get (H.next+2)=some (.row 3 1 ((List.replicate l.length (.int .i64 0)).set 0 (.int .i64 1))):=by rw[←hX0,AHeap.get_set_same]
 have xn:X0.next=H.next+3:=by rw[←hX0];simp only[AHeap.next_set,AHeap.next_allocAt];omega
 have xo:∀j,j<H.next→X0.get j=H.get j:=fun j hj=>by rw[←hX0,AHeap.get_set_ne _ _ (by omega),AHeap.get_allocAt_ne _ _ (by omega),AHeap.get_allocAt_ne _ _ (by omega),AHeap.get_allocAt_ne _ _ (by omega)]
 clear hX0
 refine ATrS.loopK (κ:=Nat × List AV × List AV × AHeap) (fun c=>[.und,.ptr H.next 0,.und,.slc (H.next+1) l.length,.slc (H.next+2) l.length]++List.replicate 31 .und++[.lst l.length (ndsH l),.int .i64 l.length,.int .i64 c.1]++List.replicate 73 .und) (fun c=>c.2.2.2)
  (ChkAt l H) (fun c=>l.length-c.1) ⟨(0,_,_,X0),⟨Nat.zero_le _,List.length_replicate,by rw[List.length_set,List.length_replicate],?_,?_,x0,x1,x2,by simp only;omega,xo⟩,by simp[Fg],HW.refl _⟩ ?_
 ·intro u hu
  simp only[List.getElem?_replicate,if_pos hu]
  rfl
 ·intro k hk h
  have:k=0:=by rcases h with h | h;simp only at h;omega;exact h
  subst this
  simp only
  rw[List.getElem?_set_self (by rw[List.length_replicate];exact hk)]
  rfl
 clear x0 x1 x2 xo xn
 rintro⟨i,ll,dl,J⟩ ⟨hi,hll,hdl,hlast,hdeep,gc,gl,gd,hn,hJ⟩
 simp only at hi hll hdl hlast hdeep gc gl gd hn hJ
 by_cases hlt:i<l.length
 case neg=>
  have d3:decide ((i:Int)<(l.length:Int))=false:=by simp;omega
  simp (maxSteps:=400000) only[wF,storeA,reduceCtorEq,Nat.reduceAdd,Nat.reduceSub,Nat.reduceEqDiff,Nat.reduceLeDiff,Int.reduceToNat,Int.reduceLE,Int.reduceLT,Int.reduceAdd,Int.reduceNeg,Nat.reduceMul,T21,d3]
  first | exact⟨rfl,by omega,hJ⟩ | exact⟨by omega,hJ⟩
 have d3:decide ((i:Int)<(l.length:Int))=true:=by simp;omega
 have q1:((i:Int)<(l.length:Int))=True:=by simp;omega
 have hat:=ndsH_at l i hlt
 have hxe:=nd_getD hlt
 rw[←hxe]at hat
 have hle:(i*4+4≤(ndsH l).length)=True:=by rw[ndsH_len];simp;omega
 have v1:=hv.kind i hlt
 have v2:=hv.allowed i hlt
 have v3:=hv.bound i hlt
 have v4:=hv.up i
 have v5:=hv.above i
 have v6:=hv.doc i
 have v7:=hv.placed i
 have v8:=hv.deep i
 have v9:=@depN_step l i (hv.upOk hlt)
 have hpl:=@t_placed_ok G l i
 generalize hlx:l.getD i nd0=x at hat hxe v1 v2 v3 v4 v5 v6 v7 v8 v9 hpl
 simp only[ndH]at hat
 have ew:IntKind.i64.wrap ((i:Int)+1)=((i+1:Nat):Int):=by rw[wrap64]<;>omega
 simp (maxSteps:=400000) only[wF,storeA,reduceCtorEq,Nat.reduceAdd,Nat.reduceSub,Nat.reduceEqDiff,Nat.reduceLeDiff,Int.reduceToNat,Int.reduceLE,Int.reduceLT,Int.reduceAdd,Int.reduceNeg,Nat.reduceMul,T21,d3,q1,hat,hle,indexAddrA,AV.boxable]
 generalize hX1:AHeap.set _ J.next _=X1
 have y0:X1.get J.next=some (.cells 36 [.int .i64 x.kind,.str x.name,.str x.text,.int .i64 x.up]):=by rw[←hX1,AHeap.get_set_same]
 have yc:X1.get H.next=some (.cells 25 [.lst l.length (ndsH l)]):=by rw[←hX1,AHeap.get_set_ne _ _ (by omega),AHeap.get_allocAt_ne _ _ (by omega)];exact gc
 have yl:X1.get (H.next+1)=some (.row 3 1 ll):=by rw[←hX1,AHeap.get_set_ne _ _ (by omega),AHeap.get_allocAt_ne _ _ (by omega)];exact gl
 have yd:X1.get (H.next+2)=some (.row 3 1 dl):=by rw[←hX1,AHeap.get_set_ne _ _ (by omega),AHeap.get_allocAt_ne _ _ (by omega)];exact gd
 have yn:X1.next=J.next+1:=by rw[←hX1];simp only[AHeap.next_set,AHeap.next_allocAt];omega
 have yo:∀j,j<H.next→X1.get j=H.get j:=fun j hj=>by rw[←hX1,AHeap.get_set_ne _ _ (by omega),AHeap.get_allocAt_ne _ _ (by omega)];exact hJ j hj
 clear hX1
 refine AInv.pureK B56 (t_allowed_ok E X T v1 v3.1 v3.2 v2) fun H1 h1=>?_
 have p1:=h1.1
 have w0:=(congrFun h1.2 _).trans y0
 have wc:=(congrFun h1.2 _).trans yc
 have wl:=(congrFun h1.2 _).trans yl
 have wd:=(congrFun h1.2 _).trans yd
 have wo:∀j,j<H.next→H1.get j=H.get j:=fun j hj=>(congrFun h1.2 _).trans (yo j hj)
 by_cases hi0:i=0
 ·subst hi0
  have z00:(((0:Nat):Int)==0)=true:=rfl
  simp (maxSteps:=400000) only[wF,storeA,reduceCtorEq,Nat.reduceAdd,Nat.reduceSub,Nat.reduceEqDiff,Nat.reduceLeDiff,Int.reduceToNat,Int.reduceLE,Int.reduceLT,Int.reduceAdd,Int.reduceNeg,Nat.reduceMul,T21,Bool.not_true,ew,z00]
  refine⟨(1,ll,dl,H1),⟨hlt,hll,hdl,hlast,fun k hk h=>?_,wc,wl,wd,by simp only;omega,wo⟩,by simp only;omega,by simp[Fg],HW.refl _⟩
  have:k=0:=by rcases h with h | h;simp only at h;omega;exact h
  exact hdeep k hk (.inr this)
 have hip:0<i:=by omega
 obtain⟨c1,c2⟩:=v4 hip hlt
 obtain⟨u,hue⟩:∃u:Nat,x.up=u:=⟨x.up.toNat,by omega⟩
 have hut:x.up.toNat=u:=by omega
 rw[hue]at w0
 have hui:u<i:=by omega
 have hul:u<l.length:=by omega
 have e0:((i:Int)==0)=false:=by rw[beq_eq_false_iff_ne];omega
 have e1:decide ((u:Int)<0)=false:=by simp
 have e2:decide ((u:Int)≥(i:Int))=false:=by simp;omega
 have e3:IntKind.i64.wrap ((i:Int)-1)=((i-1:Nat):Int):=by rw[wrap64]<;>omega
 simp (maxSteps:=400000) only[wF,storeA,reduceCtorEq,Nat.reduceAdd,Nat.reduceSub,Nat.reduceEqDiff,Nat.reduceLeDiff,Int.reduceToNat,Int.reduceLE,Int.reduceLT,Int.reduceAdd,Int.reduceNeg,Nat.reduceMul,T21,Bool.not_true,w0,wc,e0,e1,e2,e3]
 have hab:=t_above_ok G (l:=l) (a:=u) (i:=i-1) (by omega) (hv.upOk (by omega))
 rw[show aboveN l u (i-1)=true from hut▸v5 hip hlt]at hab
 refine AInv.pureK B36 hab fun H2 h2=>?_
 have p2:=h2.1
 have a0:=(congrFun h2.2 _).trans w0
 have ac:=(congrFun h2.2 _).trans wc
 have al:=(congrFun h2.2 _).trans wl
 have ad:=(congrFun h2.2 _).trans wd
 have ao:∀j,j<H.next→H2.get j=H.get j:=fun j hj=>(congrFun h2.2 _).trans (wo j hj)
 have e4:((x.kind:Int)==0)=false:=by rw[beq_eq_false_iff_ne];have:=v6 hip hlt;omega
 have hdu:dl[u]?=some (.int .i64 (depN l u u)):=hdeep u hul (.inl hui)
 have hlu:ll[u]?=some (.int .i64 (lastN l u i)):=hlast u hul
 have hdle:=depN_le l u u
 have e5:IntKind.i64.wrap (((depN l u u:Nat):Int)+1)=((depN l i i:Nat):Int):=by
  rw[v9 hip,hut,wrap64]<;>omega
 have qu:((u:Int)<(l.length:Int))=True:=by simp;omega
 have hu4:(J.next=H.next+2)=False:=by simp;omega
 have hu5:(H.next=H.next+2)=False:=by simp
 have hu6:(H.next+1=H.next+2)=False:=by simp
 have hdi:(i+1≤dl.length)=True:=by simp;omega
 simp (maxSteps:=400000) only[wF,storeA,reduceCtorEq,Nat.reduceAdd,Nat.reduceSub,Nat.reduceEqDiff,Nat.reduceLeDiff,Int.reduceToNat,Int.reduceLE,Int.reduceLT,Int.reduceAdd,Int.reduceNeg,Nat.reduceMul,T21,Bool.not_true,a0,ac,al,ad,e4,qu,hdu,e5,indexAddrA,Nat.mul_one,q1,hdi]
 generalize hX2:AHeap.set _ (H.next+2) _=X2
 have b0:X2.get J.next=some (.cells 36 [.int .i64 x.kind,.str x.name,.str x.text,.int .i64 u]):=by rw[←hX2,AHeap.get_set_ne _ _ (by omega)];exact a0
 have bc:X2.get H.next=some (.cells 25 [.lst l.length (ndsH l)]):=by rw[←hX2,AHeap.get_set_ne _ _ (by omega)];exact ac
 have bl:X2.get (H.next+1)=some (.row 3 1 ll):=by rw[←hX2,AHeap.get_set_ne _ _ (by omega)];exact al
 have bd:X2.get (H.next+2)=some (.row 3 1 (dl.set i (.int .i64 (depN l i i)))):=by rw[←hX2,AHeap.get_set_same]
 have bn:X2.next=H2.next:=by rw[←hX2];rfl
 have bo:∀j,j<H.next→X2.get j=H.get j:=fun j hj=>by rw[←hX2,AHeap.get_set_ne _ _ (by omega)];exact ao j hj
 clear hX2
 have hblt:=lastN_lt l u i
 have hpc:=hpl (before:=lastN l u i) hlt l1 ⟨by omega,by omega⟩ (by omega)
 rw[show placedN l i (lastN l u i)=true from hut▸v7 hip hlt]at hpc
 have hdi2:(dl.set i (.int .i64 (depN l i i):AV))[i]?=some (.int .i64 (depN l i i)):=List.getElem?_set_self (by omega)
 refine drawW_ok (ex:=false) mixedOrders L21_15_eq P21_15_eq ?_
 simp (maxSteps:=400000) only[wF,storeA,reduceCtorEq,Nat.reduceAdd,Nat.reduceSub,Nat.reduceEqDiff,Nat.reduceLeDiff,Int.reduceToNat,Int.reduceLE,Int.reduceLT,Int.reduceAdd,Int.reduceNeg,Nat.reduceMul,L21_15,T21,b0,bc,bl,bd,qu,hlu,indexAddrA,Nat.mul_one]
 refine callW.pure B57 hpc ?_
 have fin:∀(m:Nat) (X3:AHeap),X2.next≤m→X3.next=m→X3.get=X2.get→ChkAt l H (i+1,ll.set u (.int .i64 i),dl.set i (.int .i64 (depN l i i)),X3.set (H.next+1) (.row 3 1 (ll.set u (.int .i64 i)))):=by
  intro m X3 hm h3n h3
  refine⟨hlt,by simp only[List.length_set];exact hll,by simp only[List.length_set];exact hdl,fun v hvl=>?_,fun k hk h=>?_,?_,?_,?_,?_,fun j hj=>?_⟩
  ·simp only[lastN]
   by_cases hvu:v=u
   ·subst hvu
    rw[List.getElem?_set_self (by omega),if_pos ⟨hip,by rw[hlx];exact hue⟩]
   ·rw[List.getElem?_set_ne (Ne.symm hvu),if_neg (by rintro⟨_,h⟩;rw[hlx,hue]at h;omega)]
    exact hlast v hvl
  ·simp only at h ⊢
   by_cases hki:k=i
   ·subst hki;exact hdi2
   ·rw[List.getElem?_set_ne (Ne.symm hki)]
    exact hdeep k hk (by omega)
  ·simp only;rw[AHeap.get_set_ne _ _ (by omega),h3];exact bc
  ·simp only;rw[AHeap.get_set_same]
  ·simp only;rw[AHeap.get_set_ne _ _ (by omega),h3];exact bd
  ·simp only[AHeap.next_set];omega
  ·simp only;rw[AHeap.get_set_ne _ _ (by omega),h3];exact bo j hj
 have hui2:(u+1≤ll.length)=True:=by simp;omega
 by_cases hk2:x.kind=2
 ·have e6:((x.kind:Int) != 2)=false:=by rw[hk2];rfl
  simp (maxSteps:=400000) only[wF,storeA,reduceCtorEq,Nat.reduceAdd,Nat.reduceSub,Nat.reduceEqDiff,Nat.reduceLeDiff,Int.reduceToNat,Int.reduceLE,Int.reduceLT,Int.reduceAdd,Int.reduceNeg,Nat.reduceMul,T21,b0,bc,bl,bd,e6,Bool.not_true]
  intro m hm
  generalize hX3:(⟨m,X2.get⟩:AHeap)=X3
  have h3:X3.get=X2.get:=by rw[←hX3]
  have h3n:X3.next=m:=by rw[←hX3]
  have z0:=(congrFun h3 _).trans b0
  have zc:=(congrFun h3 _).trans bc
  have zl:=(congrFun h3 _).trans bl
  simp (maxSteps:=400000) only[wF,storeA,reduceCtorEq,Nat.reduceAdd,Nat.reduceSub,Nat.reduceEqDiff,Nat.reduceLeDiff,Int.reduceToNat,Int.reduceLE,Int.reduceLT,Int.reduceAdd,Int.reduceNeg,Nat.reduceMul,T21,z0,zc,zl,b0,bc,bl,qu,hui2,indexAddrA,Nat.mul_one,ew]
  exact⟨_,fin m X3 hm h3n h3,by simp only;omega,by simp[Fg],HW.refl _⟩
 ·have e6:((x.kind:Int) != 2)=true:=by simp;omega
  have e7:decide (((depN l i i:Nat):Int)>200)=false:=by have:=v8 hip hlt hk2;simp;omega
  simp (maxSteps:=400000) only[wF,storeA,reduceCtorEq,Nat.reduceAdd,Nat.reduceSub,Nat.reduceEqDiff,Nat.reduceLeDiff,Int.reduceToNat,Int.reduceLE,Int.reduceLT,Int.reduceAdd,Int.reduceNeg,Nat.reduceMul,T21,b0,bc,bl,bd,e6,e7,q1,hdi2,Bool.not_true,indexAddrA,Nat.mul_one]
  intro m hm
  generalize hX3:(⟨m,X2.get⟩:AHeap)=X3
  have h3:X3.get=X2.get:=by rw[←hX3]
  have h3n:X3.next=m:=by rw[←hX3]
  have z0:=(congrFun h3 _).trans b0
  have zc:=(congrFun h3 _).trans bc
  have zl:=(congrFun h3 _).trans bl
  simp (maxSteps:=400000) only[wF,storeA,reduceCtorEq,Nat.reduceAdd,Nat.reduceSub,Nat.reduceEqDiff,Nat.reduceLeDiff,Int.reduceToNat,Int.reduceLE,Int.reduceLT,Int.reduceAdd,Int.reduceNeg,Nat.reduceMul,T21,z0,zc,zl,b0,bc,bl,qu,hui2,indexAddrA,Nat.mul_one,ew]
  exact⟨_,fin m X3 hm h3n h3,by simp only;omega,by simp[Fg],HW.refl _⟩
end Go.Ab
