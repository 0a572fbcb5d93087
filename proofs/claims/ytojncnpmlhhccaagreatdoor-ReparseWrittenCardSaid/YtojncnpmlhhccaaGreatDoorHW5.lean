/- reparse's start tag, walked. -/
import Derived.Test.YtojncnpmlhhccaaGreatDoorHWA
set_option linter.all false
namespace Go.Ab
open Go Go.Lib Go.Proofs
def cntE (es:List (List UInt8 × Nat)):List (AV × AV):=es.map fun e=>(.str e.1,.int .i64 e.2)
def CntOk (es:List (List UInt8 × Nat)) (l:List (List UInt8 × List UInt8)):Prop:=(∀e∈es,1≤e.2∧e.2≤l.length)∧∀n,(es.any fun e=>e.1==n)=l.any fun a=>a.1==n
theorem findA_cnt (k:List UInt8):∀(es:List (List UInt8 × Nat)) (i:Nat),((es.any fun e=>e.1==k)=true→∃j c,findA (.str k) (cntE es) i=some (some (i+j,.int .i64 (c:Nat)))∧es[j]?=some (k,c))∧((es.any fun e=>e.1==k)=false→findA (.str k) (cntE es) i=some none)
 | [],i=>⟨fun h=>by simp at h,fun _=>rfl⟩
 | e::es,i=>by
  have ih:=findA_cnt k es (i+1)
  obtain⟨n,c⟩:=e
  simp only[cntE,List.map_cons,findA,keyEq,List.any_cons]at ih ⊢
  cases h:(k==n)with
  | true=>
   have hkn:k=n:=by simpa using h
   subst hkn
   exact⟨fun _=>⟨0,c,rfl,rfl⟩,fun h=>by simp at h⟩
  | false=>
   have hnk:(n==k)=false:=by
    rw[beq_eq_false_iff_ne]at h ⊢
    exact Ne.symm h
   rw[hnk,Bool.false_or]
   refine⟨fun h=>?_,fun h=>ih.2 h⟩
   obtain⟨j,c',h1,h2⟩:=ih.1 h
   exact⟨j+1,c',by simp only;rw[h1,show i+1+j=i+(j+1) by omega],by simpa using h2⟩
theorem cnt_step (k v:List UInt8) {es:List (List UInt8 × Nat)} {l:List (List UInt8 × List UInt8)} (h:CntOk es l) :
  ((l.any fun a=>a.1==k)=true→∃(j c:Nat) (es':List (List UInt8 × Nat)),findA (.str k) (cntE es) 0=some (some (j,.int .i64 (c:Nat)))∧1≤c∧c≤l.length∧(cntE es).set j (.str k,.int .i64 ((c+1:Nat):Int))=cntE es'∧CntOk es' (l++[(k,v)])) ∧
  ((l.any fun a=>a.1==k)=false→findA (.str k) (cntE es) 0=some none∧∃es',cntE es++[(.str k,.int .i64 ((1:Nat):Int))]=cntE es'∧CntOk es' (l++[(k,v)])):=by
 obtain⟨h1,h2⟩:=h
 have hf:=findA_cnt k es 0
 rw[h2 k]at hf
 refine⟨fun hh=>?_,fun hh=>⟨hf.2 hh,es++[(k,1)],by simp[cntE],fun e he=>?_,fun n=>?_⟩⟩
 ·obtain⟨j,c,f1,f2⟩:=hf.1 hh
  have hc:=h1 _ (List.mem_of_getElem? f2)
  obtain⟨hjl,hje⟩:=List.getElem?_eq_some_iff.1 f2
  refine⟨j,c,es.set j (k,c+1),by rw[f1,Nat.zero_add],hc.1,hc.2,?_,fun e he=>?_,fun n=>?_⟩
  ·simp[cntE,List.map_set]
  ·rcases List.mem_or_eq_of_mem_set he with he | he
   ·have:=h1 e he
    simp only[List.length_append,List.length_cons,List.length_nil]
    omega
   ·rw[he]
    simp only[List.length_append,List.length_cons,List.length_nil]
    omega
  ·rw[List.any_append,←h2 n]
   have key:∀(es:List (List UInt8 × Nat)) (j:Nat),es[j]?=some (k,c)→((es.set j (k,c+1)).any fun e=>e.1==n)=es.any fun e=>e.1==n:=by
    intro es
    induction es with
    | nil=>intro j h;simp at h
    | cons e es ih=>
     intro j h
     cases j with
     | zero=>
      simp only[List.getElem?_cons_zero,Option.some.injEq]at h
      subst h
      simp
     | succ j=>
      simp only[List.set_cons_succ,List.any_cons]
      rw[ih j (by simpa using h)]
   rw[key es j f2]
   by_cases hkn:k=n
   ·subst hkn
    rw[h2 k,hh]
    simp
   ·have:(k==n)=false:=by simpa using hkn
    simp[this]
 ·rcases List.mem_append.1 he with he | he
  ·have:=h1 e he
   simp only[List.length_append,List.length_cons,List.length_nil]
   omega
  ·simp only[List.mem_singleton]at he
   subst he
   simp
 ·rw[List.any_append,List.any_append,h2 n]
  simp
def atJ (m:Nat) (l:List (List UInt8 × List UInt8)):AV:=if l=[]then .nils else .slc m l.length
def HStAt (s name:List UInt8) (k0:Nat) (H:AHeap) (xid mid:Nat) (x:Nat × List (List UInt8 × List UInt8) × Bool × List (List UInt8 × Nat) × Nat × AHeap):Prop:=
 x.1≤s.length∧tagHL s x.1 x.2.1 x.2.2.1=tagHL s k0 [] false∧x.2.1.length≤x.1∧x.2.2.2.2.2.get xid=some (.cells 88 [.int .i64 0,.str name,.str [],atJ x.2.2.2.2.1 x.2.1,.int .i64 0,.int .i64 0]) ∧
 x.2.2.2.2.2.get mid=some (.map (cntE x.2.2.2.1))∧CntOk x.2.2.2.1 x.2.1∧(x.2.1≠[]→x.2.2.2.2.2.get x.2.2.2.2.1=some (.row 132 2 (attrsH x.2.1))∧mid<x.2.2.2.2.1∧x.2.2.2.2.1<x.2.2.2.2.2.next) ∧
 mid<x.2.2.2.2.2.next∧∀j,j<H.next→x.2.2.2.2.2.get j=H.get j
theorem h_weak_refl (G:Nat→Option (List AV)) (a:List AV) (H:AHeap):Weak G a H a H:=fun C _ R hH=>⟨C,hH,R,Adv.refl C _,fun _ h=>h⟩
theorem atJ_app (m:Nat) (l:List (List UInt8 × List UInt8)) (a:List UInt8 × List UInt8):atJ m (l++[a]) = .slc m (l.length+1):=by
 unfold atJ
 rw[if_neg (by simp)]
 simp
theorem attrsH_app (l m:List (List UInt8 × List UInt8)):attrsH (l++m)=attrsH l++attrsH m:=by simp[attrsH]
theorem Tzs.app {k:Nat} {f:Nat→Option AV} {g:Option AV}:∀{xs ys:List AV},Tzs k f g xs ys→∀{us vs:List AV},Tzs k f g us vs→Tzs k f g (xs++us) (ys++vs)
 | [],[],_,_,_,h=>h
 | _::_,_::_,h,_,_,h'=>⟨h.1,Tzs.app h.2 h'⟩
theorem Weak.h_freezeIn {G:Nat→Option (List AV)} {H:AHeap} {j m:Nat} {e e2:TypeId} {size size2:Nat} {cs cm cm' a:List AV} (hj:H.get j=some (.row e size cs)) (hsz:0<size) (hm:H.get m=some (.row e2 size2 cm)) (hjm:m≠j)
  (hc:Tzs j (fun len=>some (.lst len cs)) none cm cm'):Weak G a H a ((H.del j).set m (.row e2 size2 cm')):=
 Weak.freeze hj hsz (Nat.le_refl _) (by simp[AHeap.get_del,AHeap.get_set,Ne.symm hjm]) (fun i=>by
  by_cases h:i=j
  ·exact .inr (.inl (by simp[AHeap.get_del,AHeap.get_set,h,Ne.symm hjm]))
  ·by_cases h2:i=m
   ·subst h2
    exact .inr (.inr ⟨_,.row e2 size2 cm',hm,by simp[AHeap.get_set],.row _ _ _ _ hc⟩)
   ·cases hg:H.get i with
    | none=>exact .inr (.inl (by simp[AHeap.get_del,AHeap.get_set,h,h2,hg]))
    | some o=>exact .inr (.inr ⟨o,o,rfl,by simp[AHeap.get_del,AHeap.get_set,h,h2,hg],.same o⟩)) (Tzs.refl _)
def startO (h:HSt):Except Nat (Option HSt):=
 match startHS h.s with
 | none => .ok none
 | some (x,k,tw)=>
  if tw=true then .error 4
  else if isVoidS x.name=true then .ok (some { h with s:=h.s.drop k,l:=h.l++[x,⟨1,x.name,[],[],0,0⟩] })
  else .ok (some { s:=h.s.drop k,l:=h.l++[x],opens:=h.opens++[x.name] })
set_option maxHeartbeats 8000000 in
set_option maxRecDepth 100000 in
theorem h_start_ok {G:Nat→Option (List AV)} (E:Env G) (B:EnvB G) (P:EnvP G) (X:EnvH G) {H:AHeap} {rid kl ko:Nat} {h:HSt} (hr:RdrAt H rid kl ko h) (hs:h.s.length≤900000000) (hne:h.s≠[]) (hl:h.l.length<10000000) (ho:h.opens.length<10000000) :
  ACalls Tryz.prog G 64 [.ptr rid 0] H (RdPost h H rid kl ko (startO h)):=by
 refine ACalls.wf fun wf=>?_
 refine ACalls.of Tryz.func64 S64_eq R64 N64 rfl rfl ?_
 have hr0:=hr
 obtain⟨a1,a2,a3,a4,a5,a6,a7,a8,a9⟩:=hr
 have hsl:h.s.length≠0:=fun e=>hne (List.length_eq_zero_iff.1 e)
 simp (maxSteps:=400000) only[wF,storeA,reduceCtorEq,Nat.reduceAdd,Nat.reduceSub,Nat.reduceEqDiff,Nat.reduceLeDiff,Int.reduceToNat,Int.reduceLE,Int.reduceLT,Int.reduceAdd,Int.reduceNeg,Nat.reduceMul,S64,N64,R64,T64]
 refine ATrS.loopK (κ:=Nat) (fun x=>[.ptr rid 0,.und,.und,.int .i64 x]++List.replicate 138 .und) (fun _=>H)
  (fun x=>1≤x∧x≤h.s.length∧x+uptoS (h.s.drop x) [32,62]=1+uptoS (h.s.drop 1) [32,62]) (fun x=>h.s.length-x) ⟨1,⟨Nat.le_refl _,by omega,rfl⟩,by simp[Fg],HW.refl _⟩ ?_
 rintro n ⟨hn1,hn,hu⟩
 have key:∀(c:UInt8),h.s[n]?=some c→h.s.getD n 0=c:=fun c hc=>by rw[List.getD_eq_getElem?_getD,hc];rfl
 have ew:IntKind.i64.wrap ((n:Int)+1)=((n+1:Nat):Int):=by rw[wrap64]<;>omega
 by_cases hlt:n<h.s.length∧[32,(62:UInt8)].contains (h.s.getD n 0)=false
 ·obtain⟨hlt,hc⟩:=hlt
  have d0:decide ((n:Int)<(h.s.length:Int))=true:=by simp;omega
  have hg:h.s[n]?=some h.s[n]:=List.getElem?_eq_getElem hlt
  rw[key _ hg]at hc
  rw[uptoS_step _ hlt,if_neg (by rw[hc];simp)]at hu
  generalize h.s[n]=c at hg hc
  simp only[List.contains,List.elem]at hc
  have e1:((c.toNat:Int) != 32)=true:=by
   rw[show(32:Int)=((32:Nat):Int)from rfl,h_byte_ne (by omega)]
   by_cases h:c=32
   ·subst h;simp at hc
   ·simpa using h
  have e2:((c.toNat:Int) != 62)=true:=by
   rw[show(62:Int)=((62:Nat):Int)from rfl,h_byte_ne (by omega)]
   by_cases h:c=62
   ·subst h;simp at hc
   ·simpa using h
  simp (maxSteps:=400000) only[wF,storeA,reduceCtorEq,Nat.reduceAdd,Nat.reduceSub,Nat.reduceEqDiff,Nat.reduceLeDiff,Int.reduceToNat,Int.reduceLE,Int.reduceLT,Int.reduceAdd,Int.reduceNeg,Nat.reduceMul,T64,a1,d0,hg,e1,e2,ew]
  exact⟨n+1,⟨by omega,hlt,by omega⟩,by omega,by simp[Fg],HW.refl _⟩
 have hun:1+uptoS (h.s.drop 1) [32,62]=n:=by
  rw[←hu]
  by_cases hl:n<h.s.length
  ·rw[uptoS_step _ hl,if_pos]
   ·rfl
   ·by_cases hc:[32,(62:UInt8)].contains h.s[n]=true
    ·exact hc
    ·exact absurd ⟨hl,by rw[key _ (List.getElem?_eq_getElem hl)];simpa using hc⟩ hlt
  ·rw[uptoS_end _ (by omega)]
   rfl
 have hx:(n=h.s.length∧decide ((n:Int)<(h.s.length:Int))=false)∨(n<h.s.length∧∃c,h.s[n]?=some c∧(((c.toNat:Int) != 32)=false∨((c.toNat:Int) != 32)=true∧((c.toNat:Int) != 62)=false)):=by
  by_cases hl:n<h.s.length
  ·right
   have hg:h.s[n]?=some h.s[n]:=List.getElem?_eq_getElem hl
   refine⟨hl,h.s[n],hg,?_⟩
   have hc:[32,(62:UInt8)].contains h.s[n]=true:=by
    by_cases hc:[32,(62:UInt8)].contains h.s[n]=true
    ·exact hc
    ·exact absurd ⟨hl,by rw[key _ hg];simpa using hc⟩ hlt
   rw[List.contains_iff_mem]at hc
   simp only[List.mem_cons,List.not_mem_nil,or_false]at hc
   generalize h.s[n]=c at hc
   rcases hc with rfl | rfl
   ·exact .inl rfl
   ·exact .inr ⟨rfl,rfl⟩
  ·exact .inl ⟨by omega,by simp;omega⟩
 have q1:((n:Int)≤(h.s.length:Int))=True:=by simp;omega
 have q0:((1:Int)≤(n:Int))=True:=by simp;omega
 clear hlt key ew hu
 rcases hx with ⟨hnl,d0⟩ | ⟨hnl,c,hg,e1 | ⟨e1,e2⟩⟩
 case' inl=>simp (maxSteps:=400000) only[wF,storeA,reduceCtorEq,Nat.reduceAdd,Nat.reduceSub,Nat.reduceEqDiff,Nat.reduceLeDiff,Int.reduceToNat,Int.reduceLE,Int.reduceLT,Int.reduceAdd,Int.reduceNeg,Nat.reduceMul,T64,a1,d0,q0,q1,buildA,fillA,AV.boxable]
 case' inr.inl=>have d0:decide ((n:Int)<(h.s.length:Int))=true:=by simp;omega
 case' inr.inl=>simp (maxSteps:=400000) only[wF,storeA,reduceCtorEq,Nat.reduceAdd,Nat.reduceSub,Nat.reduceEqDiff,Nat.reduceLeDiff,Int.reduceToNat,Int.reduceLE,Int.reduceLT,Int.reduceAdd,Int.reduceNeg,Nat.reduceMul,T64,a1,d0,hg,e1,q0,q1,buildA,fillA,AV.boxable]
 case' inr.inr=>have d0:decide ((n:Int)<(h.s.length:Int))=true:=by simp;omega
 case' inr.inr=>simp (maxSteps:=400000) only[wF,storeA,reduceCtorEq,Nat.reduceAdd,Nat.reduceSub,Nat.reduceEqDiff,Nat.reduceLeDiff,Int.reduceToNat,Int.reduceLE,Int.reduceLT,Int.reduceAdd,Int.reduceNeg,Nat.reduceMul,T64,a1,d0,hg,e1,e2,q0,q1,buildA,fillA,AV.boxable]
 all_goals
  generalize hX0:AHeap.set (AHeap.allocAt H H.next _) H.next _=X0
  have x0:X0.get H.next=some (.cells 88 [.int .i64 0,.str ((h.s.take n).drop 1),.str [],.nils,.int .i64 0,.int .i64 0]):=by rw[←hX0,AHeap.get_set_same]
  have xn0:X0.next=H.next+1:=by rw[←hX0];simp only[AHeap.next_set,AHeap.next_allocAt];omega
  have xo0:∀j,j<H.next→X0.get j=H.get j:=fun j hj=>by rw[←hX0,AHeap.get_set_ne _ _ (by omega),AHeap.get_allocAt_ne _ _ (by omega)]
  clear hX0
  have hS:startHS h.s=if isNameS ((h.s.take n).drop 1)=true then(match tagHL h.s n [] false with
    | none=>none
    | some (k2,l,tw)=>if Lib.hasPrefix (h.s.drop k2) [62]=true then some (⟨0,(h.s.take n).drop 1,[],l,0,0⟩,k2+1,tw)else none)else none:=by
   unfold startHS
   rw[hun]
   rfl
  have hnl:((h.s.take n).drop 1).length≤1000000000:=by simp only[List.length_drop,List.length_take];omega
  generalize (h.s.take n).drop 1=name at hS hnl x0 ⊢
  refine AInv.pureK B80 (isName_ok E hnl) fun H1 h1=>?_
  have m1:=h1.1
  have xo1:∀j,j<H.next→H1.get j=H.get j:=fun j hj=>by rw[h1.2];exact xo0 j hj
  have x1:=(congrFun h1.2 _).trans x0
  have fail:∀(J:AHeap),H.next≤J.next→(∀j,j<H.next→J.get j=H.get j)→startHS h.s=none→RdPost h H rid kl ko (startO h) (.ret (.bool false)) J:=fun J g1 g2 g3=>by
   unfold startO
   rw[g3]
   exact⟨rfl,hr0.keep ⟨g1,g2⟩⟩
  cases hnm:isNameS name with
  | false=>
   rw[hnm,if_neg (by simp)]at hS
   simp (maxSteps:=400000) only[wF,storeA,reduceCtorEq,Nat.reduceAdd,Nat.reduceSub,Nat.reduceEqDiff,Nat.reduceLeDiff,Int.reduceToNat,Int.reduceLE,Int.reduceLT,Int.reduceAdd,Int.reduceNeg,Nat.reduceMul,T64,Bool.not_false]
   exact fail _ (by omega) xo1 hS
  | true=>
  rw[hnm,if_pos rfl]at hS
  simp (maxSteps:=400000) only[wF,storeA,reduceCtorEq,Nat.reduceAdd,Nat.reduceSub,Nat.reduceEqDiff,Nat.reduceLeDiff,Int.reduceToNat,Int.reduceLE,Int.reduceLT,Int.reduceAdd,Int.reduceNeg,Nat.reduceMul,T64,Bool.not_true]
  generalize hX1:AHeap.allocAt H1 H1.next _=X1
  have y0:X1.get H.next=some (.cells 88 [.int .i64 0,.str name,.str [],.nils,.int .i64 0,.int .i64 0]):=by rw[←hX1,AHeap.get_allocAt_ne _ _ (by omega)];exact x1
  have y1:X1.get H1.next=some (.map []):=by rw[←hX1,AHeap.get_allocAt_same]
  have yn:X1.next=H1.next+1:=by rw[←hX1];simp only[AHeap.next_allocAt];omega
  have yo:∀j,j<H.next→X1.get j=H.get j:=fun j hj=>by rw[←hX1,AHeap.get_allocAt_ne _ _ (by omega)];exact xo1 j hj
  clear hX1
  refine ATrS.loopK (κ:=Nat × List (List UInt8 × List UInt8) × Bool × List (List UInt8 × Nat) × Nat × AHeap) (fun x=>[.ptr rid 0,.und,.und,.int .i64 x.1,.ptr H.next 0,.map H1.next,.bool x.2.2.1]++List.replicate 135 .und) (fun x=>x.2.2.2.2.2)
   (HStAt h.s name n H H.next H1.next) (fun x=>h.s.length-x.1) ⟨(n,[],false,[],0,X1),⟨hn,rfl,Nat.zero_le _,y0,y1,⟨by simp,by simp⟩,fun h=>absurd rfl h,by simp only;omega,yo⟩,by simp[Fg],HW.refl _⟩ ?_
  clear y0 y1 yn yo x0 x1 xo1
  rintro⟨k,l,tw,es,m,J⟩ ⟨hk,ht,hlk,gx,gm,hc,gl,gn,fJ⟩
  simp only at hk ht hlk gx gm hc gl gn fJ
  have hst:=tagHL_step h.s k l tw
  rw[ht]at hst
  have b1:=(fJ _ a7).trans a1
  have q2:((k:Int)≤(h.s.length:Int))=True:=by simp;omega
  have q3:((0:Int)≤(k:Int))=True:=by simp
  simp (maxSteps:=400000) only[wF,storeA,reduceCtorEq,Nat.reduceAdd,Nat.reduceSub,Nat.reduceEqDiff,Nat.reduceLeDiff,Int.reduceToNat,Int.reduceLE,Int.reduceLT,Int.reduceAdd,Int.reduceNeg,Nat.reduceMul,T64,b1,q2,q3]
  refine AInv.pureK E.hasPreB (E.hasPre _ _) fun J1 j1=>?_
  have p1:=j1.1
  have c1:=(congrFun j1.2 _).trans b1
  have gx1:=(congrFun j1.2 _).trans gx
  have gm1:=(congrFun j1.2 _).trans gm
  cases hp32:Lib.hasPrefix (h.s.drop k) [32]with
  | true=>
   have hpl:=hasPrefix_len hp32
   simp only[List.length_cons,List.length_nil,List.length_drop]at hpl
   rw[hp32,if_pos rfl]at hst
   have e1:IntKind.i64.wrap ((k:Int)+1)=((k+1:Nat):Int):=by rw[wrap64]<;>omega
   have q4:(((k+1:Nat):Int)≤(h.s.length:Int))=True:=by simp;omega
   have q5:((0:Int)≤((k+1:Nat):Int))=True:=by simp;omega
   simp (maxSteps:=400000) only[wF,storeA,reduceCtorEq,Nat.reduceAdd,Nat.reduceSub,Nat.reduceEqDiff,Nat.reduceLeDiff,Int.reduceToNat,Int.reduceLE,Int.reduceLT,Int.reduceAdd,Int.reduceNeg,Nat.reduceMul,T64,c1,e1,q4,q5]
   refine AInv.retK B100 (h_attribute_ok E B P X (by simp only[List.length_drop];omega) J1) (fun v J2 hq=>?_) (fun v J2 hq=>by cases hq.1)
   obtain⟨hq,hJ2⟩:=hq
   cases hq
   have p2:=hJ2.1
   have c2:=(hJ2.2 _ (by omega)).trans c1
   have gx2:=(hJ2.2 _ (by omega)).trans gx1
   have gm2:=(hJ2.2 _ (by omega)).trans gm1
   have hab:=fun h'=>attrHS_bound (s:=h.s.drop (k+1)) h'
   simp only[List.length_drop]at hab
   generalize attrHS (h.s.drop (k+1))=A at hst hab ⊢
   obtain⟨⟨an,av⟩,ln,ok⟩:=A
   simp only at hst hab ⊢
   cases ok with
   | false=>
    rw[if_neg (by simp)]at hst
    rw[hst]at hS
    simp (maxSteps:=400000) only[wF,storeA,reduceCtorEq,Nat.reduceAdd,Nat.reduceSub,Nat.reduceEqDiff,Nat.reduceLeDiff,Int.reduceToNat,Int.reduceLE,Int.reduceLT,Int.reduceAdd,Int.reduceNeg,Nat.reduceMul,T64,Bool.not_false,AV.boxable]
    refine fail _ ?_ (fun j hj=>?_) hS
    ·simp only[AHeap.next_set,AHeap.next_allocAt];omega
    ·rw[AHeap.get_set_ne _ _ (by omega),AHeap.get_allocAt_ne _ _ (by omega),hJ2.2 j (by omega),j1.2]
     exact fJ j hj
   | true=>
    rw[if_pos rfl]at hst
    have hab:=hab rfl
    obtain⟨s1,s2⟩:=cnt_step an av hc
    have f1:(J2.next=H.next)=False:=by simp;omega
    have f2:(J2.next=H1.next)=False:=by simp;omega
    have f3:(H.next=J2.next)=False:=by simp;omega
    have f4:(H1.next=J2.next)=False:=by simp;omega
    have f5:(H1.next=H.next)=False:=by simp;omega
    have f6:(H.next=H1.next)=False:=by simp;omega
    have e2:IntKind.i64.wrap (1+(ln:Int))=((1+ln:Nat):Int):=by rw[wrap64]<;>omega
    have e3:IntKind.i64.wrap ((k:Int)+((1+ln:Nat):Int))=((k+(1+ln):Nat):Int):=by rw[wrap64]<;>omega
    have dg0:decide ((0:Int)>0)=false:=by decide
    have e01:IntKind.i64.wrap 1=((1:Nat):Int):=by rw[wrap64]<;>omega
    have g1:(H.next=J2.next+1)=False:=by simp;omega
    have g2:(H1.next=J2.next+1)=False:=by simp;omega
    have g3:(H.next=J2.next+1+1)=False:=by simp;omega
    have g4:(H1.next=J2.next+1+1)=False:=by simp;omega
    rcases Bool.eq_false_or_eq_true (l.any fun a=>a.1==an)with hf | hf
    ·have hlne:l≠[]:=by rintro rfl;simp at hf
     obtain⟨j,c,es',hfind,w2,w3,w4,w5⟩:=s1 hf
     have dgc:decide ((c:Int)>0)=true:=by simp;omega
     have ec:IntKind.i64.wrap ((c:Int)+1)=((c+1:Nat):Int):=by rw[wrap64]<;>omega
     obtain⟨gr,gmm,gmn⟩:=gl hlne
     have gr2:=(hJ2.2 _ (by omega)).trans ((congrFun j1.2 _).trans gr)
     rw[show atJ m l = .slc m l.length from if_neg hlne]at gx2
     have v1:(J2.next+1==m)=false:=by simp;omega
     have v2:(m=J2.next)=False:=by simp;omega
     have v3:(m=H1.next)=False:=by simp;omega
     have v4:(m=H.next)=False:=by simp;omega
     have v5:(m=J2.next+1)=False:=by simp;omega
     have v6:(l.length+1≤maxApp)=True:=by simp[maxApp];omega
     have v7:(H.next=m)=False:=by simp;omega
     have v8:(H1.next=m)=False:=by simp;omega
     cases tw with
     | true=>
      simp (maxSteps:=400000) only[wF,storeA,reduceCtorEq,Nat.reduceAdd,Nat.reduceSub,Nat.reduceEqDiff,Nat.reduceLeDiff,Int.reduceToNat,Int.reduceLE,Int.reduceLT,Int.reduceAdd,Int.reduceNeg,Nat.reduceMul,T64,Bool.not_true,f1,f2,f3,f4,f5,f6,g1,g2,g3,g4,gx2,gm2,lookupA,updateA,keyT,entriesA,hfind,e2,e3,appendA,appSrc,AV.isSlc,sliceLit,fillA,zerosA,srcCells,AV.boxable,Nat.le_refl,Nat.reduceLT,attrsH_len,dgc,ec,gr2,v1,v2,v3,v4,v5,v6,v7,v8]
      refine⟨(k+(1+ln),l++[(an,av)],true,es',J2.next+1+1,_),⟨by simp only;omega,?_,?_,?_,?_,w5,fun _=>⟨?_,by simp only;omega,?_⟩,?_,fun j hj=>?_⟩,by simp only;omega,by simp[Fg],HW.refl _⟩
      ·show tagHL h.s (k+(1+ln)) (l++[(an,av)]) true=_
       rw[hst,←Nat.add_assoc,hf]
       rfl
      ·simp;omega
      ·show(AHeap.set _ _ _).get H.next=_
       rw[AHeap.get_set_same,atJ_app]
      ·show(AHeap.set _ _ _).get _=_
       rw[AHeap.get_set_ne _ _ (by omega),AHeap.get_allocAt_ne _ _ (by omega),AHeap.get_del_ne _ (by omega),AHeap.get_allocAt_ne _ _ (by omega),AHeap.get_set_same,w4]
      ·show(AHeap.set _ _ _).get (J2.next+1+1)=_
       rw[AHeap.get_set_ne _ _ (by omega),AHeap.get_allocAt_same,attrsH_app]
       rfl
      ·simp only[AHeap.next_set,AHeap.next_allocAt,AHeap.next_del];omega
      ·simp only[AHeap.next_set,AHeap.next_allocAt,AHeap.next_del];omega
      ·show(AHeap.set _ _ _).get _=_
       rw[AHeap.get_set_ne _ _ (by omega),AHeap.get_allocAt_ne _ _ (by omega),AHeap.get_del_ne _ (by omega),AHeap.get_allocAt_ne _ _ (by omega),AHeap.get_set_ne _ _ (by omega),AHeap.get_set_ne _ _ (by omega),AHeap.get_allocAt_ne _ _ (by omega),hJ2.2 j (by omega),j1.2]
       exact fJ j hj
     | false=>
      simp (maxSteps:=400000) only[wF,storeA,reduceCtorEq,Nat.reduceAdd,Nat.reduceSub,Nat.reduceEqDiff,Nat.reduceLeDiff,Int.reduceToNat,Int.reduceLE,Int.reduceLT,Int.reduceAdd,Int.reduceNeg,Nat.reduceMul,T64,Bool.not_true,f1,f2,f3,f4,f5,f6,g1,g2,g3,g4,gx2,gm2,lookupA,updateA,keyT,entriesA,hfind,e2,e3,appendA,appSrc,AV.isSlc,sliceLit,fillA,zerosA,srcCells,AV.boxable,Nat.le_refl,Nat.reduceLT,attrsH_len,dgc,ec,gr2,v1,v2,v3,v4,v5,v6,v7,v8]
      refine⟨(k+(1+ln),l++[(an,av)],true,es',J2.next+1+1,_),⟨by simp only;omega,?_,?_,?_,?_,w5,fun _=>⟨?_,by simp only;omega,?_⟩,?_,fun j hj=>?_⟩,by simp only;omega,by simp[Fg],HW.refl _⟩
      ·show tagHL h.s (k+(1+ln)) (l++[(an,av)]) true=_
       rw[hst,←Nat.add_assoc,hf]
       rfl
      ·simp;omega
      ·show(AHeap.set _ _ _).get H.next=_
       rw[AHeap.get_set_same,atJ_app]
      ·show(AHeap.set _ _ _).get _=_
       rw[AHeap.get_set_ne _ _ (by omega),AHeap.get_allocAt_ne _ _ (by omega),AHeap.get_del_ne _ (by omega),AHeap.get_allocAt_ne _ _ (by omega),AHeap.get_set_same,w4]
      ·show(AHeap.set _ _ _).get (J2.next+1+1)=_
       rw[AHeap.get_set_ne _ _ (by omega),AHeap.get_allocAt_same,attrsH_app]
       rfl
      ·simp only[AHeap.next_set,AHeap.next_allocAt,AHeap.next_del];omega
      ·simp only[AHeap.next_set,AHeap.next_allocAt,AHeap.next_del];omega
      ·show(AHeap.set _ _ _).get _=_
       rw[AHeap.get_set_ne _ _ (by omega),AHeap.get_allocAt_ne _ _ (by omega),AHeap.get_del_ne _ (by omega),AHeap.get_allocAt_ne _ _ (by omega),AHeap.get_set_ne _ _ (by omega),AHeap.get_set_ne _ _ (by omega),AHeap.get_allocAt_ne _ _ (by omega),hJ2.2 j (by omega),j1.2]
       exact fJ j hj
    ·obtain⟨hfind,es',w4,w5⟩:=s2 hf
     by_cases hlne:l=[]
     ·subst hlne
      rw[show atJ m [] = .nils from rfl]at gx2
      cases tw with
      | true=>
       simp (maxSteps:=400000) only[wF,storeA,reduceCtorEq,Nat.reduceAdd,Nat.reduceSub,Nat.reduceEqDiff,Nat.reduceLeDiff,Int.reduceToNat,Int.reduceLE,Int.reduceLT,Int.reduceAdd,Int.reduceNeg,Nat.reduceMul,T64,Bool.not_true,f1,f2,f3,f4,f5,f6,g1,g2,g3,g4,gx2,gm2,lookupA,updateA,keyT,entriesA,hfind,e2,e3,appendA,appSrc,AV.isSlc,sliceLit,fillA,zerosA,srcCells,AV.boxable,Nat.le_refl,Nat.reduceLT,attrsH_len,dg0,e01]
       refine⟨by simp[maxApp],(k+(1+ln),[(an,av)],true,es',J2.next+1+1,_),⟨by simp only;omega,?_,?_,?_,?_,w5,fun _=>⟨?_,by simp only;omega,?_⟩,?_,fun j hj=>?_⟩,by simp only;omega,by simp[Fg],HW.refl _⟩
       ·show tagHL h.s (k+(1+ln)) ([(an,av)]) true=_
        rw[hst,←Nat.add_assoc,hf]
        rfl
       ·simp;omega
       ·show(AHeap.set _ _ _).get H.next=_
        rw[AHeap.get_set_same]
        rfl
       ·show(AHeap.set _ _ _).get _=_
        rw[AHeap.get_set_ne _ _ (by omega),AHeap.get_allocAt_ne _ _ (by omega),AHeap.get_allocAt_ne _ _ (by omega),AHeap.get_set_same,w4]
       ·show(AHeap.set _ _ _).get (J2.next+1+1)=_
        rw[AHeap.get_set_ne _ _ (by omega),AHeap.get_allocAt_same]
        rfl
       ·simp only[AHeap.next_set,AHeap.next_allocAt,AHeap.next_del];omega
       ·simp only[AHeap.next_set,AHeap.next_allocAt,AHeap.next_del];omega
       ·show(AHeap.set _ _ _).get _=_
        rw[AHeap.get_set_ne _ _ (by omega),AHeap.get_allocAt_ne _ _ (by omega),AHeap.get_allocAt_ne _ _ (by omega),AHeap.get_set_ne _ _ (by omega),AHeap.get_set_ne _ _ (by omega),AHeap.get_allocAt_ne _ _ (by omega),hJ2.2 j (by omega),j1.2]
        exact fJ j hj
      | false=>
       simp (maxSteps:=400000) only[wF,storeA,reduceCtorEq,Nat.reduceAdd,Nat.reduceSub,Nat.reduceEqDiff,Nat.reduceLeDiff,Int.reduceToNat,Int.reduceLE,Int.reduceLT,Int.reduceAdd,Int.reduceNeg,Nat.reduceMul,T64,Bool.not_true,f1,f2,f3,f4,f5,f6,g1,g2,g3,g4,gx2,gm2,lookupA,updateA,keyT,entriesA,hfind,e2,e3,appendA,appSrc,AV.isSlc,sliceLit,fillA,zerosA,srcCells,AV.boxable,Nat.le_refl,Nat.reduceLT,attrsH_len,dg0,e01]
       refine⟨by simp[maxApp],(k+(1+ln),[(an,av)],false,es',J2.next+1+1,_),⟨by simp only;omega,?_,?_,?_,?_,w5,fun _=>⟨?_,by simp only;omega,?_⟩,?_,fun j hj=>?_⟩,by simp only;omega,by simp[Fg],HW.refl _⟩
       ·show tagHL h.s (k+(1+ln)) ([(an,av)]) false=_
        rw[hst,←Nat.add_assoc,hf]
        rfl
       ·simp;omega
       ·show(AHeap.set _ _ _).get H.next=_
        rw[AHeap.get_set_same]
        rfl
       ·show(AHeap.set _ _ _).get _=_
        rw[AHeap.get_set_ne _ _ (by omega),AHeap.get_allocAt_ne _ _ (by omega),AHeap.get_allocAt_ne _ _ (by omega),AHeap.get_set_same,w4]
       ·show(AHeap.set _ _ _).get (J2.next+1+1)=_
        rw[AHeap.get_set_ne _ _ (by omega),AHeap.get_allocAt_same]
        rfl
       ·simp only[AHeap.next_set,AHeap.next_allocAt,AHeap.next_del];omega
       ·simp only[AHeap.next_set,AHeap.next_allocAt,AHeap.next_del];omega
       ·show(AHeap.set _ _ _).get _=_
        rw[AHeap.get_set_ne _ _ (by omega),AHeap.get_allocAt_ne _ _ (by omega),AHeap.get_allocAt_ne _ _ (by omega),AHeap.get_set_ne _ _ (by omega),AHeap.get_set_ne _ _ (by omega),AHeap.get_allocAt_ne _ _ (by omega),hJ2.2 j (by omega),j1.2]
        exact fJ j hj
     ·obtain⟨gr,gmm,gmn⟩:=gl hlne
      have gr2:=(hJ2.2 _ (by omega)).trans ((congrFun j1.2 _).trans gr)
      rw[show atJ m l = .slc m l.length from if_neg hlne]at gx2
      have v1:(J2.next+1==m)=false:=by simp;omega
      have v2:(m=J2.next)=False:=by simp;omega
      have v3:(m=H1.next)=False:=by simp;omega
      have v4:(m=H.next)=False:=by simp;omega
      have v5:(m=J2.next+1)=False:=by simp;omega
      have v6:(l.length+1≤maxApp)=True:=by simp[maxApp];omega
      have v7:(H.next=m)=False:=by simp;omega
      have v8:(H1.next=m)=False:=by simp;omega
      cases tw with
      | true=>
       simp (maxSteps:=400000) only[wF,storeA,reduceCtorEq,Nat.reduceAdd,Nat.reduceSub,Nat.reduceEqDiff,Nat.reduceLeDiff,Int.reduceToNat,Int.reduceLE,Int.reduceLT,Int.reduceAdd,Int.reduceNeg,Nat.reduceMul,T64,Bool.not_true,f1,f2,f3,f4,f5,f6,g1,g2,g3,g4,gx2,gm2,lookupA,updateA,keyT,entriesA,hfind,e2,e3,appendA,appSrc,AV.isSlc,sliceLit,fillA,zerosA,srcCells,AV.boxable,Nat.le_refl,Nat.reduceLT,attrsH_len,dg0,e01,gr2,v1,v2,v3,v4,v5,v6,v7,v8]
       refine⟨(k+(1+ln),l++[(an,av)],true,es',J2.next+1+1,_),⟨by simp only;omega,?_,?_,?_,?_,w5,fun _=>⟨?_,by simp only;omega,?_⟩,?_,fun j hj=>?_⟩,by simp only;omega,by simp[Fg],HW.refl _⟩
       ·show tagHL h.s (k+(1+ln)) (l++[(an,av)]) true=_
        rw[hst,←Nat.add_assoc,hf]
        rfl
       ·simp;omega
       ·show(AHeap.set _ _ _).get H.next=_
        rw[AHeap.get_set_same,atJ_app]
       ·show(AHeap.set _ _ _).get _=_
        rw[AHeap.get_set_ne _ _ (by omega),AHeap.get_allocAt_ne _ _ (by omega),AHeap.get_del_ne _ (by omega),AHeap.get_allocAt_ne _ _ (by omega),AHeap.get_set_same,w4]
       ·show(AHeap.set _ _ _).get (J2.next+1+1)=_
        rw[AHeap.get_set_ne _ _ (by omega),AHeap.get_allocAt_same,attrsH_app]
        rfl
       ·simp only[AHeap.next_set,AHeap.next_allocAt,AHeap.next_del];omega
       ·simp only[AHeap.next_set,AHeap.next_allocAt,AHeap.next_del];omega
       ·show(AHeap.set _ _ _).get _=_
        rw[AHeap.get_set_ne _ _ (by omega),AHeap.get_allocAt_ne _ _ (by omega),AHeap.get_del_ne _ (by omega),AHeap.get_allocAt_ne _ _ (by omega),AHeap.get_set_ne _ _ (by omega),AHeap.get_set_ne _ _ (by omega),AHeap.get_allocAt_ne _ _ (by omega),hJ2.2 j (by omega),j1.2]
        exact fJ j hj
      | false=>
       simp (maxSteps:=400000) only[wF,storeA,reduceCtorEq,Nat.reduceAdd,Nat.reduceSub,Nat.reduceEqDiff,Nat.reduceLeDiff,Int.reduceToNat,Int.reduceLE,Int.reduceLT,Int.reduceAdd,Int.reduceNeg,Nat.reduceMul,T64,Bool.not_true,f1,f2,f3,f4,f5,f6,g1,g2,g3,g4,gx2,gm2,lookupA,updateA,keyT,entriesA,hfind,e2,e3,appendA,appSrc,AV.isSlc,sliceLit,fillA,zerosA,srcCells,AV.boxable,Nat.le_refl,Nat.reduceLT,attrsH_len,dg0,e01,gr2,v1,v2,v3,v4,v5,v6,v7,v8]
       refine⟨(k+(1+ln),l++[(an,av)],false,es',J2.next+1+1,_),⟨by simp only;omega,?_,?_,?_,?_,w5,fun _=>⟨?_,by simp only;omega,?_⟩,?_,fun j hj=>?_⟩,by simp only;omega,by simp[Fg],HW.refl _⟩
       ·show tagHL h.s (k+(1+ln)) (l++[(an,av)]) false=_
        rw[hst,←Nat.add_assoc,hf]
        rfl
       ·simp;omega
       ·show(AHeap.set _ _ _).get H.next=_
        rw[AHeap.get_set_same,atJ_app]
       ·show(AHeap.set _ _ _).get _=_
        rw[AHeap.get_set_ne _ _ (by omega),AHeap.get_allocAt_ne _ _ (by omega),AHeap.get_del_ne _ (by omega),AHeap.get_allocAt_ne _ _ (by omega),AHeap.get_set_same,w4]
       ·show(AHeap.set _ _ _).get (J2.next+1+1)=_
        rw[AHeap.get_set_ne _ _ (by omega),AHeap.get_allocAt_same,attrsH_app]
        rfl
       ·simp only[AHeap.next_set,AHeap.next_allocAt,AHeap.next_del];omega
       ·simp only[AHeap.next_set,AHeap.next_allocAt,AHeap.next_del];omega
       ·show(AHeap.set _ _ _).get _=_
        rw[AHeap.get_set_ne _ _ (by omega),AHeap.get_allocAt_ne _ _ (by omega),AHeap.get_del_ne _ (by omega),AHeap.get_allocAt_ne _ _ (by omega),AHeap.get_set_ne _ _ (by omega),AHeap.get_set_ne _ _ (by omega),AHeap.get_allocAt_ne _ _ (by omega),hJ2.2 j (by omega),j1.2]
        exact fJ j hj
  | false=>
   rw[hp32,if_neg (by simp)]at hst
   rw[hst]at hS
   simp only at hS
   simp (maxSteps:=400000) only[wF,storeA,reduceCtorEq,Nat.reduceAdd,Nat.reduceSub,Nat.reduceEqDiff,Nat.reduceLeDiff,Int.reduceToNat,Int.reduceLE,Int.reduceLT,Int.reduceAdd,Int.reduceNeg,Nat.reduceMul,T64,c1,q2,q3]
   refine AInv.pureK E.hasPreB (E.hasPre _ _) fun J3 j3=>?_
   have p3:=j3.1
   have c3:=(congrFun j3.2 _).trans c1
   have gx3:=(congrFun j3.2 _).trans gx1
   have fJ3:∀j,j<H.next→J3.get j=H.get j:=fun j hj=>by rw[j3.2,j1.2];exact fJ j hj
   cases hp62:Lib.hasPrefix (h.s.drop k) [62]with
   | false=>
    rw[hp62,if_neg (by simp)]at hS
    simp (maxSteps:=400000) only[wF,storeA,reduceCtorEq,Nat.reduceAdd,Nat.reduceSub,Nat.reduceEqDiff,Nat.reduceLeDiff,Int.reduceToNat,Int.reduceLE,Int.reduceLT,Int.reduceAdd,Int.reduceNeg,Nat.reduceMul,T64,Bool.not_false]
    exact fail _ (by omega) fJ3 hS
   | true=>
   have hpl:=hasPrefix_len hp62
   simp only[List.length_cons,List.length_nil,List.length_drop]at hpl
   rw[hp62,if_pos rfl]at hS
   cases tw with
   | true=>
    simp (maxSteps:=400000) only[wF,storeA,reduceCtorEq,Nat.reduceAdd,Nat.reduceSub,Nat.reduceEqDiff,Nat.reduceLeDiff,Int.reduceToNat,Int.reduceLE,Int.reduceLT,Int.reduceAdd,Int.reduceNeg,Nat.reduceMul,T64,Bool.not_true,buildA,fillA,ifaceA,AV.boxable]
    unfold startO
    rw[hS]
    exact⟨rfl,by omega,fun j hj _ _ _=>fJ3 j hj⟩
   | false=>
   simp (maxSteps:=400000) only[wF,storeA,reduceCtorEq,Nat.reduceAdd,Nat.reduceSub,Nat.reduceEqDiff,Nat.reduceLeDiff,Int.reduceToNat,Int.reduceLE,Int.reduceLT,Int.reduceAdd,Int.reduceNeg,Nat.reduceMul,T64,Bool.not_true]
   have k3:=(fJ3 _ a8).trans a2
   have o3:=(fJ3 _ a9).trans a3
   have e1:IntKind.i64.wrap ((k:Int)+1)=((k+1:Nat):Int):=by rw[wrap64]<;>omega
   have q4:(((k+1:Nat):Int)≤(h.s.length:Int))=True:=by simp;omega
   have q5:((0:Int)≤((k+1:Nat):Int))=True:=by simp;omega
   have u1:(J3.next==kl)=false:=by simp;omega
   have u2:(h.l.length+1≤maxApp)=True:=by simp[maxApp];omega
   have u3:(kl=J3.next)=False:=by simp;omega
   have u5:(rid=J3.next)=False:=by simp;omega
   have u6:(rid=J3.next+1)=False:=by simp;omega
   have u7:(rid=kl)=False:=by simp;omega
   have z1:(H.next=rid)=False:=by simp;omega
   have z2:(H.next=J3.next+1)=False:=by simp;omega
   have z3:(H.next=kl)=False:=by simp;omega
   have z4:(H.next=J3.next)=False:=by simp;omega
   obtain⟨l0,hl0⟩:∃l0,l0=l:=⟨_,rfl⟩
   rw[←hl0]at hS
   refine drawW_fixed mixedOrders L64_21_eq P64_21_eq ?_
   by_cases hlne:l=[]
   case pos=>
    rw[hlne,show atJ m [] = .nils from rfl]at gx3
    have hl0:l0=[]:=hl0.trans hlne
    simp (maxSteps:=400000) only[wF,storeA,reduceCtorEq,Nat.reduceAdd,Nat.reduceSub,Nat.reduceEqDiff,Nat.reduceLeDiff,Int.reduceToNat,Int.reduceLE,Int.reduceLT,Int.reduceAdd,Int.reduceNeg,Nat.reduceMul,L64_21,T64,c3,k3,gx3,u1,u2,u3,u5,u6,u7,buildA,appendA,appSrc,AV.isSlc,sliceLit,fillA,zerosA,srcCells,AV.boxable,Nat.le_refl,Nat.reduceLT,evsH_len,e1,q4,q5,h_set_set,z1,z2,z3,z4]
    refine⟨by simp;omega,?_⟩
    generalize hX3:AHeap.set _ rid _=X3
    have r0:X3.get rid=some (.cells 57 [.str (h.s.drop (k+1)),.slc (J3.next+1) (h.l.length+1),.slc ko h.opens.length]):=by rw[←hX3,AHeap.get_set_same]
    have rn:X3.next=J3.next+2:=by rw[←hX3];simp only[AHeap.next_set,AHeap.next_allocAt,AHeap.next_del];omega
    have ro:∀j,j<J3.next→j≠rid→j≠kl→X3.get j=J3.get j:=fun j hj h1 h2=>by rw[←hX3,AHeap.get_set_ne _ _ h1,AHeap.get_allocAt_ne _ _ (by omega),AHeap.get_del_ne _ h2,AHeap.get_allocAt_ne _ _ (by omega)]
    have common:∃Y Z,Weak G [.str name] X3 [.str name] Y∧RdrAt Y rid (J3.next+1) ko { h with s:=h.s.drop (k+1),l:=h.l++[⟨0,name,[],l0,0,0⟩] }∧HKeep H rid kl ko Y (J3.next+1) ko∧Y.get H.next=some (.cells 88 [.int .i64 0,.str name,.str [],Z,.int .i64 0,.int .i64 0]):=by
     refine⟨X3,.nils,h_weak_refl G _ _,⟨?_,?_,?_,by omega,a5,by omega,by omega,by omega,by omega⟩,⟨by omega,.inr (by omega),.inl rfl,fun j j1 j2 j3 j4=>?_⟩,?_⟩
     ·rw[r0,hl0];simp
     ·rw[←hX3,AHeap.get_set_ne _ _ (by omega),AHeap.get_allocAt_same,hl0,evsH_app];rfl
     ·rw[ro _ (by omega) (by omega) (by omega)];exact o3
     ·rw[ro j (by omega) j2 j3];exact fJ3 j j1
     ·rw[ro _ (by omega) (by omega) (by omega)];exact gx3
    clear hX3
    obtain⟨Y,Z,hw,rY,kY,xY⟩:=common
    refine AInv.retK B101 (ACalls.weak hw (h_isVoid_ok G hnl Y)) (fun v J5 hq=>?_) (fun v J5 hq=>by cases hq.1)
    obtain⟨hq,h5⟩:=hq
    cases hq
    obtain⟨r5,k5⟩:=rY.keep h5.kept
    have x5:=(congrFun h5.2 _).trans xY
    unfold startO
    rw[hS]
    simp only[Bool.false_eq_true,if_false]
    cases hv:isVoidS name with
    | true=>
     simp (maxSteps:=400000) only[wF,storeA,reduceCtorEq,Nat.reduceAdd,Nat.reduceSub,Nat.reduceEqDiff,Nat.reduceLeDiff,Int.reduceToNat,Int.reduceLE,Int.reduceLT,Int.reduceAdd,Int.reduceNeg,Nat.reduceMul,T64,x5]
     refine AInv.call B94 (h_add_ok G r5 (by simp only[List.length_append,List.length_cons,List.length_nil];omega)) fun r6 J6 h6=>?_
     obtain⟨⟨_,rfl⟩,kl',r6,k6⟩:=h6
     simp (maxSteps:=400000) only[wF,storeA,reduceCtorEq,Nat.reduceAdd,Nat.reduceSub,Nat.reduceEqDiff,Nat.reduceLeDiff,Int.reduceToNat,Int.reduceLE,Int.reduceLT,Int.reduceAdd,Int.reduceNeg,Nat.reduceMul,T64]
     refine⟨rfl,kl',ko,?_,(kY.trans k5).trans k6⟩
     simpa using r6
    | false=>
     rw[if_neg (by simp)]
     obtain⟨d1,d2,d3,d4,d5,d6,d7,d8,d9⟩:=r5
     have s1:(J5.next==ko)=false:=by simp;omega
     have s2:(h.opens.length+1≤maxApp)=True:=by simp[maxApp];omega
     have s3:(ko=J5.next)=False:=by simp;omega
     have s5:(rid=J5.next)=False:=by simp;omega
     have s6:(rid=J5.next+1)=False:=by simp;omega
     have s7:(rid=ko)=False:=by simp;omega
     have m5:=h5.1
     have mk:=kY.1
     have s8:(H.next=J5.next)=False:=by simp;omega
     simp (maxSteps:=400000) only[wF,storeA,reduceCtorEq,Nat.reduceAdd,Nat.reduceSub,Nat.reduceEqDiff,Nat.reduceLeDiff,Int.reduceToNat,Int.reduceLE,Int.reduceLT,Int.reduceAdd,Int.reduceNeg,Nat.reduceMul,T64]
     refine drawW_fixed mixedOrders L64_25_eq P64_25_eq ?_
     simp (maxSteps:=400000) only[wF,storeA,reduceCtorEq,Nat.reduceAdd,Nat.reduceSub,Nat.reduceEqDiff,Nat.reduceLeDiff,Int.reduceToNat,Int.reduceLE,Int.reduceLT,Int.reduceAdd,Int.reduceNeg,Nat.reduceMul,L64_25,T64,d1,d3,x5,s1,s2,s3,s5,s6,s7,s8,buildA,appendA,appSrc,AV.isSlc,sliceLit,fillA,zerosA,srcCells,AV.boxable,Nat.le_refl,Nat.reduceLT,strsH_len,Nat.mul_one,h_set_set]
     refine⟨by simp;omega,rfl,J3.next+1,J5.next+1,⟨?_,?_,?_,by omega,by omega,by omega,?_,?_,?_⟩,(kY.trans k5).trans ⟨?_,.inl rfl,.inr (by omega),fun j j1 j2 j3 j4=>?_⟩⟩
     ·rw[AHeap.get_set_same];simp
     ·rw[AHeap.get_set_ne _ _ (by omega),AHeap.get_allocAt_ne _ _ (by omega),AHeap.get_del_ne _ (by omega),AHeap.get_allocAt_ne _ _ (by omega)];exact d2
     ·rw[AHeap.get_set_ne _ _ (by omega),AHeap.get_allocAt_same];simp[strsH]
     ·simp only[AHeap.next_set,AHeap.next_allocAt,AHeap.next_del];omega
     ·simp only[AHeap.next_set,AHeap.next_allocAt,AHeap.next_del];omega
     ·simp only[AHeap.next_set,AHeap.next_allocAt,AHeap.next_del];omega
     ·simp only[AHeap.next_set,AHeap.next_allocAt,AHeap.next_del];omega
     ·rw[AHeap.get_set_ne _ _ j2,AHeap.get_allocAt_ne _ _ (by omega),AHeap.get_del_ne _ j4,AHeap.get_allocAt_ne _ _ (by omega)]
   case neg=>
    obtain⟨gr,gmm,gmn⟩:=gl hlne
    rw[show atJ m l = .slc m l.length from if_neg hlne]at gx3
    simp (maxSteps:=400000) only[wF,storeA,reduceCtorEq,Nat.reduceAdd,Nat.reduceSub,Nat.reduceEqDiff,Nat.reduceLeDiff,Int.reduceToNat,Int.reduceLE,Int.reduceLT,Int.reduceAdd,Int.reduceNeg,Nat.reduceMul,L64_21,T64,c3,k3,gx3,u1,u2,u3,u5,u6,u7,buildA,appendA,appSrc,AV.isSlc,sliceLit,fillA,zerosA,srcCells,AV.boxable,Nat.le_refl,Nat.reduceLT,evsH_len,e1,q4,q5,h_set_set,z1,z2,z3,z4]
    refine⟨by simp;omega,?_⟩
    generalize hX3:AHeap.set _ rid _=X3
    have r0:X3.get rid=some (.cells 57 [.str (h.s.drop (k+1)),.slc (J3.next+1) (h.l.length+1),.slc ko h.opens.length]):=by rw[←hX3,AHeap.get_set_same]
    have rn:X3.next=J3.next+2:=by rw[←hX3];simp only[AHeap.next_set,AHeap.next_allocAt,AHeap.next_del];omega
    have ro:∀j,j<J3.next→j≠rid→j≠kl→X3.get j=J3.get j:=fun j hj h1 h2=>by rw[←hX3,AHeap.get_set_ne _ _ h1,AHeap.get_allocAt_ne _ _ (by omega),AHeap.get_del_ne _ h2,AHeap.get_allocAt_ne _ _ (by omega)]
    have common:∃Y Z,Weak G [.str name] X3 [.str name] Y∧RdrAt Y rid (J3.next+1) ko { h with s:=h.s.drop (k+1),l:=h.l++[⟨0,name,[],l0,0,0⟩] }∧HKeep H rid kl ko Y (J3.next+1) ko∧Y.get H.next=some (.cells 88 [.int .i64 0,.str name,.str [],Z,.int .i64 0,.int .i64 0]):=by
     have rm:X3.get m=some (.row 132 2 (attrsH l)):=by rw[ro m (by omega) (by omega) (by omega),j3.2,j1.2];exact gr
     have r1:X3.get (J3.next+1)=some (.row 88 6 (evsH h.l++[.int .i64 0,.str name,.str [],.slc m l.length,.int .i64 0,.int .i64 0])):=by rw[←hX3,AHeap.get_set_ne _ _ (by omega),AHeap.get_allocAt_same]
     have hev:evsH (h.l++[⟨0,name,[],l0,0,0⟩])=evsH h.l++[.int .i64 (0:Nat),.str name,.str [],.lst l.length (attrsH l),.int .i64 (0:Nat),.int .i64 (0:Nat)]:=by
      rw[evsH_app,hl0]
      simp only[evsH,List.flatMap_cons,List.flatMap_nil,evH,atH,hlne,if_false,List.append_nil]
     refine⟨(X3.del m).set (J3.next+1) (.row 88 6 (evsH (h.l++[⟨0,name,[],l0,0,0⟩]))),.slc m l.length,Weak.h_freezeIn rm (by omega) r1 (by omega) ?_,⟨?_,?_,?_,by omega,a5,by omega,?_,?_,?_⟩,⟨?_,.inr (by omega),.inl rfl,fun j j1 j2 j3 j4=>?_⟩,?_⟩
     ·rw[hev]
      exact Tzs.app (Tzs.refl _) ⟨.same _,.same _,.same _,.slc _ _ rfl,.same _,.same _,trivial⟩
     ·rw[AHeap.get_set_ne _ _ (by omega),AHeap.get_del_ne _ (by omega),r0];simp
     ·rw[AHeap.get_set_same]
     ·rw[AHeap.get_set_ne _ _ (by omega),AHeap.get_del_ne _ (by omega),ro _ (by omega) (by omega) (by omega)];exact o3
     ·simp only[AHeap.next_set,AHeap.next_del];omega
     ·simp only[AHeap.next_set,AHeap.next_del];omega
     ·simp only[AHeap.next_set,AHeap.next_del];omega
     ·simp only[AHeap.next_set,AHeap.next_del];omega
     ·rw[AHeap.get_set_ne _ _ (by omega),AHeap.get_del_ne _ (by omega),ro j (by omega) j2 j3];exact fJ3 j j1
     ·rw[AHeap.get_set_ne _ _ (by omega),AHeap.get_del_ne _ (by omega),ro _ (by omega) (by omega) (by omega)];exact gx3
    clear hX3
    obtain⟨Y,Z,hw,rY,kY,xY⟩:=common
    refine AInv.retK B101 (ACalls.weak hw (h_isVoid_ok G hnl Y)) (fun v J5 hq=>?_) (fun v J5 hq=>by cases hq.1)
    obtain⟨hq,h5⟩:=hq
    cases hq
    obtain⟨r5,k5⟩:=rY.keep h5.kept
    have x5:=(congrFun h5.2 _).trans xY
    unfold startO
    rw[hS]
    simp only[Bool.false_eq_true,if_false]
    cases hv:isVoidS name with
    | true=>
     simp (maxSteps:=400000) only[wF,storeA,reduceCtorEq,Nat.reduceAdd,Nat.reduceSub,Nat.reduceEqDiff,Nat.reduceLeDiff,Int.reduceToNat,Int.reduceLE,Int.reduceLT,Int.reduceAdd,Int.reduceNeg,Nat.reduceMul,T64,x5]
     refine AInv.call B94 (h_add_ok G r5 (by simp only[List.length_append,List.length_cons,List.length_nil];omega)) fun r6 J6 h6=>?_
     obtain⟨⟨_,rfl⟩,kl',r6,k6⟩:=h6
     simp (maxSteps:=400000) only[wF,storeA,reduceCtorEq,Nat.reduceAdd,Nat.reduceSub,Nat.reduceEqDiff,Nat.reduceLeDiff,Int.reduceToNat,Int.reduceLE,Int.reduceLT,Int.reduceAdd,Int.reduceNeg,Nat.reduceMul,T64]
     refine⟨rfl,kl',ko,?_,(kY.trans k5).trans k6⟩
     simpa using r6
    | false=>
     rw[if_neg (by simp)]
     obtain⟨d1,d2,d3,d4,d5,d6,d7,d8,d9⟩:=r5
     have s1:(J5.next==ko)=false:=by simp;omega
     have s2:(h.opens.length+1≤maxApp)=True:=by simp[maxApp];omega
     have s3:(ko=J5.next)=False:=by simp;omega
     have s5:(rid=J5.next)=False:=by simp;omega
     have s6:(rid=J5.next+1)=False:=by simp;omega
     have s7:(rid=ko)=False:=by simp;omega
     have m5:=h5.1
     have mk:=kY.1
     have s8:(H.next=J5.next)=False:=by simp;omega
     simp (maxSteps:=400000) only[wF,storeA,reduceCtorEq,Nat.reduceAdd,Nat.reduceSub,Nat.reduceEqDiff,Nat.reduceLeDiff,Int.reduceToNat,Int.reduceLE,Int.reduceLT,Int.reduceAdd,Int.reduceNeg,Nat.reduceMul,T64]
     refine drawW_fixed mixedOrders L64_25_eq P64_25_eq ?_
     simp (maxSteps:=400000) only[wF,storeA,reduceCtorEq,Nat.reduceAdd,Nat.reduceSub,Nat.reduceEqDiff,Nat.reduceLeDiff,Int.reduceToNat,Int.reduceLE,Int.reduceLT,Int.reduceAdd,Int.reduceNeg,Nat.reduceMul,L64_25,T64,d1,d3,x5,s1,s2,s3,s5,s6,s7,s8,buildA,appendA,appSrc,AV.isSlc,sliceLit,fillA,zerosA,srcCells,AV.boxable,Nat.le_refl,Nat.reduceLT,strsH_len,Nat.mul_one,h_set_set]
     refine⟨by simp;omega,rfl,J3.next+1,J5.next+1,⟨?_,?_,?_,by omega,by omega,by omega,?_,?_,?_⟩,(kY.trans k5).trans ⟨?_,.inl rfl,.inr (by omega),fun j j1 j2 j3 j4=>?_⟩⟩
     ·rw[AHeap.get_set_same];simp
     ·rw[AHeap.get_set_ne _ _ (by omega),AHeap.get_allocAt_ne _ _ (by omega),AHeap.get_del_ne _ (by omega),AHeap.get_allocAt_ne _ _ (by omega)];exact d2
     ·rw[AHeap.get_set_ne _ _ (by omega),AHeap.get_allocAt_same];simp[strsH]
     ·simp only[AHeap.next_set,AHeap.next_allocAt,AHeap.next_del];omega
     ·simp only[AHeap.next_set,AHeap.next_allocAt,AHeap.next_del];omega
     ·simp only[AHeap.next_set,AHeap.next_allocAt,AHeap.next_del];omega
     ·simp only[AHeap.next_set,AHeap.next_allocAt,AHeap.next_del];omega
     ·rw[AHeap.get_set_ne _ _ j2,AHeap.get_allocAt_ne _ _ (by omega),AHeap.get_del_ne _ j4,AHeap.get_allocAt_ne _ _ (by omega)]
end Go.Ab
