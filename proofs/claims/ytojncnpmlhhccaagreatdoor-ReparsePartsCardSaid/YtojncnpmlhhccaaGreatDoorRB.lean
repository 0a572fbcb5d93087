/- The reference's name: walked; and what it finds. The reference's form, From, inside, lower: walked. The reference's Ref: walked. The reference's references are the program's. The reference's value: walked; it is the program's. The reference's attribute: walked. -/
import Derived.Test.YtojncnpmlhhccaaGreatDoorRA
import Derived.Test.YtojncnpmlhhccaaGreatDoorWD
import Derived.Test.YtojncnpmlhhccaaGreatDoorWC
import Derived.Test.YtojncnpmlhhccaaGreatDoorCodes2
set_option linter.all false
namespace Go.Ab
open Go Go.Lib Go.Proofs
def stopC (c:UInt8):Bool:=decide (c.toNat<128)&&c != 58 && !isNameS [97,c]
def nameF (s:List UInt8) (i:Nat):Nat→Nat→Nat→Nat
 | 0,_,e=>e
 | f+1,k,e=>if k≤s.length∧k≤i+400 then(if stopC (s.getD (k-1) 0)=true then e else nameF s i f (k+1) (if isNameS ((s.take k).drop i)=true then k else e))else e
def nameR (s:List UInt8) (i:Nat):Nat:=nameF s i 401 (i+1) i
/-! What it finds. -/
theorem isNameS_two {c:UInt8} (h:c.toNat<128) (h58:c≠58):isNameS [97,c]=(isCharS (c.toNat:Int)&&partChar false (c.toNat:Int)):=by
 rw[←isNameR_eq]
 have hp:ptsS [97,c]=[97,c.toNat]:=by
  rw[ptsS_step (by simp),dec_ascii (by decide)]
  show 97::ptsS [c]=_
  rw[ptsS_step (by simp),dec_ascii h]
  rfl
 have ht:isTextS [97,c]=isCharS (c.toNat:Int):=by
  rw[isTextS_ascii _ (by decide),isTextS_ascii _ h,isTextS_nil]
  have:isCharS (((97:UInt8).toNat:Nat):Int)=true:=rfl
  rw[this]
  simp
 have hc:c.toNat≠58:=fun e=>h58 (UInt8.toNat_inj.1 e)
 unfold isNameR
 rw[hp,ht]
 have h97:partChar true ((97:Nat):Int)=true:=rfl
 simp only[nameL,hc,false_and,if_false,h97,if_true]
 cases partChar false (c.toNat:Int)<;>simp
theorem part_char {first:Bool} {c:Nat} (h:partChar first (c:Int)=true) (hc:c<128):isCharS (c:Int)=true∧partChar false (c:Int)=true:=by
 rw[isCharS_iff]
 have:isLetterS (c:Int)=true∨(45≤c∧c≤57):=by
  simp only[partChar,Bool.or_eq_true,Bool.and_eq_true,beq_iff_eq,decide_eq_true_eq]at h
  rcases h with h | ⟨_,h⟩
  ·exact .inl h
  ·exact .inr (by omega)
 refine⟨?_,?_⟩
 ·rcases this with h1 | h1
  ·simp only[isLetterS,Bool.or_eq_true,Bool.and_eq_true,beq_iff_eq,decide_eq_true_eq]at h1
   omega
  ·omega
 ·cases first with
  | false=>exact h
  | true=>
   have:partChar true (c:Int)=isLetterS (c:Int):=by simp[partChar]
   rw[this]at h
   simp[partChar,h]
theorem nameL_mem:∀(l:List Nat) (co:Nat) (first:Bool),nameL l co first=true→∀c∈l,c<128→c≠58→isCharS (c:Int)=true∧partChar false (c:Int)=true
 | [],_,_,_,c,hc,_,_=>by simp at hc
 | d::l,co,first,h,c,hc,h1,h2=>by
  rw[nameL]at h
  split at h
  ·rename_i hd
   rcases List.mem_cons.1 hc with rfl | hc
   ·exact absurd hd.1 h2
   ·exact nameL_mem l _ _ h c hc h1 h2
  split at h
  ·rename_i hd
   rcases List.mem_cons.1 hc with rfl | hc
   ·exact part_char hd h1
   ·exact nameL_mem l _ _ h c hc h1 h2
  ·cases h
theorem name_noStop {T:List UInt8} (h:isNameS T=true):∀c∈T,stopC c=false:=by
 intro c hc
 rw[←isNameR_eq]at h
 simp only[isNameR,Bool.and_eq_true]at h
 by_cases h128:c.toNat<128
 ·by_cases h58:c=58
  ·simp[stopC,h58]
  ·obtain⟨a,b,rfl⟩:=List.append_of_mem hc
   have hm:c.toNat∈ptsS (a++c::b):=by rw[ptsS_app h128 b _ a (Nat.le_refl _)];simp
   have:=nameL_mem _ _ _ h.2 _ hm h128 (fun e=>h58 (UInt8.toNat_inj.1 e))
   simp[stopC,isNameS_two h128 h58,this.1,this.2]
 ·simp[stopC,h128]
theorem dec_width (l:List UInt8):(dec l).2≤4:=by
 show(Lib.decodeL l).2≤4
 rw[Lib.decodeL_N]
 unfold Lib.decodeN
 repeat' split
 all_goals simp
theorem ptsF_four:∀(f:Nat) (l:List UInt8),l.length≤f→l.length≤4*(ptsF f l).length
 | 0,l,h=>by omega
 | _+1,[],_=>by simp
 | f+1,b::l,h=>by
  have hp:=dec_pos (l:=b::l) (by simp)
  have hw:=dec_width (b::l)
  have ih:=ptsF_four f ((b::l).drop (dec (b::l)).2) (by simp only[List.length_drop,List.length_cons]at h ⊢;omega)
  simp only[ptsF,List.length_cons,List.length_drop]at ih ⊢
  omega
theorem name_len {T:List UInt8} (h:isNameS T=true):1≤T.length∧T.length≤400:=by
 rw[←isNameR_eq]at h
 simp only[isNameR,Bool.and_eq_true,decide_eq_true_eq]at h
 have h1:=ptsF_four T.length T (Nat.le_refl _)
 have h2:=ptsS_len T
 unfold ptsS at h h2
 omega
theorem nameF_sound {s:List UInt8} {i:Nat}:∀(f k e:Nat),i<k→(e=i∨(i<e∧e≤s.length∧isNameS ((s.take e).drop i)=true)) →
  (nameF s i f k e=i∨(i<nameF s i f k e∧nameF s i f k e≤s.length∧isNameS ((s.take (nameF s i f k e)).drop i)=true))
 | 0,k,e,_,he=>he
 | f+1,k,e,hk,he=>by
  rw[nameF]
  split
  ·rename_i hc
   split
   ·exact he
   ·refine nameF_sound f (k+1) _ (by omega) ?_
    split
    ·rename_i hn
     exact .inr ⟨hk,hc.1,hn⟩
    ·exact he
  ·exact he
theorem nameF_stop {s:List UInt8} {i j:Nat} (hj:stopC (s.getD j 0)=true):∀(f k e:Nat),k≤j+1→e≤j→nameF s i f k e≤j
 | 0,k,e,_,he=>he
 | f+1,k,e,hk,he=>by
  rw[nameF]
  split
  ·split
   ·exact he
   ·rename_i hs
    have:k≠j+1:=fun e=>hs (by rw[e];exact hj)
    refine nameF_stop hj f (k+1) _ (by omega) ?_
    split
    ·omega
    ·exact he
  ·exact he
theorem nameF_whole {s:List UInt8} {i j:Nat} (hij:i<j) (hjl:j≤s.length) (hn:isNameS ((s.take j).drop i)=true) (hj:j=s.length∨stopC (s.getD j 0)=true) :
  ∀(f k e:Nat),i<k→k≤j→i+402≤f+k→nameF s i f k e=j:=by
 have hlen:=name_len hn
 simp only[List.length_drop,List.length_take,Nat.min_eq_left hjl]at hlen
 have hns:∀n,i≤n→n<j→stopC (s.getD n 0)=false:=fun n h1 h2=>by
  have hnl:n<s.length:=by omega
  refine name_noStop hn _ ?_
  rw[List.getD_eq_getElem?_getD,List.getElem?_eq_getElem hnl]
  have:((s.take j).drop i)[n-i]?=some s[n]:=by
   rw[List.getElem?_drop,show i+(n-i)=n by omega,List.getElem?_take_of_lt h2,List.getElem?_eq_getElem hnl]
  exact List.mem_of_getElem? this
 intro f
 induction f with
 | zero=>intro k e _ _ h;omega
 | succ f ih=>
  intro k e h1 h2 h3
  rw[nameF,if_pos ⟨by omega,by omega⟩,hns (k-1) (by omega) (by omega),if_neg (by simp)]
  by_cases hkj:k=j
  ·subst hkj
   rw[if_pos hn]
   cases f with
   | zero=>rfl
   | succ f=>
    rw[nameF]
    split
    ·rename_i hc
     rcases hj with hj | hj
     ·omega
     ·rw[Nat.add_sub_cancel,if_pos hj]
    ·rfl
  ·exact ih (k+1) _ (by omega) (by omega) (by omega)
theorem nameR_at {s:List UInt8} {i j:Nat} (hij:i≤j) (hjl:j≤s.length) (hj:j=s.length∨stopC (s.getD j 0)=true) :
  (isNameS ((s.take j).drop i)=true∧nameR s i=j∧i<j)∨(isNameS ((s.take j).drop i)=false∧i≤nameR s i∧(nameR s i<j∨(nameR s i=i∧i=j))):=by
 cases hn:isNameS ((s.take j).drop i)with
 | true=>
  left
  have hlen:=name_len hn
  simp only[List.length_drop,List.length_take]at hlen
  have:i<j:=by omega
  exact⟨rfl,nameF_whole this hjl hn hj _ _ _ (by omega) (by omega) (by omega),this⟩
 | false=>
  right
  have hs:=nameF_sound (s:=s) (i:=i) 401 (i+1) i (by omega) (.inl rfl)
  have hle:nameR s i≤j:=by
   rcases hj with hj | hj
   ·rcases hs with h | h
    ·unfold nameR;omega
    ·unfold nameR;omega
   ·exact nameF_stop hj 401 (i+1) i (by omega) hij
  refine⟨rfl,?_,?_⟩
  ·unfold nameR;omega
  ·by_cases he:nameR s i=j
   ·rcases hs with h | ⟨h1,h2,h3⟩
    ·exact .inr ⟨h,h.symm.trans he⟩
    ·have:nameF s i 401 (i+1) i=j:=he
     rw[this,hn]at h3
     cases h3
   ·exact .inl (by omega)
end Go.Ab
namespace Go.Ab
open Go Go.Lib Go.Proofs
set_option maxHeartbeats 1000000 in
theorem r_form_ok (G:Nat→Option (List AV)) {n:Nat} (hc:isCharS (n:Int)=true):PureCall Tryz.prog G 171 [.int .i64 n] (.str (Lib.encodeRune (n:Int))):=by
 intro H
 refine ACalls.keep (ACalls.of Tryz.func171 S171_eq R171 N171 rfl rfl ?_)
 rw[isCharS_iff]at hc
 have z64:((64:Int)=0)=False:=by simp
 have z4096:((4096:Int)=0)=False:=by simp
 have z262144:((262144:Int)=0)=False:=by simp
 have t64:(n:Int).tdiv 64=((n / 64:Nat):Int):=rfl
 have t4096:(n:Int).tdiv 4096=((n / 4096:Nat):Int):=rfl
 have t262144:(n:Int).tdiv 262144=((n / 262144:Nat):Int):=rfl
 have r0:(n:Int).tmod 64=((n % 64:Nat):Int):=rfl
 have r1:((n / 64:Nat):Int).tmod 64=((n / 64 % 64:Nat):Int):=rfl
 have r2:((n / 4096:Nat):Int).tmod 64=((n / 4096 % 64:Nat):Int):=rfl
 have wq:∀k:Nat,k≤1114111→IntKind.i64.wrap (k:Int)=(k:Int):=fun k hk=>by rw[wrap64]<;>omega
 have w8:∀k:Nat,k≤255→IntKind.u8.wrap (k:Int)=(k:Int):=fun k hk=>by rw[wrapu8]<;>omega
 have wa:∀(a k:Nat),a+k≤255→IntKind.i64.wrap ((a:Int)+(k:Int))=((a+k:Nat):Int):=fun a k h=>by rw[wrap64]<;>omega
 by_cases h1:n<128
 ·have d1:decide ((n:Int)<128)=true:=by simp;omega
  have a1:=w8 n (by omega)
  simp (maxSteps:=400000) only[wF,storeA,reduceCtorEq,Nat.reduceAdd,Nat.reduceSub,Nat.reduceEqDiff,Nat.reduceLeDiff,Int.reduceToNat,Int.reduceLE,Int.reduceLT,Int.reduceAdd,Int.reduceNeg,Nat.reduceMul,S171,N171,R171,T171,d1,convA,a1,sliceLit,fillA,zerosA,AV.boxable,Nat.le_refl,Nat.reduceLT,srcCells,bytesOfA]
  refine⟨?_,by omega,fun k hk=>by rw[if_neg (by omega)]⟩
  simp only[Lib.encodeRune,Lib.encodeRuneZ_one (r:=(n:Int)) (by omega) (by omega),List.map_cons,List.map_nil,Int.toNat_natCast]
 have d1:decide ((n:Int)<128)=false:=by simp;omega
 have q64:=wq (n / 64) (by omega)
 have b0:IntKind.i64.wrap (128+((n % 64:Nat):Int))=((128+n % 64:Nat):Int):=by rw[wrap64]<;>omega
 have c0:=w8 (128+n % 64) (by omega)
 by_cases h2:n<2048
 ·have d2:decide ((n:Int)<2048)=true:=by simp;omega
  have b1:IntKind.i64.wrap (192+((n / 64:Nat):Int))=((192+n / 64:Nat):Int):=by rw[wrap64]<;>omega
  have c1:=w8 (192+n / 64) (by omega)
  simp (maxSteps:=400000) only[wF,storeA,reduceCtorEq,Nat.reduceAdd,Nat.reduceSub,Nat.reduceEqDiff,Nat.reduceLeDiff,Int.reduceToNat,Int.reduceLE,Int.reduceLT,Int.reduceAdd,Int.reduceNeg,Nat.reduceMul,S171,N171,R171,T171,d1,d2,convA,t64,r0,z64,q64,b0,b1,c0,c1,sliceLit,fillA,zerosA,AV.boxable,Nat.le_refl,Nat.reduceLT,srcCells,bytesOfA,Int.toNat_natCast]
  refine⟨?_,by omega,fun k hk=>by rw[if_neg (by omega)]⟩
  simp only[Lib.encodeRune,Lib.encodeRuneZ_two (r:=(n:Int)) (by omega) (by omega),List.map_cons,List.map_nil]
  have e1:(192+(n:Int) / 64).toNat=192+n / 64:=by omega
  have e2:(128+(n:Int) % 64).toNat=128+n % 64:=by omega
  rw[e1,e2]
 have d2:decide ((n:Int)<2048)=false:=by simp;omega
 have q4096:=wq (n / 4096) (by omega)
 have b2:IntKind.i64.wrap (128+((n / 64 % 64:Nat):Int))=((128+n / 64 % 64:Nat):Int):=by rw[wrap64]<;>omega
 have c2:=w8 (128+n / 64 % 64) (by omega)
 by_cases h3:n<65536
 ·have d3:decide ((n:Int)<65536)=true:=by simp;omega
  have b1:IntKind.i64.wrap (224+((n / 4096:Nat):Int))=((224+n / 4096:Nat):Int):=by rw[wrap64]<;>omega
  have c1:=w8 (224+n / 4096) (by omega)
  simp (maxSteps:=400000) only[wF,storeA,reduceCtorEq,Nat.reduceAdd,Nat.reduceSub,Nat.reduceEqDiff,Nat.reduceLeDiff,Int.reduceToNat,Int.reduceLE,Int.reduceLT,Int.reduceAdd,Int.reduceNeg,Nat.reduceMul,S171,N171,R171,T171,d1,d2,d3,convA,t64,t4096,r0,r1,z64,z4096,q64,q4096,b0,b1,b2,c0,c1,c2,sliceLit,fillA,zerosA,AV.boxable,Nat.le_refl,Nat.reduceLT,srcCells,bytesOfA,Int.toNat_natCast]
  refine⟨?_,by omega,fun k hk=>by rw[if_neg (by omega)]⟩
  simp only[Lib.encodeRune,Lib.encodeRuneZ_three (r:=(n:Int)) (by omega),List.map_cons,List.map_nil]
  have e1:(224+(n:Int) / 4096).toNat=224+n / 4096:=by omega
  have e2:(128+(n:Int) / 64 % 64).toNat=128+n / 64 % 64:=by omega
  have e3:(128+(n:Int) % 64).toNat=128+n % 64:=by omega
  rw[e1,e2,e3]
 ·have d3:decide ((n:Int)<65536)=false:=by simp;omega
  have q262144:=wq (n / 262144) (by omega)
  have b1:IntKind.i64.wrap (240+((n / 262144:Nat):Int))=((240+n / 262144:Nat):Int):=by rw[wrap64]<;>omega
  have c1:=w8 (240+n / 262144) (by omega)
  have b3:IntKind.i64.wrap (128+((n / 4096 % 64:Nat):Int))=((128+n / 4096 % 64:Nat):Int):=by rw[wrap64]<;>omega
  have c3:=w8 (128+n / 4096 % 64) (by omega)
  simp (maxSteps:=400000) only[wF,storeA,reduceCtorEq,Nat.reduceAdd,Nat.reduceSub,Nat.reduceEqDiff,Nat.reduceLeDiff,Int.reduceToNat,Int.reduceLE,Int.reduceLT,Int.reduceAdd,Int.reduceNeg,Nat.reduceMul,S171,N171,R171,T171,d1,d2,d3,convA,t64,t4096,t262144,r0,r1,r2,z64,z4096,z262144,q64,q4096,q262144,b0,b1,b2,b3,c0,c1,c2,c3,sliceLit,fillA,zerosA,AV.boxable,Nat.le_refl,Nat.reduceLT,srcCells,bytesOfA,Int.toNat_natCast]
  refine⟨?_,by omega,fun k hk=>by rw[if_neg (by omega)]⟩
  simp only[Lib.encodeRune,Lib.encodeRuneZ_four (r:=(n:Int)) (by omega) (by omega),List.map_cons,List.map_nil]
  have e1:(240+(n:Int) / 262144).toNat=240+n / 262144:=by omega
  have e2:(128+(n:Int) / 4096 % 64).toNat=128+n / 4096 % 64:=by omega
  have e3:(128+(n:Int) / 64 % 64).toNat=128+n / 64 % 64:=by omega
  have e4:(128+(n:Int) % 64).toNat=128+n % 64:=by omega
  rw[e1,e2,e3,e4]
def RFromAt (n:Nat) (H:AHeap) (x:Nat × Nat × List UInt8 × AHeap):Prop:=
 (x.1=0∧x.2.2.1=[]∨x.1=1∧isCharS (n:Int)=true∧x.2.2.1=Lib.encodeRune (n:Int))∧x.2.2.2.get x.2.1=some (.row 5 1 (bytesA x.2.2.1))∧H.next≤x.2.1∧x.2.1<x.2.2.2.next∧H.next≤x.2.2.2.next∧∀j,j<H.next→x.2.2.2.get j=H.get j
set_option maxHeartbeats 1000000 in
theorem r_from_ok {G:Nat→Option (List AV)} {H:AHeap} {m n:Nat} (hm:H.get m=some (.row 3 1 [.int .i64 n])) :
  ACalls Tryz.prog G 161 [.slc m 1] H fun r H'=>r = .ret (.tup [.str (charS n).1,.int .i64 (if(charS n).2=true then 0 else 10)])∧Kept H H':=by
 refine ACalls.wf fun wf=>?_
 have hmn:=wf _ _ hm
 refine ACalls.of Tryz.func161 S161_eq R161 N161 rfl rfl ?_
 simp (maxSteps:=400000) only[wF,storeA,reduceCtorEq,Nat.reduceAdd,Nat.reduceSub,Nat.reduceEqDiff,Nat.reduceLeDiff,Int.reduceToNat,Int.reduceLE,Int.reduceLT,Int.reduceAdd,Int.reduceNeg,Nat.reduceMul,S161,N161,R161,T161,hm]
 have hw:Weak G ([.slc m 1,.und,.str [],.int .i64 0,.nils,.int .i64 0]++List.replicate 21 .und) H ([.slc m 1,.und,.str [],.int .i64 0,.slc H.next 0,.int .i64 0]++List.replicate 21 .und) ⟨H.next+1,fun j=>if j=H.next then some (.row 5 1 [])else H.get j⟩:=by
  refine Weak.nilRow H.next 5 1 (Nat.le_refl _) (Nat.lt_succ_self _) (by simp) (fun j=>?_) (show Tzs _ _ _ _ _ from ⟨.same _,.und _,.same _,.same _,.nil _ rfl,Tzs.refl _⟩)
  by_cases h1:j=H.next
  ·exact .inl h1
  ·cases hg:H.get j with
   | none=>exact .inr (.inl (by simp[h1,hg]))
   | some o=>exact .inr (.inr ⟨o,o,rfl,by simp[h1,hg],.same o⟩)
 refine ATrS.weak ((Weak.of (by simp[Fg]) (HW.refl _)).trans hw) (ATrS.loopK (κ:=Nat × Nat × List UInt8 × AHeap) (fun x=>[.slc m 1,.und,.str [],.int .i64 0,.slc x.2.1 x.2.2.1.length,.int .i64 x.1]++List.replicate 21 .und) (fun x=>x.2.2.2)
  (RFromAt n H) (fun x=>1-x.1) ⟨(0,H.next,[],_),⟨.inl ⟨rfl,rfl⟩,by simp[bytesA],by simp only;omega,by simp only;omega,by simp only;omega,fun j hj=>by simp only[show ¬j=H.next by omega,if_false]⟩,by simp[Fg],HW.refl _⟩ ?_)
 clear hw
 rintro⟨k,p,acc,J⟩ ⟨hx,hrow,g1,g2,g3,g4⟩
 simp only at hx hrow g1 g2 g3 g4
 have jm:=(g4 m hmn).trans hm
 have v1:(acc.length≤(bytesA acc).length)=True:=by rw[bytesA_len];simp
 have v2:List.take acc.length (bytesA acc)=bytesA acc:=List.take_of_length_le (by rw[bytesA_len];exact Nat.le_refl _)
 rcases hx with ⟨rfl,rfl⟩ | ⟨rfl,hc,hacc⟩
 ·have d0:decide (((0:Nat):Int)<1)=true:=rfl
  have d0':decide (((0:Nat):Int)<((1:Nat):Int))=true:=rfl
  have q0:(((0:Nat):Int)<((1:Nat):Int))=True:=by simp
  have q1:(((0:Nat):Int)<1)=True:=by simp
  simp (maxSteps:=400000) only[wF,storeA,reduceCtorEq,Nat.reduceAdd,Nat.reduceSub,Nat.reduceEqDiff,Nat.reduceLeDiff,Int.reduceToNat,Int.reduceLE,Int.reduceLT,Int.reduceAdd,Int.reduceNeg,Nat.reduceMul,T161,d0,d0',q0,q1,jm,indexAddrA]
  refine AInv.pureK B103 (r_isChar_ok G _) fun J1 h1=>?_
  have n1:=h1.1
  have jm1:J1.get m=some (.row 3 1 [.int .i64 n]):=by rw[h1.2];exact jm
  have row1:J1.get p=some (.row 5 1 (bytesA [])):=by rw[h1.2];exact hrow
  cases hc:isCharS (n:Int)with
  | false=>
   simp (maxSteps:=400000) only[wF,storeA,reduceCtorEq,Nat.reduceAdd,Nat.reduceSub,Nat.reduceEqDiff,Nat.reduceLeDiff,Int.reduceToNat,Int.reduceLE,Int.reduceLT,Int.reduceAdd,Int.reduceNeg,Nat.reduceMul,T161]
   refine⟨by simp[charS,hc],by omega,fun j hj=>by rw[h1.2];exact g4 j hj⟩
  | true=>
   simp (maxSteps:=400000) only[wF,storeA,reduceCtorEq,Nat.reduceAdd,Nat.reduceSub,Nat.reduceEqDiff,Nat.reduceLeDiff,Int.reduceToNat,Int.reduceLE,Int.reduceLT,Int.reduceAdd,Int.reduceNeg,Nat.reduceMul,T161,jm1,q0,q1,indexAddrA]
   refine AInv.pureK B171 (r_form_ok G hc) fun J2 h2=>?_
   have n2:=h2.1
   have row2:J2.get p=some (.row 5 1 (bytesA [])):=by rw[h2.2];exact row1
   have hel:=encodeRune_len (n:Int)
   have u2:(0+(Lib.encodeRune (n:Int)).length≤maxApp)=True:=by simp[maxApp];omega
   have u2':((Lib.encodeRune (n:Int)).length≤maxApp)=True:=by simp[maxApp];omega
   have ew:IntKind.i64.wrap (((0:Nat):Int)+1)=((1:Nat):Int):=by rw[wrap64]<;>omega
   have b0:bytesA []=[]:=rfl
   simp (maxSteps:=400000) only[wF,storeA,reduceCtorEq,Nat.reduceAdd,Nat.reduceSub,Nat.reduceEqDiff,Nat.reduceLeDiff,Int.reduceToNat,Int.reduceLE,Int.reduceLT,Int.reduceAdd,Int.reduceNeg,Nat.reduceMul,T161,row2,u2,u2',ew,b0,appendA,appSrc,AV.isSlc]
   refine⟨(1,J2.next,Lib.encodeRune (n:Int),_),⟨.inr ⟨rfl,hc,rfl⟩,?_,by simp only;omega,?_,?_,fun j hj=>?_⟩,by simp,by simp[Fg],HW.refl _⟩
   ·simp only[AHeap.get_allocAt_same]
    rfl
   ·simp only[AHeap.next_allocAt,AHeap.next_del];omega
   ·simp only[AHeap.next_allocAt,AHeap.next_del];omega
   ·show(AHeap.allocAt _ _ _).get j=_
    rw[AHeap.get_allocAt_ne _ _ (by omega),AHeap.get_del_ne _ (by omega),h2.2,h1.2]
    exact g4 j hj
 ·have d0:decide (((1:Nat):Int)<1)=false:=rfl
  have d0':decide (((1:Nat):Int)<((1:Nat):Int))=false:=rfl
  simp (maxSteps:=400000) only[wF,storeA,reduceCtorEq,Nat.reduceAdd,Nat.reduceSub,Nat.reduceEqDiff,Nat.reduceLeDiff,Int.reduceToNat,Int.reduceLE,Int.reduceLT,Int.reduceAdd,Int.reduceNeg,Nat.reduceMul,T161,d0,d0',convA,srcCells,hrow,v1,v2,bytesOfA_bytesA]
  exact⟨by simp[charS,hc,hacc],g3,g4⟩
def insideR (s:List UInt8) (i:Nat) (first last:List UInt8):List UInt8 × Int:=
 if Lib.hasPrefix (s.drop i) first=true∧0≤Lib.index (s.drop (i+first.length)) last then
  ((s.drop (i+first.length)).take (Lib.index (s.drop (i+first.length)) last).toNat,(i:Int)+first.length+Lib.index (s.drop (i+first.length)) last+last.length)
 else([],-1)
theorem bytesA_set (A R:List UInt8) (x y:UInt8):(bytesA (A++x::R)).set A.length (.int .u8 y.toNat)=bytesA (A++y::R):=by
 unfold bytesA
 rw[List.map_append,List.map_append,List.set_append_right _ _ (by simp),List.length_map,Nat.sub_self]
 rfl
def lowC (c:UInt8):UInt8:=if 65≤c.toNat∧c.toNat≤90 then c+32 else c
def LowAt (s:List UInt8) (H:AHeap) (m:Nat) (x:Nat × AHeap):Prop:=
 x.1≤s.length∧x.2.get m=some (.cells 0 (bytesA ((s.take x.1).map lowC++s.drop x.1)))∧H.next≤m∧m<x.2.next∧H.next≤x.2.next∧∀j,j<H.next→x.2.get j=H.get j
theorem set_get_self {α:Type}:∀{l:List α} {k:Nat} {x:α},l[k]?=some x→l.set k x=l
 | [],_,_,h=>by simp at h
 | a::l,0,x,h=>by simp at h;simp[h]
 | a::l,k+1,x,h=>by simp at h;simp[set_get_self h]
end Go.Ab
namespace Go.Ab
open Go Go.Lib Go.Proofs
def runR (base:Nat):List UInt8→Nat→Nat × Nat
 | [],n=>(0,n)
 | c::l,n=>if digR c<base then((runR base l (min (n*base+digR c) 1114112)).1+1,(runR base l (min (n*base+digR c) 1114112)).2)else(0,n)
def refNum (s:List UInt8) (base from_:Nat):List UInt8 × Int:=
 let r:=runR base (s.drop from_) 0
 if r.1=0∨Lib.hasPrefix (s.drop (from_+r.1)) [59]=false∨(charS r.2).2=false then([],-1)else((charS r.2).1,(from_+r.1+1:Nat))
def refW (s:List UInt8) (i:Nat):List UInt8 × Int:=
 if Lib.hasPrefix (s.drop i) [38,108,116,59]=true then([60],(i+4:Nat))
 else if Lib.hasPrefix (s.drop i) [38,103,116,59]=true then([62],(i+4:Nat))
 else if Lib.hasPrefix (s.drop i) [38,97,109,112,59]=true then([38],(i+5:Nat))
 else if Lib.hasPrefix (s.drop i) [38,113,117,111,116,59]=true then([34],(i+6:Nat))
 else if Lib.hasPrefix (s.drop i) [38,97,112,111,115,59]=true then([39],(i+6:Nat))
 else if Lib.hasPrefix (s.drop i) [38,35,120]=true then refNum s 16 (i+3)
 else if Lib.hasPrefix (s.drop i) [38,35]=true then refNum s 10 (i+2)
 else([],-1)
def refK (s:List UInt8) (i:Nat):Nat→List UInt8 × Int
 | 0=>refW s i
 | 1=>if Lib.hasPrefix (s.drop i) [38,103,116,59]=true then([62],(i+4:Nat))
  else if Lib.hasPrefix (s.drop i) [38,97,109,112,59]=true then([38],(i+5:Nat))
  else if Lib.hasPrefix (s.drop i) [38,113,117,111,116,59]=true then([34],(i+6:Nat))
  else if Lib.hasPrefix (s.drop i) [38,97,112,111,115,59]=true then([39],(i+6:Nat))
  else if Lib.hasPrefix (s.drop i) [38,35,120]=true then refNum s 16 (i+3)
  else if Lib.hasPrefix (s.drop i) [38,35]=true then refNum s 10 (i+2)
  else([],-1)
 | 2=>if Lib.hasPrefix (s.drop i) [38,97,109,112,59]=true then([38],(i+5:Nat))
  else if Lib.hasPrefix (s.drop i) [38,113,117,111,116,59]=true then([34],(i+6:Nat))
  else if Lib.hasPrefix (s.drop i) [38,97,112,111,115,59]=true then([39],(i+6:Nat))
  else if Lib.hasPrefix (s.drop i) [38,35,120]=true then refNum s 16 (i+3)
  else if Lib.hasPrefix (s.drop i) [38,35]=true then refNum s 10 (i+2)
  else([],-1)
 | 3=>if Lib.hasPrefix (s.drop i) [38,113,117,111,116,59]=true then([34],(i+6:Nat))
  else if Lib.hasPrefix (s.drop i) [38,97,112,111,115,59]=true then([39],(i+6:Nat))
  else if Lib.hasPrefix (s.drop i) [38,35,120]=true then refNum s 16 (i+3)
  else if Lib.hasPrefix (s.drop i) [38,35]=true then refNum s 10 (i+2)
  else([],-1)
 | 4=>if Lib.hasPrefix (s.drop i) [38,97,112,111,115,59]=true then([39],(i+6:Nat))
  else if Lib.hasPrefix (s.drop i) [38,35,120]=true then refNum s 16 (i+3)
  else if Lib.hasPrefix (s.drop i) [38,35]=true then refNum s 10 (i+2)
  else([],-1)
 | _=>if Lib.hasPrefix (s.drop i) [38,35,120]=true then refNum s 16 (i+3)
  else if Lib.hasPrefix (s.drop i) [38,35]=true then refNum s 10 (i+2)
  else([],-1)
def EntAt (s:List UInt8) (i:Nat) (H:AHeap) (m:Nat) (x:Nat × AHeap):Prop:=
 x.1≤5∧refK s i x.1=refW s i∧x.2.get m=some (.row 9 1 [.str [38,108,116,59],.str [38,103,116,59],.str [38,97,109,112,59],.str [38,113,117,111,116,59],.str [38,97,112,111,115,59]])∧H.next≤m∧m<x.2.next∧H.next≤x.2.next∧∀j,j<H.next→x.2.get j=H.get j
def RunAt (s:List UInt8) (base from_:Nat) (H:AHeap) (x:Nat × Nat × AHeap):Prop:=
 from_≤x.1∧x.1≤s.length∧(x.1-from_)+(runR base (s.drop x.1) x.2.1).1=(runR base (s.drop from_) 0).1∧(runR base (s.drop x.1) x.2.1).2=(runR base (s.drop from_) 0).2∧x.2.1≤1114112∧Keeps H x.2.2
set_option maxHeartbeats 8000000 in
set_option maxRecDepth 100000 in
theorem r_ref_ok (G:Nat→Option (List AV)) {s:List UInt8} {i:Nat} (hi:i≤s.length) (hs:s.length≤900000000):PureCall Tryz.prog G 135 [.str s,.int .i64 i] (.tup [.str (refW s i).1,.int .i64 (refW s i).2]):=by
 intro H
 refine ACalls.keep (ACalls.of Tryz.func135 S135_eq R135 N135 rfl rfl ?_)
 simp (maxSteps:=400000) only[wF,storeA,reduceCtorEq,Nat.reduceAdd,Nat.reduceSub,Nat.reduceEqDiff,Nat.reduceLeDiff,Int.reduceToNat,Int.reduceLE,Int.reduceLT,Int.reduceAdd,Int.reduceNeg,Nat.reduceMul,S135,N135,R135,T135,sliceLit,fillA,zerosA,AV.boxable,Nat.le_refl,Nat.reduceLT]
 refine ATrS.loopK (κ:=Nat × AHeap) (fun x=>[.str s,.int .i64 i,.und,.und,.str [],.int .i64 0,.slc H.next 5,.int .i64 x.1]++List.replicate 88 .und) (fun x=>x.2)
  (EntAt s i H H.next) (fun x=>5-x.1) ⟨(0,_),⟨Nat.zero_le _,rfl,AHeap.get_allocAt_same _ _ _,Nat.le_refl _,by simp only[AHeap.next_allocAt];omega,by simp only[AHeap.next_allocAt];omega,fun j hj=>AHeap.get_allocAt_ne _ _ (by omega)⟩,by simp[Fg],HW.refl _⟩ ?_
 rintro⟨k,J⟩ ⟨hk,hR,hrow,g1,g2,g3,g4⟩
 simp only at hk hR hrow g1 g2 g3 g4
 rcases(show k=0∨k=1∨k=2∨k=3∨k=4∨k=5 by omega)with rfl | rfl | rfl | rfl | rfl | rfl
 ·have d0:decide (((0:Nat):Int)<5)=true:=rfl
  have q0:(((0:Nat):Int)<((5:Nat):Int))=True:=by simp
  have ew:IntKind.i64.wrap (((0:Nat):Int)+1)=((1:Nat):Int):=by rw[wrap64]<;>omega
  have el:IntKind.i64.wrap ((i:Int)+((4:Nat):Int))=((i+4:Nat):Int):=by rw[wrap64]<;>omega
  have q1:(((0:Nat):Int)≤((1:Nat):Int))=True:=by simp
  have q2:(((1:Nat):Int)≤((5:Nat):Int))=True:=by simp
  simp (maxSteps:=400000) only[wF,storeA,reduceCtorEq,Nat.reduceAdd,Nat.reduceSub,Nat.reduceEqDiff,Nat.reduceLeDiff,Int.reduceToNat,Int.reduceLE,Int.reduceLT,Int.reduceAdd,Int.reduceNeg,Nat.reduceMul,T135,d0,q0,hrow,indexAddrA]
  refine AInv.pureK B159 (r_begins_ok G hi (by omega) (by simp)) fun J1 h1=>?_
  have n1:=h1.1
  have row1:=hrow
  rw[←h1.2]at row1
  have o1:∀j,j<H.next→J1.get j=H.get j:=fun j hj=>by rw[h1.2];exact g4 j hj
  cases hp:Lib.hasPrefix (s.drop i) [38,108,116,59]with
  | true=>
   simp (maxSteps:=400000) only[wF,storeA,reduceCtorEq,Nat.reduceAdd,Nat.reduceSub,Nat.reduceEqDiff,Nat.reduceLeDiff,Int.reduceToNat,Int.reduceLE,Int.reduceLT,Int.reduceAdd,Int.reduceNeg,Nat.reduceMul,T135]
   refine drawW_fixed mixedOrders L135_6_eq P135_6_eq ?_
   simp (maxSteps:=400000) only[wF,storeA,reduceCtorEq,Nat.reduceAdd,Nat.reduceSub,Nat.reduceEqDiff,Nat.reduceLeDiff,Int.reduceToNat,Int.reduceLE,Int.reduceLT,Int.reduceAdd,Int.reduceNeg,Nat.reduceMul,L135_6,T135,row1,q0,q1,q2,ew,el,indexAddrA]
   refine⟨?_,by omega,o1⟩
   rw[←hR]
   simp[refK,refW,hp]
  | false=>
   simp (maxSteps:=400000) only[wF,storeA,reduceCtorEq,Nat.reduceAdd,Nat.reduceSub,Nat.reduceEqDiff,Nat.reduceLeDiff,Int.reduceToNat,Int.reduceLE,Int.reduceLT,Int.reduceAdd,Int.reduceNeg,Nat.reduceMul,T135,ew]
   refine⟨(1,J1),⟨by simp,?_,row1,Nat.le_refl _,by simp only;omega,by simp only;omega,o1⟩,by simp,by simp[Fg],HW.refl _⟩
   rw[←hR]
   simp[refK,refW,hp]
 ·have d0:decide (((1:Nat):Int)<5)=true:=rfl
  have q0:(((1:Nat):Int)<((5:Nat):Int))=True:=by simp
  have ew:IntKind.i64.wrap (((1:Nat):Int)+1)=((2:Nat):Int):=by rw[wrap64]<;>omega
  have el:IntKind.i64.wrap ((i:Int)+((4:Nat):Int))=((i+4:Nat):Int):=by rw[wrap64]<;>omega
  have q1:(((1:Nat):Int)≤((2:Nat):Int))=True:=by simp
  have q2:(((2:Nat):Int)≤((5:Nat):Int))=True:=by simp
  simp (maxSteps:=400000) only[wF,storeA,reduceCtorEq,Nat.reduceAdd,Nat.reduceSub,Nat.reduceEqDiff,Nat.reduceLeDiff,Int.reduceToNat,Int.reduceLE,Int.reduceLT,Int.reduceAdd,Int.reduceNeg,Nat.reduceMul,T135,d0,q0,hrow,indexAddrA]
  refine AInv.pureK B159 (r_begins_ok G hi (by omega) (by simp)) fun J1 h1=>?_
  have n1:=h1.1
  have row1:=hrow
  rw[←h1.2]at row1
  have o1:∀j,j<H.next→J1.get j=H.get j:=fun j hj=>by rw[h1.2];exact g4 j hj
  cases hp:Lib.hasPrefix (s.drop i) [38,103,116,59]with
  | true=>
   simp (maxSteps:=400000) only[wF,storeA,reduceCtorEq,Nat.reduceAdd,Nat.reduceSub,Nat.reduceEqDiff,Nat.reduceLeDiff,Int.reduceToNat,Int.reduceLE,Int.reduceLT,Int.reduceAdd,Int.reduceNeg,Nat.reduceMul,T135]
   refine drawW_fixed mixedOrders L135_6_eq P135_6_eq ?_
   simp (maxSteps:=400000) only[wF,storeA,reduceCtorEq,Nat.reduceAdd,Nat.reduceSub,Nat.reduceEqDiff,Nat.reduceLeDiff,Int.reduceToNat,Int.reduceLE,Int.reduceLT,Int.reduceAdd,Int.reduceNeg,Nat.reduceMul,L135_6,T135,row1,q0,q1,q2,ew,el,indexAddrA]
   refine⟨?_,by omega,o1⟩
   rw[←hR]
   simp[refK,hp]
  | false=>
   simp (maxSteps:=400000) only[wF,storeA,reduceCtorEq,Nat.reduceAdd,Nat.reduceSub,Nat.reduceEqDiff,Nat.reduceLeDiff,Int.reduceToNat,Int.reduceLE,Int.reduceLT,Int.reduceAdd,Int.reduceNeg,Nat.reduceMul,T135,ew]
   refine⟨(2,J1),⟨by simp,?_,row1,Nat.le_refl _,by simp only;omega,by simp only;omega,o1⟩,by simp,by simp[Fg],HW.refl _⟩
   rw[←hR]
   simp[refK,hp]
 ·have d0:decide (((2:Nat):Int)<5)=true:=rfl
  have q0:(((2:Nat):Int)<((5:Nat):Int))=True:=by simp
  have ew:IntKind.i64.wrap (((2:Nat):Int)+1)=((3:Nat):Int):=by rw[wrap64]<;>omega
  have el:IntKind.i64.wrap ((i:Int)+((5:Nat):Int))=((i+5:Nat):Int):=by rw[wrap64]<;>omega
  have q1:(((2:Nat):Int)≤((3:Nat):Int))=True:=by simp
  have q2:(((3:Nat):Int)≤((5:Nat):Int))=True:=by simp
  simp (maxSteps:=400000) only[wF,storeA,reduceCtorEq,Nat.reduceAdd,Nat.reduceSub,Nat.reduceEqDiff,Nat.reduceLeDiff,Int.reduceToNat,Int.reduceLE,Int.reduceLT,Int.reduceAdd,Int.reduceNeg,Nat.reduceMul,T135,d0,q0,hrow,indexAddrA]
  refine AInv.pureK B159 (r_begins_ok G hi (by omega) (by simp)) fun J1 h1=>?_
  have n1:=h1.1
  have row1:=hrow
  rw[←h1.2]at row1
  have o1:∀j,j<H.next→J1.get j=H.get j:=fun j hj=>by rw[h1.2];exact g4 j hj
  cases hp:Lib.hasPrefix (s.drop i) [38,97,109,112,59]with
  | true=>
   simp (maxSteps:=400000) only[wF,storeA,reduceCtorEq,Nat.reduceAdd,Nat.reduceSub,Nat.reduceEqDiff,Nat.reduceLeDiff,Int.reduceToNat,Int.reduceLE,Int.reduceLT,Int.reduceAdd,Int.reduceNeg,Nat.reduceMul,T135]
   refine drawW_fixed mixedOrders L135_6_eq P135_6_eq ?_
   simp (maxSteps:=400000) only[wF,storeA,reduceCtorEq,Nat.reduceAdd,Nat.reduceSub,Nat.reduceEqDiff,Nat.reduceLeDiff,Int.reduceToNat,Int.reduceLE,Int.reduceLT,Int.reduceAdd,Int.reduceNeg,Nat.reduceMul,L135_6,T135,row1,q0,q1,q2,ew,el,indexAddrA]
   refine⟨?_,by omega,o1⟩
   rw[←hR]
   simp[refK,hp]
  | false=>
   simp (maxSteps:=400000) only[wF,storeA,reduceCtorEq,Nat.reduceAdd,Nat.reduceSub,Nat.reduceEqDiff,Nat.reduceLeDiff,Int.reduceToNat,Int.reduceLE,Int.reduceLT,Int.reduceAdd,Int.reduceNeg,Nat.reduceMul,T135,ew]
   refine⟨(3,J1),⟨by simp,?_,row1,Nat.le_refl _,by simp only;omega,by simp only;omega,o1⟩,by simp,by simp[Fg],HW.refl _⟩
   rw[←hR]
   simp[refK,hp]
 ·have d0:decide (((3:Nat):Int)<5)=true:=rfl
  have q0:(((3:Nat):Int)<((5:Nat):Int))=True:=by simp
  have ew:IntKind.i64.wrap (((3:Nat):Int)+1)=((4:Nat):Int):=by rw[wrap64]<;>omega
  have el:IntKind.i64.wrap ((i:Int)+((6:Nat):Int))=((i+6:Nat):Int):=by rw[wrap64]<;>omega
  have q1:(((3:Nat):Int)≤((4:Nat):Int))=True:=by simp
  have q2:(((4:Nat):Int)≤((5:Nat):Int))=True:=by simp
  simp (maxSteps:=400000) only[wF,storeA,reduceCtorEq,Nat.reduceAdd,Nat.reduceSub,Nat.reduceEqDiff,Nat.reduceLeDiff,Int.reduceToNat,Int.reduceLE,Int.reduceLT,Int.reduceAdd,Int.reduceNeg,Nat.reduceMul,T135,d0,q0,hrow,indexAddrA]
  refine AInv.pureK B159 (r_begins_ok G hi (by omega) (by simp)) fun J1 h1=>?_
  have n1:=h1.1
  have row1:=hrow
  rw[←h1.2]at row1
  have o1:∀j,j<H.next→J1.get j=H.get j:=fun j hj=>by rw[h1.2];exact g4 j hj
  cases hp:Lib.hasPrefix (s.drop i) [38,113,117,111,116,59]with
  | true=>
   simp (maxSteps:=400000) only[wF,storeA,reduceCtorEq,Nat.reduceAdd,Nat.reduceSub,Nat.reduceEqDiff,Nat.reduceLeDiff,Int.reduceToNat,Int.reduceLE,Int.reduceLT,Int.reduceAdd,Int.reduceNeg,Nat.reduceMul,T135]
   refine drawW_fixed mixedOrders L135_6_eq P135_6_eq ?_
   simp (maxSteps:=400000) only[wF,storeA,reduceCtorEq,Nat.reduceAdd,Nat.reduceSub,Nat.reduceEqDiff,Nat.reduceLeDiff,Int.reduceToNat,Int.reduceLE,Int.reduceLT,Int.reduceAdd,Int.reduceNeg,Nat.reduceMul,L135_6,T135,row1,q0,q1,q2,ew,el,indexAddrA]
   refine⟨?_,by omega,o1⟩
   rw[←hR]
   simp[refK,hp]
  | false=>
   simp (maxSteps:=400000) only[wF,storeA,reduceCtorEq,Nat.reduceAdd,Nat.reduceSub,Nat.reduceEqDiff,Nat.reduceLeDiff,Int.reduceToNat,Int.reduceLE,Int.reduceLT,Int.reduceAdd,Int.reduceNeg,Nat.reduceMul,T135,ew]
   refine⟨(4,J1),⟨by simp,?_,row1,Nat.le_refl _,by simp only;omega,by simp only;omega,o1⟩,by simp,by simp[Fg],HW.refl _⟩
   rw[←hR]
   simp[refK,hp]
 ·have d0:decide (((4:Nat):Int)<5)=true:=rfl
  have q0:(((4:Nat):Int)<((5:Nat):Int))=True:=by simp
  have ew:IntKind.i64.wrap (((4:Nat):Int)+1)=((5:Nat):Int):=by rw[wrap64]<;>omega
  have el:IntKind.i64.wrap ((i:Int)+((6:Nat):Int))=((i+6:Nat):Int):=by rw[wrap64]<;>omega
  have q1:(((4:Nat):Int)≤((5:Nat):Int))=True:=by simp
  have q2:(((5:Nat):Int)≤((5:Nat):Int))=True:=by simp
  simp (maxSteps:=400000) only[wF,storeA,reduceCtorEq,Nat.reduceAdd,Nat.reduceSub,Nat.reduceEqDiff,Nat.reduceLeDiff,Int.reduceToNat,Int.reduceLE,Int.reduceLT,Int.reduceAdd,Int.reduceNeg,Nat.reduceMul,T135,d0,q0,hrow,indexAddrA]
  refine AInv.pureK B159 (r_begins_ok G hi (by omega) (by simp)) fun J1 h1=>?_
  have n1:=h1.1
  have row1:=hrow
  rw[←h1.2]at row1
  have o1:∀j,j<H.next→J1.get j=H.get j:=fun j hj=>by rw[h1.2];exact g4 j hj
  cases hp:Lib.hasPrefix (s.drop i) [38,97,112,111,115,59]with
  | true=>
   simp (maxSteps:=400000) only[wF,storeA,reduceCtorEq,Nat.reduceAdd,Nat.reduceSub,Nat.reduceEqDiff,Nat.reduceLeDiff,Int.reduceToNat,Int.reduceLE,Int.reduceLT,Int.reduceAdd,Int.reduceNeg,Nat.reduceMul,T135]
   refine drawW_fixed mixedOrders L135_6_eq P135_6_eq ?_
   simp (maxSteps:=400000) only[wF,storeA,reduceCtorEq,Nat.reduceAdd,Nat.reduceSub,Nat.reduceEqDiff,Nat.reduceLeDiff,Int.reduceToNat,Int.reduceLE,Int.reduceLT,Int.reduceAdd,Int.reduceNeg,Nat.reduceMul,L135_6,T135,row1,q0,q1,q2,ew,el,indexAddrA]
   refine⟨?_,by omega,o1⟩
   rw[←hR]
   simp[refK,hp]
  | false=>
   simp (maxSteps:=400000) only[wF,storeA,reduceCtorEq,Nat.reduceAdd,Nat.reduceSub,Nat.reduceEqDiff,Nat.reduceLeDiff,Int.reduceToNat,Int.reduceLE,Int.reduceLT,Int.reduceAdd,Int.reduceNeg,Nat.reduceMul,T135,ew]
   refine⟨(5,J1),⟨by simp,?_,row1,Nat.le_refl _,by simp only;omega,by simp only;omega,o1⟩,by simp,by simp[Fg],HW.refl _⟩
   rw[←hR]
   simp[refK,hp]
 ·have q0:(((5:Nat):Int)<((5:Nat):Int))=False:=by simp
  have e2:IntKind.i64.wrap ((i:Int)+2)=((i+2:Nat):Int):=by rw[wrap64]<;>omega
  have e3:IntKind.i64.wrap (((i+2:Nat):Int)+1)=((i+3:Nat):Int):=by rw[wrap64]<;>omega
  simp (maxSteps:=400000) only[wF,storeA,reduceCtorEq,Nat.reduceAdd,Nat.reduceSub,Nat.reduceEqDiff,Nat.reduceLeDiff,Int.reduceToNat,Int.reduceLE,Int.reduceLT,Int.reduceAdd,Int.reduceNeg,Nat.reduceMul,T135,q0,e2]
  refine AInv.pureK B159 (r_begins_ok G hi (by omega) (by simp)) fun J1 h1=>?_
  have n1:=h1.1
  have o1:∀j,j<H.next→J1.get j=H.get j:=fun j hj=>by rw[h1.2];exact g4 j hj
  have fin:∀(base from_:Nat) (J:AHeap),True:=fun _ _ _=>trivial
  cases hp:Lib.hasPrefix (s.drop i) [38,35,120]with
  | true=>
   have hpl:=hasPrefix_len hp
   simp only[List.length_drop,List.length_cons,List.length_nil]at hpl
   have hRf:refW s i=refNum s 16 (i+3):=by rw[←hR];simp[refK,hp]
   rw[hRf]
   simp (maxSteps:=400000) only[wF,storeA,reduceCtorEq,Nat.reduceAdd,Nat.reduceSub,Nat.reduceEqDiff,Nat.reduceLeDiff,Int.reduceToNat,Int.reduceLE,Int.reduceLT,Int.reduceAdd,Int.reduceNeg,Nat.reduceMul,T135,e3]
   refine ATrS.loopK (κ:=Nat × Nat × AHeap) (fun x=>[.str s,.int .i64 i,.und,.und,.str [],.int .i64 0,.und,.und,.int .i64 16,.int .i64 x.1,.int .i64 (i+3:Nat),.int .i64 x.2.1]++List.replicate 84 .und) (fun x=>x.2.2)
    (RunAt s 16 (i+3) J1) (fun x=>s.length-x.1) ⟨(i+3,0,J1),⟨Nat.le_refl _,(by omega),by simp,rfl,Nat.zero_le _,Keeps.refl _⟩,by simp[Fg],HW.refl _⟩ ?_
   rintro⟨k,n,J⟩ ⟨k1,k2,k3,k4,k5,hH⟩
   simp only at k1 k2 k3 k4 k5 hH
   have nJ:=hH.1
   have stop:(runR 16 (s.drop k) n).1=0→(runR 16 (s.drop k) n).2=n→∀(J':AHeap),Keeps J J'→True:=fun _ _ _ _=>trivial
   by_cases hlt:k<s.length∧digR (s.getD k 0)<16
   ·obtain⟨hlt,hdg⟩:=hlt
    have hgd:s.getD k 0=s[k]:=by rw[List.getD_eq_getElem?_getD,List.getElem?_eq_getElem hlt];rfl
    rw[hgd]at hdg
    have hg:s[k]?=some s[k]:=List.getElem?_eq_getElem hlt
    have hd:=List.drop_eq_getElem_cons hlt
    rw[hd]at k3 k4
    generalize s[k]=c at hg hd hdg k3 k4
    simp only[runR,if_pos hdg]at k3 k4
    have d1:decide ((k:Int)<(s.length:Int))=true:=by simp;omega
    have d2:decide ((digR c:Int)<16)=true:=by simp;omega
    have w1:IntKind.i64.wrap ((n:Int)*16)=((n*16:Nat):Int):=by rw[wrap64]<;>omega
    have w2:IntKind.i64.wrap (((n*16:Nat):Int)+(digR c:Int))=((n*16+digR c:Nat):Int):=by rw[wrap64]<;>omega
    have w3:(if(1114112:Int)<((n*16+digR c:Nat):Int)then(1114112:Int)else((n*16+digR c:Nat):Int))=((min (n*16+digR c) 1114112:Nat):Int):=by split<;>omega
    have ew:IntKind.i64.wrap ((k:Int)+1)=((k+1:Nat):Int):=by rw[wrap64]<;>omega
    simp (maxSteps:=400000) only[wF,storeA,reduceCtorEq,Nat.reduceAdd,Nat.reduceSub,Nat.reduceEqDiff,Nat.reduceLeDiff,Int.reduceToNat,Int.reduceLE,Int.reduceLT,Int.reduceAdd,Int.reduceNeg,Nat.reduceMul,T135,d1,hg]
    refine AInv.pureK B160 (r_digit_ok G c) fun Ja ha=>?_
    simp (maxSteps:=400000) only[wF,storeA,reduceCtorEq,Nat.reduceAdd,Nat.reduceSub,Nat.reduceEqDiff,Nat.reduceLeDiff,Int.reduceToNat,Int.reduceLE,Int.reduceLT,Int.reduceAdd,Int.reduceNeg,Nat.reduceMul,T135,d2,w1,hg]
    refine AInv.pureK B160 (r_digit_ok G c) fun Jb hb=>?_
    simp (maxSteps:=400000) only[wF,storeA,reduceCtorEq,Nat.reduceAdd,Nat.reduceSub,Nat.reduceEqDiff,Nat.reduceLeDiff,Int.reduceToNat,Int.reduceLE,Int.reduceLT,Int.reduceAdd,Int.reduceNeg,Nat.reduceMul,T135,w2,w3,ew]
    exact⟨(k+1,min (n*16+digR c) 1114112,Jb),⟨by simp only;omega,hlt,by simp only;omega,k4,by simp only;omega,(hH.trans ha).trans hb⟩,by simp only;omega,by simp[Fg],HW.refl _⟩
   · -- the run ends
    have hrun:runR 16 (s.drop k) n=(0,n):=by
     by_cases hl:k<s.length
     ·have hgd:s.getD k 0=s[k]:=by rw[List.getD_eq_getElem?_getD,List.getElem?_eq_getElem hl];rfl
      rw[List.drop_eq_getElem_cons hl,runR,if_neg (fun h=>hlt ⟨hl,by rw[hgd];exact h⟩)]
     ·rw[List.drop_eq_nil_of_le (by omega)]
      rfl
    rw[hrun]at k3 k4
    simp only at k3 k4
    have hrf:refNum s 16 (i+3)=if k=i+3∨Lib.hasPrefix (s.drop k) [59]=false∨(charS n).2=false then(([],-1):List UInt8 × Int)else((charS n).1,((k+1:Nat):Int)):=by
     unfold refNum
     simp only[←k3,←k4]
     have e1:i+3+(k-(i+3)+0)=k:=by omega
     rw[e1]
     have e2:(k-(i+3)+0=0)=(k=i+3):=by rw[eq_iff_iff];omega
     simp only[e2]
    rw[hrf]
    have after:∀(Jc:AHeap),Keeps J Jc→True:=fun _ _=>trivial
    have tailK:∀Jc:AHeap,Keeps J Jc→H.next≤Jc.next∧∀j,j<H.next→Jc.get j=H.get j:=fun Jc hc=>⟨by have:=hc.1;omega,fun j hj=>by rw[hc.2,hH.2];exact o1 j hj⟩
    by_cases hl:k<s.length
    ·have hg:s[k]?=some s[k]:=List.getElem?_eq_getElem hl
     have hgd:s.getD k 0=s[k]:=by rw[List.getD_eq_getElem?_getD,hg];rfl
     have hdg:¬digR s[k]<16:=fun h=>hlt ⟨hl,by rw[hgd];exact h⟩
     generalize s[k]=c at hg hdg
     have d1:decide ((k:Int)<(s.length:Int))=true:=by simp;omega
     have d2:decide ((digR c:Int)<16)=false:=by simp;omega
     simp (maxSteps:=400000) only[wF,storeA,reduceCtorEq,Nat.reduceAdd,Nat.reduceSub,Nat.reduceEqDiff,Nat.reduceLeDiff,Int.reduceToNat,Int.reduceLE,Int.reduceLT,Int.reduceAdd,Int.reduceNeg,Nat.reduceMul,T135,d1,hg]
     refine AInv.pureK B160 (r_digit_ok G c) fun Jc hc=>?_
     obtain⟨t1,t2⟩:=tailK Jc hc
     simp (maxSteps:=400000) only[wF,storeA,reduceCtorEq,Nat.reduceAdd,Nat.reduceSub,Nat.reduceEqDiff,Nat.reduceLeDiff,Int.reduceToNat,Int.reduceLE,Int.reduceLT,Int.reduceAdd,Int.reduceNeg,Nat.reduceMul,T135,d2,sliceLit,fillA,zerosA,AV.boxable,Nat.le_refl,Nat.reduceLT]
     refine AInv.retK B161 (r_from_ok (AHeap.get_allocAt_same _ _ _)) (fun v Jd hq=>?_) (fun v Jd hq=>by cases hq.1)
     obtain⟨hv,hd⟩:=hq
     cases hv
     have nd:=hd.1
     simp only[AHeap.next_allocAt]at nd
     have od:∀j,j<H.next→Jd.get j=H.get j:=fun j hj=>by rw[hd.2 j (by simp only[AHeap.next_allocAt];omega),AHeap.get_allocAt_ne _ _ (by omega)];exact t2 j hj
     by_cases hk0:k=i+3
     ·have z1:((k:Int)==((i+3:Nat):Int))=true:=by rw[hk0,beq_self_eq_true]
      rw[if_pos (.inl hk0)]
      simp (maxSteps:=400000) only[wF,storeA,reduceCtorEq,Nat.reduceAdd,Nat.reduceSub,Nat.reduceEqDiff,Nat.reduceLeDiff,Int.reduceToNat,Int.reduceLE,Int.reduceLT,Int.reduceAdd,Int.reduceNeg,Nat.reduceMul,T135,z1]
      exact⟨by omega,od⟩
     ·have z1:((k:Int)==((i+3:Nat):Int))=false:=by rw[beq_eq_false_iff_ne];omega
      simp (maxSteps:=400000) only[wF,storeA,reduceCtorEq,Nat.reduceAdd,Nat.reduceSub,Nat.reduceEqDiff,Nat.reduceLeDiff,Int.reduceToNat,Int.reduceLE,Int.reduceLT,Int.reduceAdd,Int.reduceNeg,Nat.reduceMul,T135,z1]
      refine AInv.pureK B159 (r_begins_ok G k2 (by omega) (by simp)) fun Je he=>?_
      have ne:=he.1
      have oe:∀j,j<H.next→Je.get j=H.get j:=fun j hj=>by rw[he.2];exact od j hj
      cases hp59:Lib.hasPrefix (s.drop k) [59]with
      | false=>
       rw[if_pos (.inr (.inl rfl))]
       simp (maxSteps:=400000) only[wF,storeA,reduceCtorEq,Nat.reduceAdd,Nat.reduceSub,Nat.reduceEqDiff,Nat.reduceLeDiff,Int.reduceToNat,Int.reduceLE,Int.reduceLT,Int.reduceAdd,Int.reduceNeg,Nat.reduceMul,T135]
       exact⟨by omega,oe⟩
      | true=>
       cases hch:(charS n).2 with
       | false=>
        rw[if_pos (.inr (.inr rfl))]
        have z2:((10:Int) != 0)=true:=rfl
        simp (maxSteps:=400000) only[wF,storeA,reduceCtorEq,Nat.reduceAdd,Nat.reduceSub,Nat.reduceEqDiff,Nat.reduceLeDiff,Int.reduceToNat,Int.reduceLE,Int.reduceLT,Int.reduceAdd,Int.reduceNeg,Nat.reduceMul,T135,Bool.false_eq_true,z2]
        exact⟨by omega,oe⟩
       | true=>
        rw[if_neg (by simp[hk0])]
        have z2:((0:Int) != 0)=false:=rfl
        have ew:IntKind.i64.wrap ((k:Int)+1)=((k+1:Nat):Int):=by rw[wrap64]<;>omega
        simp (maxSteps:=400000) only[wF,storeA,reduceCtorEq,Nat.reduceAdd,Nat.reduceSub,Nat.reduceEqDiff,Nat.reduceLeDiff,Int.reduceToNat,Int.reduceLE,Int.reduceLT,Int.reduceAdd,Int.reduceNeg,Nat.reduceMul,T135,z2,ew]
        exact⟨by omega,oe⟩
    ·have d1:decide ((k:Int)<(s.length:Int))=false:=by simp;omega
     obtain⟨t1,t2⟩:=tailK J (Keeps.refl J)
     generalize J=Jc at t1 t2
     simp (maxSteps:=400000) only[wF,storeA,reduceCtorEq,Nat.reduceAdd,Nat.reduceSub,Nat.reduceEqDiff,Nat.reduceLeDiff,Int.reduceToNat,Int.reduceLE,Int.reduceLT,Int.reduceAdd,Int.reduceNeg,Nat.reduceMul,T135,d1,sliceLit,fillA,zerosA,AV.boxable,Nat.le_refl,Nat.reduceLT]
     refine AInv.retK B161 (r_from_ok (AHeap.get_allocAt_same _ _ _)) (fun v Jd hq=>?_) (fun v Jd hq=>by cases hq.1)
     obtain⟨hv,hd⟩:=hq
     cases hv
     have nd:=hd.1
     simp only[AHeap.next_allocAt]at nd
     have od:∀j,j<H.next→Jd.get j=H.get j:=fun j hj=>by rw[hd.2 j (by simp only[AHeap.next_allocAt];omega),AHeap.get_allocAt_ne _ _ (by omega)];exact t2 j hj
     by_cases hk0:k=i+3
     ·have z1:((k:Int)==((i+3:Nat):Int))=true:=by rw[hk0,beq_self_eq_true]
      rw[if_pos (.inl hk0)]
      simp (maxSteps:=400000) only[wF,storeA,reduceCtorEq,Nat.reduceAdd,Nat.reduceSub,Nat.reduceEqDiff,Nat.reduceLeDiff,Int.reduceToNat,Int.reduceLE,Int.reduceLT,Int.reduceAdd,Int.reduceNeg,Nat.reduceMul,T135,z1]
      exact⟨by omega,od⟩
     ·have z1:((k:Int)==((i+3:Nat):Int))=false:=by rw[beq_eq_false_iff_ne];omega
      simp (maxSteps:=400000) only[wF,storeA,reduceCtorEq,Nat.reduceAdd,Nat.reduceSub,Nat.reduceEqDiff,Nat.reduceLeDiff,Int.reduceToNat,Int.reduceLE,Int.reduceLT,Int.reduceAdd,Int.reduceNeg,Nat.reduceMul,T135,z1]
      refine AInv.pureK B159 (r_begins_ok G k2 (by omega) (by simp)) fun Je he=>?_
      have ne:=he.1
      have oe:∀j,j<H.next→Je.get j=H.get j:=fun j hj=>by rw[he.2];exact od j hj
      cases hp59:Lib.hasPrefix (s.drop k) [59]with
      | false=>
       rw[if_pos (.inr (.inl rfl))]
       simp (maxSteps:=400000) only[wF,storeA,reduceCtorEq,Nat.reduceAdd,Nat.reduceSub,Nat.reduceEqDiff,Nat.reduceLeDiff,Int.reduceToNat,Int.reduceLE,Int.reduceLT,Int.reduceAdd,Int.reduceNeg,Nat.reduceMul,T135]
       exact⟨by omega,oe⟩
      | true=>
       cases hch:(charS n).2 with
       | false=>
        rw[if_pos (.inr (.inr rfl))]
        have z2:((10:Int) != 0)=true:=rfl
        simp (maxSteps:=400000) only[wF,storeA,reduceCtorEq,Nat.reduceAdd,Nat.reduceSub,Nat.reduceEqDiff,Nat.reduceLeDiff,Int.reduceToNat,Int.reduceLE,Int.reduceLT,Int.reduceAdd,Int.reduceNeg,Nat.reduceMul,T135,Bool.false_eq_true,z2]
        exact⟨by omega,oe⟩
       | true=>
        rw[if_neg (by simp[hk0])]
        have z2:((0:Int) != 0)=false:=rfl
        have ew:IntKind.i64.wrap ((k:Int)+1)=((k+1:Nat):Int):=by rw[wrap64]<;>omega
        simp (maxSteps:=400000) only[wF,storeA,reduceCtorEq,Nat.reduceAdd,Nat.reduceSub,Nat.reduceEqDiff,Nat.reduceLeDiff,Int.reduceToNat,Int.reduceLE,Int.reduceLT,Int.reduceAdd,Int.reduceNeg,Nat.reduceMul,T135,z2,ew]
        exact⟨by omega,oe⟩
  | false=>
   simp (maxSteps:=400000) only[wF,storeA,reduceCtorEq,Nat.reduceAdd,Nat.reduceSub,Nat.reduceEqDiff,Nat.reduceLeDiff,Int.reduceToNat,Int.reduceLE,Int.reduceLT,Int.reduceAdd,Int.reduceNeg,Nat.reduceMul,T135]
   refine AInv.pureK B159 (r_begins_ok G hi (by omega) (by simp)) fun J2 h2=>?_
   have o2:∀j,j<H.next→J2.get j=H.get j:=fun j hj=>by rw[h2.2];exact o1 j hj
   have n2:=h2.1
   cases hp2:Lib.hasPrefix (s.drop i) [38,35]with
   | false=>
    simp (maxSteps:=400000) only[wF,storeA,reduceCtorEq,Nat.reduceAdd,Nat.reduceSub,Nat.reduceEqDiff,Nat.reduceLeDiff,Int.reduceToNat,Int.reduceLE,Int.reduceLT,Int.reduceAdd,Int.reduceNeg,Nat.reduceMul,T135]
    refine⟨?_,by omega,o2⟩
    rw[←hR]
    simp[refK,hp,hp2]
   | true=>
    have hpl:=hasPrefix_len hp2
    simp only[List.length_drop,List.length_cons,List.length_nil]at hpl
    have hRf:refW s i=refNum s 10 (i+2):=by rw[←hR];simp[refK,hp,hp2]
    rw[hRf]
    simp (maxSteps:=400000) only[wF,storeA,reduceCtorEq,Nat.reduceAdd,Nat.reduceSub,Nat.reduceEqDiff,Nat.reduceLeDiff,Int.reduceToNat,Int.reduceLE,Int.reduceLT,Int.reduceAdd,Int.reduceNeg,Nat.reduceMul,T135]
    refine ATrS.loopK (κ:=Nat × Nat × AHeap) (fun x=>[.str s,.int .i64 i,.und,.und,.str [],.int .i64 0,.und,.und,.int .i64 10,.int .i64 x.1,.int .i64 (i+2:Nat),.int .i64 x.2.1]++List.replicate 84 .und) (fun x=>x.2.2)
     (RunAt s 10 (i+2) J2) (fun x=>s.length-x.1) ⟨(i+2,0,J2),⟨Nat.le_refl _,(by omega),by simp,rfl,Nat.zero_le _,Keeps.refl _⟩,by simp[Fg],HW.refl _⟩ ?_
    rintro⟨k,n,J⟩ ⟨k1,k2,k3,k4,k5,hH⟩
    simp only at k1 k2 k3 k4 k5 hH
    have nJ:=hH.1
    have stop:(runR 10 (s.drop k) n).1=0→(runR 10 (s.drop k) n).2=n→∀(J':AHeap),Keeps J J'→True:=fun _ _ _ _=>trivial
    by_cases hlt:k<s.length∧digR (s.getD k 0)<10
    ·obtain⟨hlt,hdg⟩:=hlt
     have hgd:s.getD k 0=s[k]:=by rw[List.getD_eq_getElem?_getD,List.getElem?_eq_getElem hlt];rfl
     rw[hgd]at hdg
     have hg:s[k]?=some s[k]:=List.getElem?_eq_getElem hlt
     have hd:=List.drop_eq_getElem_cons hlt
     rw[hd]at k3 k4
     generalize s[k]=c at hg hd hdg k3 k4
     simp only[runR,if_pos hdg]at k3 k4
     have d1:decide ((k:Int)<(s.length:Int))=true:=by simp;omega
     have d2:decide ((digR c:Int)<10)=true:=by simp;omega
     have w1:IntKind.i64.wrap ((n:Int)*10)=((n*10:Nat):Int):=by rw[wrap64]<;>omega
     have w2:IntKind.i64.wrap (((n*10:Nat):Int)+(digR c:Int))=((n*10+digR c:Nat):Int):=by rw[wrap64]<;>omega
     have w3:(if(1114112:Int)<((n*10+digR c:Nat):Int)then(1114112:Int)else((n*10+digR c:Nat):Int))=((min (n*10+digR c) 1114112:Nat):Int):=by split<;>omega
     have ew:IntKind.i64.wrap ((k:Int)+1)=((k+1:Nat):Int):=by rw[wrap64]<;>omega
     simp (maxSteps:=400000) only[wF,storeA,reduceCtorEq,Nat.reduceAdd,Nat.reduceSub,Nat.reduceEqDiff,Nat.reduceLeDiff,Int.reduceToNat,Int.reduceLE,Int.reduceLT,Int.reduceAdd,Int.reduceNeg,Nat.reduceMul,T135,d1,hg]
     refine AInv.pureK B160 (r_digit_ok G c) fun Ja ha=>?_
     simp (maxSteps:=400000) only[wF,storeA,reduceCtorEq,Nat.reduceAdd,Nat.reduceSub,Nat.reduceEqDiff,Nat.reduceLeDiff,Int.reduceToNat,Int.reduceLE,Int.reduceLT,Int.reduceAdd,Int.reduceNeg,Nat.reduceMul,T135,d2,w1,hg]
     refine AInv.pureK B160 (r_digit_ok G c) fun Jb hb=>?_
     simp (maxSteps:=400000) only[wF,storeA,reduceCtorEq,Nat.reduceAdd,Nat.reduceSub,Nat.reduceEqDiff,Nat.reduceLeDiff,Int.reduceToNat,Int.reduceLE,Int.reduceLT,Int.reduceAdd,Int.reduceNeg,Nat.reduceMul,T135,w2,w3,ew]
     exact⟨(k+1,min (n*10+digR c) 1114112,Jb),⟨by simp only;omega,hlt,by simp only;omega,k4,by simp only;omega,(hH.trans ha).trans hb⟩,by simp only;omega,by simp[Fg],HW.refl _⟩
    · -- the run ends
     have hrun:runR 10 (s.drop k) n=(0,n):=by
      by_cases hl:k<s.length
      ·have hgd:s.getD k 0=s[k]:=by rw[List.getD_eq_getElem?_getD,List.getElem?_eq_getElem hl];rfl
       rw[List.drop_eq_getElem_cons hl,runR,if_neg (fun h=>hlt ⟨hl,by rw[hgd];exact h⟩)]
      ·rw[List.drop_eq_nil_of_le (by omega)]
       rfl
     rw[hrun]at k3 k4
     simp only at k3 k4
     have hrf:refNum s 10 (i+2)=if k=i+2∨Lib.hasPrefix (s.drop k) [59]=false∨(charS n).2=false then(([],-1):List UInt8 × Int)else((charS n).1,((k+1:Nat):Int)):=by
      unfold refNum
      simp only[←k3,←k4]
      have e1:i+2+(k-(i+2)+0)=k:=by omega
      rw[e1]
      have e2:(k-(i+2)+0=0)=(k=i+2):=by rw[eq_iff_iff];omega
      simp only[e2]
     rw[hrf]
     have after:∀(Jc:AHeap),Keeps J Jc→True:=fun _ _=>trivial
     have tailK:∀Jc:AHeap,Keeps J Jc→H.next≤Jc.next∧∀j,j<H.next→Jc.get j=H.get j:=fun Jc hc=>⟨by have:=hc.1;omega,fun j hj=>by rw[hc.2,hH.2];exact o2 j hj⟩
     by_cases hl:k<s.length
     ·have hg:s[k]?=some s[k]:=List.getElem?_eq_getElem hl
      have hgd:s.getD k 0=s[k]:=by rw[List.getD_eq_getElem?_getD,hg];rfl
      have hdg:¬digR s[k]<10:=fun h=>hlt ⟨hl,by rw[hgd];exact h⟩
      generalize s[k]=c at hg hdg
      have d1:decide ((k:Int)<(s.length:Int))=true:=by simp;omega
      have d2:decide ((digR c:Int)<10)=false:=by simp;omega
      simp (maxSteps:=400000) only[wF,storeA,reduceCtorEq,Nat.reduceAdd,Nat.reduceSub,Nat.reduceEqDiff,Nat.reduceLeDiff,Int.reduceToNat,Int.reduceLE,Int.reduceLT,Int.reduceAdd,Int.reduceNeg,Nat.reduceMul,T135,d1,hg]
      refine AInv.pureK B160 (r_digit_ok G c) fun Jc hc=>?_
      obtain⟨t1,t2⟩:=tailK Jc hc
      simp (maxSteps:=400000) only[wF,storeA,reduceCtorEq,Nat.reduceAdd,Nat.reduceSub,Nat.reduceEqDiff,Nat.reduceLeDiff,Int.reduceToNat,Int.reduceLE,Int.reduceLT,Int.reduceAdd,Int.reduceNeg,Nat.reduceMul,T135,d2,sliceLit,fillA,zerosA,AV.boxable,Nat.le_refl,Nat.reduceLT]
      refine AInv.retK B161 (r_from_ok (AHeap.get_allocAt_same _ _ _)) (fun v Jd hq=>?_) (fun v Jd hq=>by cases hq.1)
      obtain⟨hv,hd⟩:=hq
      cases hv
      have nd:=hd.1
      simp only[AHeap.next_allocAt]at nd
      have od:∀j,j<H.next→Jd.get j=H.get j:=fun j hj=>by rw[hd.2 j (by simp only[AHeap.next_allocAt];omega),AHeap.get_allocAt_ne _ _ (by omega)];exact t2 j hj
      by_cases hk0:k=i+2
      ·have z1:((k:Int)==((i+2:Nat):Int))=true:=by rw[hk0,beq_self_eq_true]
       rw[if_pos (.inl hk0)]
       simp (maxSteps:=400000) only[wF,storeA,reduceCtorEq,Nat.reduceAdd,Nat.reduceSub,Nat.reduceEqDiff,Nat.reduceLeDiff,Int.reduceToNat,Int.reduceLE,Int.reduceLT,Int.reduceAdd,Int.reduceNeg,Nat.reduceMul,T135,z1]
       exact⟨by omega,od⟩
      ·have z1:((k:Int)==((i+2:Nat):Int))=false:=by rw[beq_eq_false_iff_ne];omega
       simp (maxSteps:=400000) only[wF,storeA,reduceCtorEq,Nat.reduceAdd,Nat.reduceSub,Nat.reduceEqDiff,Nat.reduceLeDiff,Int.reduceToNat,Int.reduceLE,Int.reduceLT,Int.reduceAdd,Int.reduceNeg,Nat.reduceMul,T135,z1]
       refine AInv.pureK B159 (r_begins_ok G k2 (by omega) (by simp)) fun Je he=>?_
       have ne:=he.1
       have oe:∀j,j<H.next→Je.get j=H.get j:=fun j hj=>by rw[he.2];exact od j hj
       cases hp59:Lib.hasPrefix (s.drop k) [59]with
       | false=>
        rw[if_pos (.inr (.inl rfl))]
        simp (maxSteps:=400000) only[wF,storeA,reduceCtorEq,Nat.reduceAdd,Nat.reduceSub,Nat.reduceEqDiff,Nat.reduceLeDiff,Int.reduceToNat,Int.reduceLE,Int.reduceLT,Int.reduceAdd,Int.reduceNeg,Nat.reduceMul,T135]
        exact⟨by omega,oe⟩
       | true=>
        cases hch:(charS n).2 with
        | false=>
         rw[if_pos (.inr (.inr rfl))]
         have z2:((10:Int) != 0)=true:=rfl
         simp (maxSteps:=400000) only[wF,storeA,reduceCtorEq,Nat.reduceAdd,Nat.reduceSub,Nat.reduceEqDiff,Nat.reduceLeDiff,Int.reduceToNat,Int.reduceLE,Int.reduceLT,Int.reduceAdd,Int.reduceNeg,Nat.reduceMul,T135,Bool.false_eq_true,z2]
         exact⟨by omega,oe⟩
        | true=>
         rw[if_neg (by simp[hk0])]
         have z2:((0:Int) != 0)=false:=rfl
         have ew:IntKind.i64.wrap ((k:Int)+1)=((k+1:Nat):Int):=by rw[wrap64]<;>omega
         simp (maxSteps:=400000) only[wF,storeA,reduceCtorEq,Nat.reduceAdd,Nat.reduceSub,Nat.reduceEqDiff,Nat.reduceLeDiff,Int.reduceToNat,Int.reduceLE,Int.reduceLT,Int.reduceAdd,Int.reduceNeg,Nat.reduceMul,T135,z2,ew]
         exact⟨by omega,oe⟩
     ·have d1:decide ((k:Int)<(s.length:Int))=false:=by simp;omega
      obtain⟨t1,t2⟩:=tailK J (Keeps.refl J)
      generalize J=Jc at t1 t2
      simp (maxSteps:=400000) only[wF,storeA,reduceCtorEq,Nat.reduceAdd,Nat.reduceSub,Nat.reduceEqDiff,Nat.reduceLeDiff,Int.reduceToNat,Int.reduceLE,Int.reduceLT,Int.reduceAdd,Int.reduceNeg,Nat.reduceMul,T135,d1,sliceLit,fillA,zerosA,AV.boxable,Nat.le_refl,Nat.reduceLT]
      refine AInv.retK B161 (r_from_ok (AHeap.get_allocAt_same _ _ _)) (fun v Jd hq=>?_) (fun v Jd hq=>by cases hq.1)
      obtain⟨hv,hd⟩:=hq
      cases hv
      have nd:=hd.1
      simp only[AHeap.next_allocAt]at nd
      have od:∀j,j<H.next→Jd.get j=H.get j:=fun j hj=>by rw[hd.2 j (by simp only[AHeap.next_allocAt];omega),AHeap.get_allocAt_ne _ _ (by omega)];exact t2 j hj
      by_cases hk0:k=i+2
      ·have z1:((k:Int)==((i+2:Nat):Int))=true:=by rw[hk0,beq_self_eq_true]
       rw[if_pos (.inl hk0)]
       simp (maxSteps:=400000) only[wF,storeA,reduceCtorEq,Nat.reduceAdd,Nat.reduceSub,Nat.reduceEqDiff,Nat.reduceLeDiff,Int.reduceToNat,Int.reduceLE,Int.reduceLT,Int.reduceAdd,Int.reduceNeg,Nat.reduceMul,T135,z1]
       exact⟨by omega,od⟩
      ·have z1:((k:Int)==((i+2:Nat):Int))=false:=by rw[beq_eq_false_iff_ne];omega
       simp (maxSteps:=400000) only[wF,storeA,reduceCtorEq,Nat.reduceAdd,Nat.reduceSub,Nat.reduceEqDiff,Nat.reduceLeDiff,Int.reduceToNat,Int.reduceLE,Int.reduceLT,Int.reduceAdd,Int.reduceNeg,Nat.reduceMul,T135,z1]
       refine AInv.pureK B159 (r_begins_ok G k2 (by omega) (by simp)) fun Je he=>?_
       have ne:=he.1
       have oe:∀j,j<H.next→Je.get j=H.get j:=fun j hj=>by rw[he.2];exact od j hj
       cases hp59:Lib.hasPrefix (s.drop k) [59]with
       | false=>
        rw[if_pos (.inr (.inl rfl))]
        simp (maxSteps:=400000) only[wF,storeA,reduceCtorEq,Nat.reduceAdd,Nat.reduceSub,Nat.reduceEqDiff,Nat.reduceLeDiff,Int.reduceToNat,Int.reduceLE,Int.reduceLT,Int.reduceAdd,Int.reduceNeg,Nat.reduceMul,T135]
        exact⟨by omega,oe⟩
       | true=>
        cases hch:(charS n).2 with
        | false=>
         rw[if_pos (.inr (.inr rfl))]
         have z2:((10:Int) != 0)=true:=rfl
         simp (maxSteps:=400000) only[wF,storeA,reduceCtorEq,Nat.reduceAdd,Nat.reduceSub,Nat.reduceEqDiff,Nat.reduceLeDiff,Int.reduceToNat,Int.reduceLE,Int.reduceLT,Int.reduceAdd,Int.reduceNeg,Nat.reduceMul,T135,Bool.false_eq_true,z2]
         exact⟨by omega,oe⟩
        | true=>
         rw[if_neg (by simp[hk0])]
         have z2:((0:Int) != 0)=false:=rfl
         have ew:IntKind.i64.wrap ((k:Int)+1)=((k+1:Nat):Int):=by rw[wrap64]<;>omega
         simp (maxSteps:=400000) only[wF,storeA,reduceCtorEq,Nat.reduceAdd,Nat.reduceSub,Nat.reduceEqDiff,Nat.reduceLeDiff,Int.reduceToNat,Int.reduceLE,Int.reduceLT,Int.reduceAdd,Int.reduceNeg,Nat.reduceMul,T135,z2,ew]
         exact⟨by omega,oe⟩
end Go.Ab
namespace Go.Ab
open Go Go.Lib Go.Proofs
theorem cut59_cons (c:UInt8) (l:List UInt8):Lib.cut (c::l) [59]=if c=59 then([],l,true)else(c::(Lib.cut l [59]).1,(Lib.cut l [59]).2.1,(Lib.cut l [59]).2.2):=by
 by_cases h:c=59
 ·subst h
  simp[Lib.cut,Lib.index,List.isPrefixOf]
 ·have hp:([59]:List UInt8).isPrefixOf (c::l)=false:=by simp[List.isPrefixOf,Ne.symm h]
  have hge:=Lib.index_ge l [59]
  rw[if_neg h]
  unfold Lib.cut
  simp only[Lib.index,hp,Bool.false_eq_true,if_false,beq_iff_eq]
  by_cases hm:Lib.index l [59] = -1
  ·rw[if_pos hm,hm]
   simp
  ·obtain⟨n,hn⟩:∃n:Nat,Lib.index l [59]=n:=⟨(Lib.index l [59]).toNat,by omega⟩
   rw[if_neg hm,hn,if_pos (by omega),if_pos (by omega)]
   have e:((n:Int)+1).toNat=n+1:=by omega
   rw[e,Int.toNat_natCast,List.take_succ_cons,show n+1+([59]:List UInt8).length=(n+([59]:List UInt8).length)+1 by simp only[List.length_singleton],List.drop_succ_cons]
theorem cut59_nil:Lib.cut [] [59]=([],[],false):=by simp[Lib.cut,Lib.index]
theorem cut59_name:∀(nm:List UInt8) (l:List UInt8),(∀c∈nm,c≠59)→(Lib.hasPrefix l (nm++[59])=true↔(Lib.cut l [59]).1=nm∧(Lib.cut l [59]).2.2=true)
 | [],[],_=>by simp[Lib.hasPrefix,cut59_nil]
 | [],c::l,_=>by
  rw[cut59_cons]
  by_cases h:c=59
  ·simp[Lib.hasPrefix,h,List.isPrefixOf]
  ·simp[Lib.hasPrefix,h,List.isPrefixOf,Ne.symm h]
 | a::nm,[],_=>by simp[Lib.hasPrefix,cut59_nil]
 | a::nm,c::l,hn=>by
  have ih:=cut59_name nm l fun c hc=>hn c (by simp[hc])
  have ha:a≠59:=hn a (by simp)
  rw[cut59_cons]
  unfold Lib.hasPrefix at ih ⊢
  rw[List.cons_append,List.isPrefixOf]
  simp only[Bool.and_eq_true,beq_iff_eq]
  by_cases h:c=59
  ·rw[if_pos h]
   constructor
   ·rintro⟨h1,_⟩
    exact absurd (h1.trans h) ha
   ·rintro⟨h1,_⟩
    cases h1
  ·rw[if_neg h]
   constructor
   ·rintro⟨rfl,h2⟩
    obtain⟨h3,h4⟩:=ih.1 h2
    exact⟨by rw[h3],h4⟩
   ·rintro⟨h1,h2⟩
    simp only[List.cons.injEq]at h1
    exact⟨h1.1.symm,ih.2 ⟨h1.2,h2⟩⟩
theorem dig_eq {base:Nat} (hb:base=10∨base=16) (c:UInt8):digitS base c=if digR c<base then some (digR c)else none:=by
 have h255:=c.toNat_lt
 unfold digitS digR
 rcases hb with rfl | rfl<;>(repeat' split)<;>first | rfl | (exfalso;omega) | (congr 1;omega)
theorem dig59:digR 59=99:=rfl
theorem num_eq {base:Nat} (hb:base=10∨base=16):∀(l:List UInt8) (n m:Nat),m=min n 1114112→n≤2147483647 →
  (match parseF base n (Lib.cut l [59]).1 with
   | some v=>(Lib.cut l [59]).2.2=true→(runR base l m).1=(Lib.cut l [59]).1.length∧Lib.hasPrefix (l.drop (runR base l m).1) [59]=true∧(runR base l m).2=min v 1114112
   | none=>(Lib.cut l [59]).2.2=true→Lib.hasPrefix (l.drop (runR base l m).1) [59]=false∨(runR base l m).2=1114112) ∧
  ((Lib.cut l [59]).2.2=false→Lib.hasPrefix (l.drop (runR base l m).1) [59]=false)
 | [],n,m,hm,hn=>by
  rw[cut59_nil]
  simp[parseF,runR,Lib.hasPrefix]
 | c::l,n,m,hm,hn=>by
  rw[cut59_cons]
  by_cases h:c=59
  ·subst h
   have h1:¬digR 59<base:=by rw[dig59];omega
   rw[if_pos rfl]
   simp only[parseF,runR,if_neg h1,List.drop_zero,List.length_nil]
   exact⟨fun _=>⟨trivial,by simp[Lib.hasPrefix,List.isPrefixOf],hm⟩,fun h=>by cases h⟩
  ·rw[if_neg h]
   simp only[parseF,dig_eq hb]
   by_cases hd:digR c<base
   ·rw[if_pos hd]
    simp only[runR,if_pos hd,List.drop_succ_cons]
    by_cases hv:n*base+digR c≤2147483647
    ·rw[if_pos hv]
     have hmm:min (m*base+digR c) 1114112=min (n*base+digR c) 1114112:=by
      rcases(show m=n∨(m=1114112∧1114112<n) by omega)with rfl | ⟨rfl,h1⟩
      ·rfl
      ·have a1:1114112≤1114112*base+digR c:=by rcases hb with rfl | rfl<;>omega
       have a2:1114112≤n*base+digR c:=by rcases hb with rfl | rfl<;>omega
       rw[Nat.min_eq_right a1,Nat.min_eq_right a2]
     obtain⟨ih1,ih2⟩:=num_eq hb l (n*base+digR c) (min (m*base+digR c) 1114112) hmm hv
     refine⟨?_,ih2⟩
     cases hp:parseF base (n*base+digR c) (Lib.cut l [59]).1 with
     | none=>
      rw[hp]at ih1
      exact ih1
     | some v=>
      rw[hp]at ih1
      simp only at ih1 ⊢
      intro h2
      obtain⟨i1,i2,i3⟩:=ih1 h2
      exact⟨by rw[i1];rfl,i2,i3⟩
    ·rw[if_neg hv]
     have hsat:m*base+digR c≥1114112:=by
      rcases(show m=n∨(m=1114112∧1114112<n) by omega)with rfl | ⟨rfl,h1⟩
      ·omega
      ·rcases hb with rfl | rfl<;>omega
     have hr:=runR_sat hb l
     rw[Nat.min_eq_right hsat]
     refine⟨fun _ => .inr hr,fun hc=>?_⟩
     exact(num_eq hb l 1114112 1114112 rfl (by omega)).2 hc
   ·rw[if_neg hd]
    simp only[runR,if_neg hd,List.drop_zero]
    have hp:Lib.hasPrefix (c::l) [59]=false:=by simp[Lib.hasPrefix,List.isPrefixOf,Ne.symm h]
    exact⟨fun _ => .inl hp,fun _=>hp⟩
where
 runR_sat {base:Nat} (hb:base=10∨base=16):∀(l:List UInt8),(runR base l 1114112).2=1114112
 | []=>rfl
 | c::l=>by
  simp only[runR]
  split
  ·have:min (1114112*base+digR c) 1114112=1114112:=Nat.min_eq_right (by rcases hb with rfl | rfl<;>omega)
   rw[this]
   exact runR_sat hb l
  ·rfl
def refD (t:List UInt8):List UInt8 × Nat × Bool:=
 if(Lib.cut t [59]).2.2=true then
  if(entityS (Lib.cut t [59]).1).2=true then((entityS (Lib.cut t [59]).1).1,(Lib.cut t [59]).1.length,true)
  else match numS (Lib.cut t [59]).1 with
   | none=>([],0,false)
   | some n=>((charS n).1,(Lib.cut t [59]).1.length,(charS n).2)
 else([],0,false)
theorem refS_refD (s:List UInt8) (i:Nat):(refS s i).2.2=(refD (s.drop (i+1))).2.2∧((refD (s.drop (i+1))).2.2=true→(refS s i).1=(refD (s.drop (i+1))).1∧(refS s i).2.1=i+1+(refD (s.drop (i+1))).2.1+1):=by
 unfold refS refD
 simp only
 by_cases h1:(Lib.cut (s.drop (i+1)) [59]).2.2=true
 ·rw[if_pos h1,if_pos h1]
  by_cases h2:(entityS (Lib.cut (s.drop (i+1)) [59]).1).2=true
  ·rw[if_pos h2,if_pos h2]
   exact⟨rfl,fun _=>⟨rfl,rfl⟩⟩
  ·rw[if_neg h2,if_neg h2]
   cases numS (Lib.cut (s.drop (i+1)) [59]).1 with
   | none=>exact⟨rfl,fun h=>by cases h⟩
   | some n=>exact⟨rfl,fun _=>⟨rfl,rfl⟩⟩
 ·rw[if_neg h1,if_neg h1]
  exact⟨rfl,fun h=>by cases h⟩
theorem numS_some {nm:List UInt8} {n:Nat} (h:numS nm=some n):(∃l,nm=35::120::l∧l≠[]∧parseF 16 0 l=some n)∨(∃l,nm=35::l∧l≠[]∧l.head?≠some 120∧parseF 10 0 l=some n):=by
 unfold numS at h
 split at h
 ·rename_i h1
  unfold Lib.hasPrefix at h1
  rw[List.isPrefixOf_iff_prefix]at h1
  obtain⟨l,rfl⟩:=h1
  simp only[List.singleton_append,List.drop_succ_cons,List.drop_zero]at h
  split at h
  ·rename_i h2
   unfold Lib.hasPrefix at h2
   rw[List.isPrefixOf_iff_prefix]at h2
   obtain⟨m,rfl⟩:=h2
   left
   unfold parseS at h
   split at h
   ·cases h
   ·rename_i h3
    exact⟨_,rfl,h3,h⟩
  ·rename_i h2
   right
   unfold parseS at h
   split at h
   ·cases h
   ·rename_i h3
    refine⟨l,rfl,h3,fun h4=>h2 ?_,h⟩
    cases l with
    | nil=>simp at h4
    | cons a l=>simp at h4;simp[Lib.hasPrefix,List.isPrefixOf,h4]
 ·cases h
theorem refNum_eq {s:List UInt8} {base f:Nat} (hb:base=10∨base=16):refNum s base f =
  if(Lib.cut (s.drop f) [59]).2.2=true∧(Lib.cut (s.drop f) [59]).1≠[]then
   (match parseF base 0 (Lib.cut (s.drop f) [59]).1 with
    | none=>([],-1)
    | some v=>if(charS v).2=true then((charS v).1,((f+(Lib.cut (s.drop f) [59]).1.length+1:Nat):Int))else([],-1))
  else([],-1):=by
 obtain⟨h1,h2⟩:=num_eq hb (s.drop f) 0 0 (by simp) (by omega)
 unfold refNum
 simp only[List.drop_drop]at h1 h2 ⊢
 cases hc:(Lib.cut (s.drop f) [59]).2.2 with
 | false=>
  rw[if_pos (.inr (.inl (h2 hc))),if_neg (by simp)]
 | true=>
  cases hp:parseF base 0 (Lib.cut (s.drop f) [59]).1 with
  | none=>
   rw[hp]at h1
   simp only at h1
   have hbad:(runR base (s.drop f) 0).1=0∨Lib.hasPrefix (s.drop (f+(runR base (s.drop f) 0).1)) [59]=false∨(charS (runR base (s.drop f) 0).2).2=false:=by
    rcases h1 hc with h3 | h3
    ·exact .inr (.inl h3)
    ·right;right
     rw[h3]
     rfl
   rw[if_pos hbad]
   split<;>rfl
  | some v=>
   rw[hp]at h1
   obtain⟨i1,i2,i3⟩:=h1 hc
   rw[i1]at i2
   rw[i1,i2,i3]
   have hch:charS (min v 1114112)=charS v∨((charS (min v 1114112)).2=false∧(charS v).2=false):=by
    by_cases hv:v≤1114112
    ·rw[Nat.min_eq_left hv];exact .inl rfl
    ·right
     rw[Nat.min_eq_right (by omega)]
     refine⟨rfl,?_⟩
     unfold charS
     have:isCharS (v:Int)=false:=by
      cases h:isCharS (v:Int)with
      | false=>rfl
      | true=>rw[isCharS_iff]at h;omega
     rw[this]
     rfl
   by_cases hn:(Lib.cut (s.drop f) [59]).1=[]
   ·rw[if_pos (.inl (by rw[hn];rfl)),if_neg (by simp[hn])]
   ·have hl:(Lib.cut (s.drop f) [59]).1.length≠0:=fun h=>hn (List.length_eq_zero_iff.1 h)
    rw[if_pos (⟨rfl,hn⟩:true=true∧_≠[])]
    rcases hch with hch | ⟨hc1,hc2⟩
    ·rw[hch]
     cases h3:(charS v).2 with
     | false=>simp[h3]
     | true=>simp[hl,h3]
    ·simp[hc1,hc2]
theorem cut59_no (t:List UInt8):∀c∈(Lib.cut t [59]).1,c≠59:=by
 induction t with
 | nil=>simp[cut59_nil]
 | cons c l ih=>
  rw[cut59_cons]
  split
  ·simp
  ·rename_i h
   intro d hd
   rcases List.mem_cons.1 hd with rfl | hd
   ·exact h
   ·exact ih d hd
theorem refW_eq {s:List UInt8} {i:Nat} {t:List UInt8} (h:s.drop i=38::t):refW s i=if(refD t).2.2=true then((refD t).1,((i+1+(refD t).2.1+1:Nat):Int))else([],-1):=by
 have pe:∀nm:List UInt8,(∀c∈nm,c≠59)→(Lib.hasPrefix (s.drop i) (38::(nm++[59]))=true↔(Lib.cut t [59]).1=nm∧(Lib.cut t [59]).2.2=true):=fun nm hn=>by
  rw[h,←cut59_name nm t hn]
  simp[Lib.hasPrefix,List.isPrefixOf]
 have h1:=pe [108,116] (by decide)
 have h2:=pe [103,116] (by decide)
 have h3:=pe [97,109,112] (by decide)
 have h4:=pe [113,117,111,116] (by decide)
 have h5:=pe [97,112,111,115] (by decide)
 simp only[List.cons_append,List.nil_append]at h1 h2 h3 h4 h5
 unfold refW refD
 have dt:=(drop_one h).2.1
 cases hc:(Lib.cut t [59]).2.2 with
 | false=>
  rw[hc]at h1 h2 h3 h4 h5
  have hx:Lib.hasPrefix (s.drop i) [38,35,120]=true→refNum s 16 (i+3)=([],-1):=fun hp=>by
   rw[h]at hp
   cases t with
   | nil=>simp[Lib.hasPrefix,List.isPrefixOf]at hp
   | cons a t=>
   cases t with
   | nil=>simp[Lib.hasPrefix,List.isPrefixOf]at hp
   | cons b t=>
    simp[Lib.hasPrefix,List.isPrefixOf]at hp
    obtain⟨rfl,rfl⟩:=hp
    have d3:s.drop (i+3)=t:=by
     have:=(drop_one ((drop_one dt).2.1)).2.1
     exact this
    rw[cut59_cons,if_neg (by decide),cut59_cons,if_neg (by decide)]at hc
    rw[refNum_eq (.inr rfl),d3,hc,if_neg (by simp)]
  have hy:Lib.hasPrefix (s.drop i) [38,35]=true→refNum s 10 (i+2)=([],-1):=fun hp=>by
   rw[h]at hp
   cases t with
   | nil=>simp[Lib.hasPrefix,List.isPrefixOf]at hp
   | cons a t=>
    simp[Lib.hasPrefix,List.isPrefixOf]at hp
    subst hp
    have d3:s.drop (i+2)=t:=(drop_one dt).2.1
    rw[cut59_cons,if_neg (by decide)]at hc
    rw[refNum_eq (.inl rfl),d3,hc,if_neg (by simp)]
  rw[if_neg (fun hh=>by simpa using h1.1 hh),if_neg (fun hh=>by simpa using h2.1 hh),if_neg (fun hh=>by simpa using h3.1 hh),if_neg (fun hh=>by simpa using h4.1 hh),if_neg (fun hh=>by simpa using h5.1 hh)]
  simp only[Bool.false_eq_true,if_false]
  split
  ·rename_i hp;exact hx hp
  split
  ·rename_i hp;exact hy hp
  ·rfl
 | true=>
  rw[hc]at h1 h2 h3 h4 h5
  simp only[if_true]
  have hno:=cut59_no t
  generalize hnm:(Lib.cut t [59]).1=nm at h1 h2 h3 h4 h5 hno
  by_cases e1:nm=[108,116]
  ·subst e1
   rw[if_pos (h1.2 ⟨rfl,rfl⟩)]
   simp[entityS]
   omega
  rw[if_neg (fun hh=>e1 (h1.1 hh).1)]
  by_cases e2:nm=[103,116]
  ·subst e2
   rw[if_pos (h2.2 ⟨rfl,rfl⟩)]
   simp[entityS]
   omega
  rw[if_neg (fun hh=>e2 (h2.1 hh).1)]
  by_cases e3:nm=[97,109,112]
  ·subst e3
   rw[if_pos (h3.2 ⟨rfl,rfl⟩)]
   simp[entityS]
   omega
  rw[if_neg (fun hh=>e3 (h3.1 hh).1)]
  by_cases e4:nm=[113,117,111,116]
  ·subst e4
   rw[if_pos (h4.2 ⟨rfl,rfl⟩)]
   simp[entityS]
   omega
  rw[if_neg (fun hh=>e4 (h4.1 hh).1)]
  by_cases e5:nm=[97,112,111,115]
  ·subst e5
   rw[if_pos (h5.2 ⟨rfl,rfl⟩)]
   simp[entityS]
   omega
  rw[if_neg (fun hh=>e5 (h5.1 hh).1)]
  have hen:entityS nm=([],false):=by simp[entityS,e1,e2,e3,e4,e5]
  rw[hen]
  simp only[Bool.false_eq_true,if_false]
  cases t with
  | nil=>
   rw[cut59_nil]at hc
   cases hc
  | cons a t=>
   by_cases ha:a=35
   ·subst ha
    rw[cut59_cons,if_neg (by decide)]at hc hnm
    cases t with
    | nil=>
     rw[cut59_nil]at hc
     cases hc
    | cons b t=>
     by_cases hb:b=120
     ·subst hb
      have hp:Lib.hasPrefix (s.drop i) [38,35,120]=true:=by rw[h];simp[Lib.hasPrefix,List.isPrefixOf]
      have d3:s.drop (i+3)=t:=(drop_one ((drop_one dt).2.1)).2.1
      rw[cut59_cons,if_neg (by decide)]at hc hnm
      simp only at hc hnm
      rw[if_pos hp,refNum_eq (.inr rfl),d3,hc]
      subst hnm
      have hns:numS (35::120::(Lib.cut t [59]).1)=parseS 16 (Lib.cut t [59]).1:=by simp[numS,Lib.hasPrefix,List.isPrefixOf]
      rw[hns]
      unfold parseS
      by_cases hnil:(Lib.cut t [59]).1=[]
      ·rw[if_neg (by simp[hnil]),if_pos hnil]
       simp
      ·rw[if_pos ⟨rfl,hnil⟩,if_neg hnil]
       cases parseF 16 0 (Lib.cut t [59]).1 with
       | none=>simp
       | some v=>
        simp only[List.length_cons]
        cases (charS v).2 with
        | false=>simp
        | true=>
         simp only[if_true,Prod.mk.injEq,true_and]
         congr 1
         omega
     ·have hp:Lib.hasPrefix (s.drop i) [38,35,120]=false:=by rw[h];simp[Lib.hasPrefix,List.isPrefixOf,Ne.symm hb]
      have hp2:Lib.hasPrefix (s.drop i) [38,35]=true:=by rw[h];simp[Lib.hasPrefix,List.isPrefixOf]
      have d3:s.drop (i+2)=b::t:=(drop_one dt).2.1
      simp only at hc hnm
      rw[if_neg (by simp[hp]),if_pos hp2,refNum_eq (.inl rfl),d3,hc]
      subst hnm
      have hns:numS (35::(Lib.cut (b::t) [59]).1)=parseS 10 (Lib.cut (b::t) [59]).1:=by
       unfold numS
       rw[if_pos (by simp[Lib.hasPrefix,List.isPrefixOf])]
       rw[if_neg]
       ·rfl
       ·rw[cut59_cons]
        split
        ·simp[Lib.hasPrefix]
        ·simp[Lib.hasPrefix,List.isPrefixOf,Ne.symm hb]
      rw[hns]
      unfold parseS
      by_cases hnil:(Lib.cut (b::t) [59]).1=[]
      ·rw[if_neg (by simp[hnil]),if_pos hnil]
       simp
      ·rw[if_pos ⟨rfl,hnil⟩,if_neg hnil]
       cases parseF 10 0 (Lib.cut (b::t) [59]).1 with
       | none=>simp
       | some v=>
        simp only[List.length_cons]
        cases (charS v).2 with
        | false=>simp
        | true=>
         simp only[if_true,Prod.mk.injEq,true_and]
         congr 1
         omega
   ·have hp:Lib.hasPrefix (s.drop i) [38,35,120]=false:=by rw[h];simp[Lib.hasPrefix,List.isPrefixOf,Ne.symm ha]
    have hp2:Lib.hasPrefix (s.drop i) [38,35]=false:=by rw[h];simp[Lib.hasPrefix,List.isPrefixOf,Ne.symm ha]
    have hns:numS nm=none:=by
     rw[cut59_cons]at hnm
     unfold numS
     rw[if_neg]
     subst hnm
     split
     ·simp[Lib.hasPrefix]
     ·simp[Lib.hasPrefix,List.isPrefixOf,Ne.symm ha]
    rw[if_neg (by simp[hp]),if_neg (by simp[hp2]),hns]
    simp
end Go.Ab
namespace Go.Ab
open Go Go.Lib Go.Proofs
theorem cut59_take:∀(t:List UInt8) (m:Nat),(Lib.cut (t.take m) [59]).2.2=((Lib.cut t [59]).2.2&&decide ((Lib.cut t [59]).1.length+1≤m))∧((Lib.cut (t.take m) [59]).2.2=true→(Lib.cut (t.take m) [59]).1=(Lib.cut t [59]).1)
 | [],m=>by simp[cut59_nil]
 | c::t,0=>by simp[cut59_nil]
 | c::t,m+1=>by
  rw[List.take_succ_cons,cut59_cons,cut59_cons]
  by_cases h:c=59
  ·simp[h]
  ·obtain⟨h1,h2⟩:=cut59_take t m
   rw[if_neg h,if_neg h]
   simp only[h1,List.length_cons,Nat.add_le_add_iff_right]
   refine⟨trivial,fun hh=>?_⟩
   rw[h2 (by rw[h1];exact hh)]
theorem refD_ok_cut {t:List UInt8} (h:(refD t).2.2=true):(Lib.cut t [59]).2.2=true∧(refD t).2.1=(Lib.cut t [59]).1.length:=by
 unfold refD at h ⊢
 by_cases h1:(Lib.cut t [59]).2.2=true
 ·rw[if_pos h1]at h ⊢
  refine⟨h1,?_⟩
  by_cases h2:(entityS (Lib.cut t [59]).1).2=true
  ·rw[if_pos h2]
  ·rw[if_neg h2]at h ⊢
   cases hn:numS (Lib.cut t [59]).1 with
   | none=>rw[hn]at h;cases h
   | some n=>rfl
 ·rw[if_neg h1]at h
  cases h
theorem refD_take (t:List UInt8) (m:Nat):(refD (t.take m)).2.2=((refD t).2.2&&decide ((refD t).2.1+1≤m))∧((refD (t.take m)).2.2=true→refD (t.take m)=refD t):=by
 obtain⟨h1,h2⟩:=cut59_take t m
 cases hc:(Lib.cut (t.take m) [59]).2.2 with
 | true=>
  have h3:=h2 hc
  rw[hc]at h1
  have h4:(Lib.cut t [59]).2.2=true∧decide ((Lib.cut t [59]).1.length+1≤m)=true:=by simpa using h1.symm
  have he:refD (t.take m)=refD t:=by
   unfold refD
   rw[hc,h3,h4.1]
  refine⟨?_,fun _=>he⟩
  rw[he]
  cases hd:(refD t).2.2 with
  | false=>rfl
  | true=>
   rw[(refD_ok_cut hd).2,h4.2]
   rfl
 | false=>
  have hf:(refD (t.take m)).2.2=false:=by
   unfold refD
   rw[if_neg (by simp[hc])]
  refine⟨?_,fun h=>by rw[hf]at h;cases h⟩
  rw[hf]
  cases hd:(refD t).2.2 with
  | false=>rfl
  | true=>
   obtain⟨h3,h4⟩:=refD_ok_cut hd
   rw[hc,h3]at h1
   rw[h4]
   simpa using h1
theorem refD_len (t:List UInt8):(refD t).1.length≤4:=by
 unfold refD
 split
 ·split
  ·unfold entityS
   repeat' split
   all_goals simp
  ·split
   ·simp
   ·unfold charS
    split
    ·exact encodeRune_len _
    ·simp
 ·simp
theorem refD_bound {t:List UInt8} (h:(refD t).2.2=true):(refD t).2.1+1≤t.length:=by
 have:=(refD_take t t.length).1
 rw[List.take_length,h]at this
 simpa using this
def RValAt (s:List UInt8) (i e:Nat) (H:AHeap) (x:Nat × List UInt8 × AHeap):Prop:=
 i≤x.1∧x.1≤e∧x.2.1.length≤4*x.1∧valueL ((s.take e).drop i) (x.1-i) x.2.1=valueS ((s.take e).drop i)∧Keeps H x.2.2
end Go.Ab
namespace Go.Ab
open Go Go.Lib Go.Proofs
theorem isW_stop {c:UInt8} (h:isW c=true):stopC c=true:=by
 simp only[isW,Bool.or_eq_true,beq_iff_eq]at h
 rcases h with (rfl | rfl) | rfl<;>kernel_rfl
theorem stop61:stopC 61=true:=by kernel_rfl
theorem stop62:stopC 62=true:=by kernel_rfl
theorem stop47:stopC 47=true:=by kernel_rfl
theorem stop63:stopC 63=true:=by kernel_rfl
theorem stop60:stopC 60=true:=by kernel_rfl
theorem index_one (l:List UInt8) (c:UInt8):Lib.index l [c]=Lib.indexByte l c:=by
 induction l with
 | nil=>rfl
 | cons b l ih=>
  simp only[Lib.index,Lib.indexByte,ih,List.isPrefixOf]
  by_cases h:c=b
  ·simp[h]
  ·simp[h,Ne.symm h]
def attrW (s:List UInt8) (i:Nat):(List UInt8 × List UInt8) × Int:=
 let k:=skipN s i
 let e:=nameR s k
 let nm:=(s.take e).drop k
 if k=i∨e=k then((nm,[]),-1)
 else if Lib.hasPrefix (s.drop (skipN s e)) [61]=false then((nm,[]),-1)
 else
  let e3:=skipN s (skipN s e+1)
  if Lib.hasPrefix (s.drop e3) [34]=false∧Lib.hasPrefix (s.drop e3) [39]=false then((nm,[]),-1)
  else
   let last:=findR s (e3+1) ((s.take (e3+1)).drop e3)
   if last<0 then((nm,[]),-1)
   else
    let v:=valueS ((s.take last.toNat).drop (e3+1))
    if v.2=false then((nm,v.1),-1)else((nm,v.1),last+1)
theorem nameR_ge (s:List UInt8) (i:Nat):i≤nameR s i:=by
 have:=nameF_sound (s:=s) (i:=i) 401 (i+1) i (by omega) (.inl rfl)
 unfold nameR
 omega
theorem nameR_le {s:List UInt8} {i:Nat} (hi:i≤s.length):nameR s i≤s.length:=by
 have:=nameF_sound (s:=s) (i:=i) 401 (i+1) i (by omega) (.inl rfl)
 unfold nameR
 omega
theorem hasPrefix_one {s:List UInt8} {i:Nat} {c:UInt8} (h:Lib.hasPrefix (s.drop i) [c]=true):i<s.length∧s.drop i=c::s.drop (i+1):=by
 have hl:=hasPrefix_len h
 simp only[List.length_drop,List.length_singleton]at hl
 have hi:i<s.length:=by omega
 have hd:=List.drop_eq_getElem_cons hi
 refine⟨hi,?_⟩
 rw[hd]at h ⊢
 simp[Lib.hasPrefix,List.isPrefixOf]at h
 rw[h]
end Go.Ab
