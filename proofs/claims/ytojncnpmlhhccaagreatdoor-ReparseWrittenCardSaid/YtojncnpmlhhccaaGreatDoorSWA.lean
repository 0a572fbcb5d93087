/- serhtml's put, walked. serhtml's put, walked. serhtml's small, walked. serhtml's inRaw and laid, walked. serhtml's laid, walked. serhtml's chars, walked. What serhtml writes for a node; the writer's state from step to step. -/
import Derived.Test.YtojncnpmlhhccaaGreatDoorSB
import Derived.Test.YtojncnpmlhhccaaGreatDoorXB
import Derived.Test.YtojncnpmlhhccaaGreatDoorShelfS
import Derived.Test.YtojncnpmlhhccaaGreatDoorPX0
set_option linter.all false
namespace Go.Ab
open Go Go.Lib Go.Proofs
def WAt (H:AHeap) (k j:Nat) (W:WV) (l:List UInt8):Prop:=
 ∃b0,(b0 = .nilp∨b0 = .ptr k 10)∧H.get k=some (W.obj b0 (.slc j l.length))∧H.get j=some (.row 5 1 (bytesA l))
theorem WAt.ne {H:AHeap} {k j:Nat} {W:WV} {l:List UInt8} (h:WAt H k j W l):k≠j:=by
 obtain⟨b0,_,h1,h2⟩:=h
 intro e
 subst e
 rw[h1]at h2
 cases h2
def WPost (H:AHeap) (k j:Nat) (W:WV) (l:List UInt8) (H':AHeap):Prop:=
 ∃j',WAt H' k j' W l∧H.next≤j'∧j'<H'.next∧∀i,i<H.next→i≠k→i≠j→H'.get i=H.get i
theorem copyCheckB_w:bodyT Tryz.prog 75=true:=by kernel_rfl
set_option maxHeartbeats 4000000 in
set_option maxRecDepth 100000 in
theorem writeString_w {G:Nat→Option (List AV)} {H:AHeap} {k j:Nat} {W:WV} {l s:List UInt8} (hb:WAt H k j W l) (hl:l.length+s.length≤1000000000) :
  ACalls Tryz.prog G 38 [.ptr k 10,.str s] H fun r H'=>r = .ret (.tup [.int .i64 s.length,.nili])∧WPost H k j W (l++s) H':=by
 refine ACalls.wf fun wf=>?_
 have hne:=hb.ne
 obtain⟨b0,hb0,hk,hj⟩:=hb
 have hkn:=wf _ _ hk
 have hjn:=wf _ _ hj
 refine ACalls.of Tryz.func38 S38_eq R38 N38 rfl rfl ?_
 simp (maxSteps:=400000) only[wF,storeA,reduceCtorEq,Nat.reduceAdd,Nat.reduceSub,Nat.reduceEqDiff,Nat.reduceLeDiff,Int.reduceToNat,Int.reduceLE,Int.reduceLT,Int.reduceAdd,Int.reduceNeg,Nat.reduceMul,S38,N38,R38,T38]
 refine AInv.retK copyCheckB_w (copyCheck_w H k W b0 _ hk hb0) ?_ ?_
 ·rintro v H1 ⟨hv,rfl⟩
  cases hv
  have hjk:(j=k)=False:=by simp;omega
  have hle:(l.length+s.length≤maxApp)=True:=by simp[maxApp];omega
  have hcl:((bytesA l).length=l.length*1)=True:=by simp[bytesA]
  have hnk:(k=H.next)=False:=by simp;omega
  have hnj:(j=H.next)=False:=by simp;omega
  have hnk':(k=j)=False:=by simp;omega
  simp (maxSteps:=400000) only[wF,storeA,reduceCtorEq,Nat.reduceAdd,Nat.reduceSub,Nat.reduceEqDiff,Nat.reduceLeDiff,Int.reduceToNat,Int.reduceLE,Int.reduceLT,Int.reduceAdd,Int.reduceNeg,Nat.reduceMul,T38,WV.obj,hk,hj,appendA,appSrc,AV.isSlc,hjk,hle,bytesA_len,hnk,hnj,hnk']
  refine⟨H.next,⟨.ptr k 10,.inr rfl,by simp[WV.obj],?_⟩,Nat.le_refl _,?_,fun i h1 h2 h3=>?_⟩
  ·have:H.next≠k:=by omega
   simp[AHeap.get_set,AHeap.get_allocAt,bytesA,this]
  ·simp only[AHeap.next_set,AHeap.next_allocAt,AHeap.next_del]
   omega
  ·have:i≠H.next:=by omega
   simp[AHeap.get_set,AHeap.get_allocAt,AHeap.get_del,h2,h3,this]
 ·rintro v H1 ⟨hv,_⟩
  cases hv
set_option maxHeartbeats 4000000 in
theorem len_w {G:Nat→Option (List AV)} {H:AHeap} {k j:Nat} {W:WV} {l:List UInt8} (hb:WAt H k j W l) :
  ACalls Tryz.prog G 42 [.ptr k 10] H fun r H'=>r = .ret (.int .i64 l.length)∧Keeps H H':=by
 obtain⟨b0,hb0,hk,hj⟩:=hb
 refine ACalls.keep (ACalls.of Tryz.func42 S42_eq R42 N42 rfl rfl ?_)
 simp only[WV.obj]at hk
 simp (maxSteps:=400000) only[wF,storeA,reduceCtorEq,Nat.reduceAdd,Nat.reduceSub,Nat.reduceEqDiff,Nat.reduceLeDiff,Int.reduceToNat,Int.reduceLE,Int.reduceLT,Int.reduceAdd,Int.reduceNeg,Nat.reduceMul,S42,N42,R42,T42,hk]
 exact⟨Nat.le_refl _,fun _ _=>trivial⟩
end Go.Ab
namespace Go.Ab
open Go Go.Lib Go.Proofs
def WPost' (H:AHeap) (k j:Nat) (W:WV) (l:List UInt8) (H':AHeap):Prop:=
 ∃j',WAt H' k j' W l∧(j'=j∨H.next≤j')∧j'<H'.next∧H.next≤H'.next∧∀i,i<H.next→i≠k→i≠j→H'.get i=H.get i
def catS (l:List (List UInt8)):List UInt8:=l.flatMap id
set_option maxHeartbeats 8000000 in
set_option maxRecDepth 100000 in
theorem put_ok {G:Nat→Option (List AV)} {H:AHeap} {k j r:Nat} {W:WV} {acc:List UInt8} {l:List (List UInt8)} (hb:WAt H k j W acc) (hj:j<H.next) (hk:k<H.next) (hr:H.get r=some (.row 9 1 (strsA l))) (hrn:r<H.next)
  (hl:acc.length+(catS l).length≤1048576) (hn:l.length≤100) :
  ACalls Tryz.prog G 52 [.ptr k 0,.slc r l.length] H fun x H'=>x = .ret (.tup [])∧WPost' H k j W (acc++catS l) H':=by
 refine ACalls.of Tryz.func52 S52_eq R52 N52 rfl rfl ?_
 simp (maxSteps:=400000) only[wF,storeA,reduceCtorEq,Nat.reduceAdd,Nat.reduceSub,Nat.reduceEqDiff,Nat.reduceLeDiff,Int.reduceToNat,Int.reduceLE,Int.reduceLT,Int.reduceAdd,Int.reduceNeg,Nat.reduceMul,S52,N52,R52,T52]
 have W0:∀(m:Nat),m≤l.length→(catS (l.take m)).length≤(catS l).length:=fun m hm=>by
  have:catS l=catS (l.take m)++catS (l.drop m):=by unfold catS;rw[←List.flatMap_append,List.take_append_drop]
  rw[this,List.length_append];omega
 refine ATrS.loopK (κ:=Nat × Nat × AHeap) (fun c=>[.ptr k 0,.und,.und,.und,.und,.und,.slc r l.length,.int .i64 l.length,.int .i64 c.1]++List.replicate 16 .und) (fun c=>c.2.2)
  (fun c=>c.1≤l.length∧WAt c.2.2 k c.2.1 W (acc++catS (l.take c.1))∧c.2.2.get r=some (.row 9 1 (strsA l))∧(c.2.1=j∨H.next≤c.2.1)∧c.2.1<c.2.2.next∧H.next≤c.2.2.next∧∀i,i<H.next→i≠k→i≠j→c.2.2.get i=H.get i)
  (fun c=>l.length-c.1) ⟨(0,j,H),⟨Nat.zero_le _,by simpa[catS]using hb,hr,.inl rfl,hj,Nat.le_refl _,fun i _ _ _=>rfl⟩,by simp[Fg],HW.refl _⟩ ?_
 have hrk:r≠k:=fun e=>by
  obtain⟨b0,_,h1,_⟩:=hb
  rw[←e,hr]at h1;cases h1
 rintro⟨c,jj,J⟩ ⟨h1,h2,h3,h4,h5,h6,h7⟩
 simp only at h1 h2 h3 h4 h5 h6 h7
 by_cases hlt:c<l.length
 ·have d0:decide ((c:Int)<(l.length:Int))=true:=decide_eq_true (by omega)
  have q0:((c:Int)<(l.length:Int))=True:=eq_true (by omega)
  have g0:(strsA l)[c]?=some (.str l[c]):=by simp[strsA,hlt]
  have ew:IntKind.i64.wrap ((c:Int)+1)=((c+1:Nat):Int):=by rw[wrap64]<;>omega
  have hrj:r≠jj:=fun e=>by
   obtain⟨b0,_,_,x2⟩:=h2
   rw[←e,h3]at x2;cases x2
  have hst:catS (l.take (c+1))=catS (l.take c)++l[c]:=by
   have e1:l.take (c+1)=l.take c++[l[c]]:=by rw[List.take_succ,List.getElem?_eq_getElem hlt];rfl
   unfold catS
   rw[e1,List.flatMap_append]
   simp only[List.flatMap_cons,List.flatMap_nil,List.append_nil,id]
  have hW0:=W0 (c+1) hlt
  rw[hst,List.length_append]at hW0
  obtain⟨b0,x0,x1,x2⟩:=h2
  have x1':=x1
  simp only[WV.obj]at x1'
  simp (maxSteps:=400000) only[wF,storeA,reduceCtorEq,Nat.reduceAdd,Nat.reduceSub,Nat.reduceEqDiff,Nat.reduceLeDiff,Int.reduceToNat,Int.reduceLE,Int.reduceLT,Int.reduceAdd,Int.reduceNeg,Nat.reduceMul,T52,d0,q0,h3,g0,indexAddrA,Nat.mul_one,x1']
  refine AInv.retK B38 (writeString_w ⟨b0,x0,x1,x2⟩ (by rw[List.length_append];omega)) (fun v A2 hq=>?_) (fun v A2 hq=>by cases hq.1)
  obtain⟨hv,j',y1,y2,y3,y4⟩:=hq
  cases hv
  simp (maxSteps:=400000) only[wF,storeA,reduceCtorEq,Nat.reduceAdd,Nat.reduceSub,Nat.reduceEqDiff,Nat.reduceLeDiff,Int.reduceToNat,Int.reduceLE,Int.reduceLT,Int.reduceAdd,Int.reduceNeg,Nat.reduceMul,T52,ew]
  refine⟨(c+1,j',A2),⟨hlt,?_,?_,?_,y3,by simp only;omega,fun i i1 i2 i3=>?_⟩,by simp only;omega,by simp[Fg],HW.refl _⟩
  ·simp only
   rw[hst,←List.append_assoc];exact y1
  ·simp only
   rw[y4 r (by omega) hrk hrj];exact h3
  ·simp only;right;omega
  ·simp only
   have i4:i≠jj:=by rcases h4 with h4 | h4<;>omega
   rw[y4 i (by omega) i2 i4];exact h7 i i1 i2 i3
 ·have d0:decide ((c:Int)<(l.length:Int))=false:=decide_eq_false (by omega)
  have hce:c=l.length:=by omega
  subst hce
  rw[List.take_length]at h2
  have hlen:(acc++catS l).length≤1048576:=by rw[List.length_append];exact hl
  obtain⟨b0,x0,x1,x2⟩:=h2
  have x1':=x1
  simp only[WV.obj]at x1'
  simp (maxSteps:=400000) only[wF,storeA,reduceCtorEq,Nat.reduceAdd,Nat.reduceSub,Nat.reduceEqDiff,Nat.reduceLeDiff,Int.reduceToNat,Int.reduceLE,Int.reduceLT,Int.reduceAdd,Int.reduceNeg,Nat.reduceMul,T52,d0,x1']
  refine AInv.retK B42 (len_w ⟨b0,x0,x1,x2⟩) (fun v A2 hq=>?_) (fun v A2 hq=>by cases hq.1)
  obtain⟨hv,y1⟩:=hq
  cases hv
  have d1:decide (((acc++catS l).length:Int)>1048576)=false:=decide_eq_false (by omega)
  have hy:=y1.1
  simp (maxSteps:=400000) only[wF,storeA,reduceCtorEq,Nat.reduceAdd,Nat.reduceSub,Nat.reduceEqDiff,Nat.reduceLeDiff,Int.reduceToNat,Int.reduceLE,Int.reduceLT,Int.reduceAdd,Int.reduceNeg,Nat.reduceMul,T52,d1]
  have fin:WPost' H k j W (acc++catS l) A2:=⟨jj,⟨b0,x0,by rw[y1.2];exact x1,by rw[y1.2];exact x2⟩,h4,by omega,by omega,fun i i1 i2 i3=>by rw[y1.2];exact h7 i i1 i2 i3⟩
  first | exact⟨rfl,fin⟩ | exact fin
end Go.Ab
namespace Go.Proofs
open Go Go.RowKit Go.Lib
def smallF (c:Int):Int:=if 65≤c∧c≤90 then c+32 else c
set_option maxHeartbeats 1000000 in
set_option maxRecDepth 100000 in
theorem Tryz.small1 (x:Nat) (hx:x≤1114111) (w:World) :
  Calls Tryz.prog 124 #[.int .i32 x] w fun e w'=>e = .returned (.int .i32 (smallF x))∧∃q,w'=w.drewN q:=by
 go_enter Tryz.func124,Tryz.ntmps124
 go_wp2
 ·go_ret
  refine⟨?_,0,rfl⟩
  have e1:smallF x=x+32:=by unfold smallF;rw[if_pos (by omega)]
  rw[e1,show(x:Int)+32=(x:Int)+97-65 by omega]
  rfl
 ·go_ret
  refine⟨?_,0,rfl⟩
  have e1:smallF x=x:=by unfold smallF;rw[if_neg (by omega)]
  rw[e1]
  rfl
 ·go_ret
  refine⟨?_,0,rfl⟩
  have e1:smallF x=x:=by unfold smallF;rw[if_neg (by omega)]
  rw[e1]
  rfl
end Go.Proofs
namespace Go.Ab
open Go Go.Lib Go.RowKit Go.Proofs
theorem map_ab {G:Nat→Option (List AV)} (g:Glob G) (s:List UInt8) (hs:s.length≤1000000000):PureCall Tryz.prog G 123 [.func 124 [],.str s] (.str (Lib.mapD smallF s)):=fun H=>by
 refine ACalls.of_calls fun C w args R hv=>?_
 have ha:args=#[.func (.func 124) #[] #[],.string ⟨s.toArray⟩]:=by
  obtain⟨l⟩:=args
  match l,hv with
  | [],hv=>have:=hv.1;simp at this
  | [_],hv=>have:=hv.1;simp at this
  | _::_::_::_,hv=>have:=hv.1;simp at this
  | [x,y],hv=>
   have h1:=hv.2 0 _ x rfl rfl
   have h2:=hv.2 1 _ y rfl rfl
   cases h2
   cases h1 with
   | func _ _ lb hl _=>
    have:lb=#[]:=Array.eq_empty_of_size_eq_zero hl.symm
    rw[this]
 rw[ha]
 exact(Tryz.strings_Map_runes 124 #[] (enters_of Tryz.func124 (by kernel_rfl) rfl) smallF ⟨s.toArray⟩ w (by rw[size_of];omega) (fun W x hx _=>Tryz.small1 x hx W) (fun x hx=>by unfold smallF;split<;>omega) (g.tabs C w R)).mono fun e w' ⟨h1,h2⟩=>⟨⟨_,h1,.str _⟩,h2⟩
theorem decN_hi (n b0 b1 b2 b3:Nat) (h:128≤b0):128≤(decodeN n b0 b1 b2 b3).1:=by
 rcases decodeN_shape n b0 b1 b2 b3 with ⟨a,e⟩ | ⟨_,_,_,a,e⟩ | ⟨_,_,_,_,a,_,e⟩ | ⟨_,_,_,_,_,a,_,e⟩ | e
 ·omega
 ·rw[e];exact a
 ·rw[e];simp only;omega
 ·rw[e];simp only;omega
 ·rw[e];decide
theorem encode_low (b:UInt8) (hb:b.toNat<128):encodeRune (smallF b.toNat)=[lowB b]:=by
 have key:∀n:Fin 128,encodeRune (smallF (UInt8.ofNat n.val).toNat)=[lowB (UInt8.ofNat n.val)]:=by decide
 have:=key ⟨b.toNat,hb⟩
 rwa[show UInt8.ofNat b.toNat=b from UInt8.ofNat_toNat]at this
theorem mapD_low:∀(n:Nat) (l:List UInt8),l.length≤n→isTextS l=true→Lib.mapD smallF l=lowS l
 | _,[],_,_=>rfl
 | 0,_::_,h,_=>absurd h (by simp)
 | n+1,b::t,hn,h=>by
  have hne:b::t≠[]:=by simp
  have hp:=dec_pos hne
  rw[isTextS_step hne,Bool.and_eq_true]at h
  have ih:=mapD_low n ((b::t).drop (dec (b::t)).2) (by simp only[List.length_drop,List.length_cons]at hn ⊢;omega) h.2
  by_cases hb:b.toNat<128
  ·have hd:dec (b::t)=(b.toNat,1):=dec_ascii hb
   rw[hd]at ih
   rw[mapD_step smallF (b::t) hne,show decodeL (b::t)=dec (b::t)from rfl,hd]
   simp only[List.drop_succ_cons,List.drop_zero]at ih ⊢
   rw[ih]
   have hs:0≤smallF b.toNat:=by unfold smallF;split<;>omega
   rw[if_pos hs]
   simp only[lowS,List.map_cons]
   rw[encode_low b hb]
   rfl
  ·have hb:128≤b.toNat:=by omega
   have hd0:decodeL (b::t)=dec (b::t):=rfl
   rcases dec_split t hb with h1 | ⟨c,m,h2,h3,h4,h5,h6⟩
   ·exfalso
    have hh:=h.1
    unfold headTextS at hh
    rw[h1]at hh
    simp only[Bool.and_eq_true,Bool.or_eq_true,Bool.not_eq_true']at hh
    rcases hh.2 with h7 | h7
    ·exact absurd h7 (by decide)
    ·match t,h7 with
     | [],h7=>simp[Lib.hasPrefix,List.isPrefixOf]at h7
     | [_],h7=>simp[Lib.hasPrefix,List.isPrefixOf]at h7
     | x::y::t,h7=>
      simp[Lib.hasPrefix,List.isPrefixOf]at h7
      obtain⟨rfl,rfl,rfl⟩:=h7
      rw[dec_bad t]at h1
      exact absurd h1 (by decide)
   ·have hhi:128≤(dec (b::t)).1:=by
     have hN:=Lib.decodeL_N (b::t)
     simp only[List.getD_cons_zero]at hN
     rw[←hd0,hN]
     exact decN_hi _ _ _ _ _ hb
    rw[mapD_same smallF (b::t) hne (by rw[hd0];unfold smallF;rw[if_neg (by omega)]) (by rw[hd0];omega),hd0,ih]
    have ht:(b::t).take (dec (b::t)).2=b::c:=by
     rw[h5,h2,show 1+c.length=c.length+1 by omega,List.take_succ_cons,List.take_left]
    have hl:lowS (b::c)=b::c:=by
     unfold lowS
     refine(List.map_congr_left (g:=id) fun x hx=>?_).trans (List.map_id _)
     have:128≤x.toNat:=by
      rcases List.mem_cons.1 hx with rfl | hx
      ·exact hb
      ·exact h4 x hx
     unfold lowB
     rw[if_neg (by omega)]
     rfl
    conv=>rhs;rw[←List.take_append_drop (dec (b::t)).2 (b::t)]
    rw[ht]
    unfold lowS at hl ⊢
    rw[List.map_append,hl]
set_option maxHeartbeats 4000000 in
theorem small_ok {G:Nat→Option (List AV)} (hM:∀s:List UInt8,s.length≤1000000000→PureCall Tryz.prog G 123 [.func 124 [],.str s] (.str (Lib.mapD smallF s))) {s:List UInt8} (hs:s.length≤1000000000) (ht:isTextS s=true):PureCall Tryz.prog G 83 [.str s] (.str (lowS s)):=by
 intro H
 refine ACalls.keep (ACalls.of Tryz.func83 S83_eq R83 N83 rfl rfl ?_)
 simp (maxSteps:=400000) only[wF,storeA,reduceCtorEq,Nat.reduceAdd,Nat.reduceSub,Nat.reduceEqDiff,Nat.reduceLeDiff,Int.reduceToNat,Int.reduceLE,Int.reduceLT,Int.reduceAdd,Int.reduceNeg,Nat.reduceMul,S83,N83,R83,T83]
 refine AInv.pureK (show bodyT Tryz.prog 123=true by kernel_rfl) (hM s hs) fun H1 h1=>?_
 simp (maxSteps:=400000) only[wF,storeA,reduceCtorEq,Nat.reduceAdd,Nat.reduceSub,Nat.reduceEqDiff,Nat.reduceLeDiff,Int.reduceToNat,Int.reduceLE,Int.reduceLT,Int.reduceAdd,Int.reduceNeg,Nat.reduceMul,T83,mapD_low _ s (Nat.le_refl _) ht]
 exact h1.post
end Go.Ab
namespace Go.Ab
open Go Go.Lib Go.Proofs
def wordsM (l:List (List UInt8)):List (AV × AV):=l.map fun s=>(AV.str s,AV.int .i64 1)
theorem findA_words (k:List UInt8):∀(l:List (List UInt8)) (i:Nat),(k∈l→∃j,findA (.str k) (wordsM l) i=some (some (j,.int .i64 1)))∧(k ∉ l→findA (.str k) (wordsM l) i=some none)
 | [],i=>⟨fun h=>by simp at h,fun _=>rfl⟩
 | s::l,i=>by
  have ih:=findA_words k l (i+1)
  by_cases h:k=s
  ·subst h
   refine⟨fun _=>⟨i,?_⟩,fun h=>absurd (by simp) h⟩
   simp[wordsM,findA,keyEq]
  ·have e:findA (.str k) (wordsM (s::l)) i=findA (.str k) (wordsM l) (i+1):=by
    have hb:(k==s)=false:=beq_eq_false_iff_ne.2 h
    simp only[wordsM,List.map_cons,findA,keyEq,hb]
   rw[e]
   exact⟨fun hm=>ih.1 (by rcases List.mem_cons.1 hm with hm | hm;exact absurd hm h;exact hm),fun hm=>ih.2 (fun h2=>hm (by simp[h2]))⟩
def rawsS:List (List UInt8):=[[115,99,114,105,112,116],[115,116,121,108,101]]
def keptS:List (List UInt8):=[[112,114,101],[116,101,120,116,97,114,101,97]]
def switchS:List (List UInt8):=[[97,115,121,110,99],[97,117,116,111,102,111,99,117,115],[97,117,116,111,112,108,97,121],[99,104,101,99,107,101,100],[99,111,110,116,114,111,108,115],[100,101,102,101,114],[100,105,115,97,98,108,101,100],[104,105,100,100,101,110],[108,111,111,112],[109,117,108,116,105,112,108,101],[109,117,116,101,100],[110,111,118,97,108,105,100,97,116,101],[111,112,101,110],[114,101,97,100,111,110,108,121],[114,101,113,117,105,114,101,100],[114,101,118,101,114,115,101,100],[115,101,108,101,99,116,101,100]]
theorem isRawS_mem (s:List UInt8):isRawS s=true↔lowS s∈rawsS:=by
 unfold isRawS rawsS
 simp
def kidsOf (l:List Nd) (i:Nat):List Nat:=(List.range l.length).filter fun k=>decide (1≤k)&&(l.getD k nd0).up==(i:Int)&&(l.getD k nd0).kind != 2
def attsOf (l:List Nd) (i:Nat):List Nat:=(List.range l.length).filter fun k=>decide (1≤k)&&(l.getD k nd0).up==(i:Int)&&(l.getD k nd0).kind==2
def tabA (f:Nat→List Nat) (n:Nat):List AV:=(List.range n).map fun i => .lst (f i).length (intsA (f i))
theorem tabA_get {f:Nat→List Nat} {n i:Nat} (h:i<n):(tabA f n)[i]?=some (.lst (f i).length (intsA (f i))):=by
 simp[tabA,h]
structure WM where
 sw:Nat
 vo:Nat
 ra:Nat
 ke:Nat
 si:Nat
def mkW (l:List Nd) (M:WM):WV:=⟨.lst l.length (ndsH l),.lst l.length (tabA (kidsOf l) l.length),.lst l.length (tabA (attsOf l) l.length),.map M.sw,.map M.vo,.map M.ra,.map M.ke,.map M.si⟩
structure MAt (H:AHeap) (M:WM):Prop where
 sw:H.get M.sw=some (.map [])
 vo:H.get M.vo=some (.map (wordsM voidsS))
 ra:H.get M.ra=some (.map (wordsM rawsS))
 ke:H.get M.ke=some (.map (wordsM keptS))
 si:H.get M.si=some (.map (wordsM switchS))
def SMapOk (G:Nat→Option (List AV)):Prop:=∀s:List UInt8,s.length≤1000000000→PureCall Tryz.prog G 123 [.func 124 [],.str s] (.str (Lib.mapD smallF s))
theorem isText_name {s:List UInt8} (h:isNameS s=true):isTextS s=true:=by
 unfold isNameS at h
 simp only[Bool.and_eq_true]at h
 exact h.1.1.1
theorem name_text {l:List Nd} (hv:ValidN l) {i:Nat} (hi:i<l.length):isTextS (l.getD i nd0).name=true:=by
 have h:=hv.allowed i hi
 have hk:=hv.kind i hi
 generalize l.getD i nd0=x at h hk
 match hx:x.kind,hk with
 | 0,_=>rw[hx]at h;simp only[allowedS,Bool.and_eq_true,beq_iff_eq]at h;rw[h.2.1];rfl
 | 1,_=>rw[hx]at h;simp only[allowedS,Bool.and_eq_true]at h;exact isText_name h.2.1
 | 2,_=>rw[hx]at h;simp only[allowedS,Bool.and_eq_true]at h;exact isText_name h.2
 | 3,_=>rw[hx]at h;simp only[allowedS,Bool.and_eq_true,beq_iff_eq]at h;rw[h.2.1];rfl
 | 4,_=>rw[hx]at h;simp only[allowedS,Bool.and_eq_true,beq_iff_eq]at h;rw[h.2.1.1];rfl
 | 5,_=>rw[hx]at h;simp only[allowedS,Bool.and_eq_true]at h;exact isText_name h.2.1.1.1
set_option maxHeartbeats 8000000 in
set_option maxRecDepth 100000 in
theorem inRaw_ok {G:Nat→Option (List AV)} (hM:SMapOk G) {H:AHeap} {k:Nat} {l:List Nd} {M:WM} {b0 v:AV} (hv:ValidN l) (hk:H.get k=some ((mkW l M).obj b0 v)) (hm:MAt H M) {i:Nat} (h0:1≤i) (hi:i<l.length) :
  ACalls Tryz.prog G 50 [.ptr k 0,.int .i64 i] H fun r H'=>r = .ret (.bool (isRawS (l.getD (l.getD i nd0).up.toNat nd0).name))∧Keeps H H':=by
 refine ACalls.keep (ACalls.of Tryz.func50 S50_eq R50 N50 rfl rfl ?_)
 have hu:=hv.up i (by omega) hi
 obtain⟨u,hue⟩:∃u:Nat,(l.getD i nd0).up=u:=⟨(l.getD i nd0).up.toNat,by omega⟩
 rw[hue,Int.toNat_natCast]
 have hul:u<l.length:=by omega
 have g3:=ndsH_get l i 3 hi (by omega)
 have g1:=ndsH_get l u 1 hul (by omega)
 rw[←nd_getD hi]at g3
 rw[←nd_getD hul]at g1
 simp only[ndH,List.getElem?_cons_zero,List.getElem?_cons_succ,hue]at g3 g1
 have q1:((i:Int)<(l.length:Int))=True:=eq_true (by omega)
 have q2:((u:Int)<(l.length:Int))=True:=eq_true (by omega)
 have hsm:=small_ok hM (hv.bound u hul).1 (name_text hv hul)
 have hms:=hm.ra
 simp only[WV.obj,mkW]at hk
 have hL:=findA_words (lowS (l.getD u nd0).name) rawsS 0
 simp (maxSteps:=400000) only[wF,storeA,reduceCtorEq,Nat.reduceAdd,Nat.reduceSub,Nat.reduceEqDiff,Nat.reduceLeDiff,Int.reduceToNat,Int.reduceLE,Int.reduceLT,Int.reduceAdd,Int.reduceNeg,Nat.reduceMul,S50,N50,R50,T50]
 refine drawW_ok (ex:=false) mixedOrders L50_1_eq P50_1_eq ?_
 simp (maxSteps:=400000) only[wF,storeA,reduceCtorEq,Nat.reduceAdd,Nat.reduceSub,Nat.reduceEqDiff,Nat.reduceLeDiff,Int.reduceToNat,Int.reduceLE,Int.reduceLT,Int.reduceAdd,Int.reduceNeg,Nat.reduceMul,L50_1,T50,hk,q1,q2,g3,g1,indexAddrA]
 refine callW.pure B83 hsm ?_
 by_cases hr:lowS (l.getD u nd0).name∈rawsS
 ·obtain⟨j,hj⟩:=hL.1 hr
  have e1:isRawS (l.getD u nd0).name=true:=(isRawS_mem _).2 hr
  have e2:decide ((1:Int)>0)=true:=rfl
  rw[e1]
  simp (maxSteps:=400000) only[wF,storeA,reduceCtorEq,Nat.reduceAdd,Nat.reduceSub,Nat.reduceEqDiff,Nat.reduceLeDiff,Int.reduceToNat,Int.reduceLE,Int.reduceLT,Int.reduceAdd,Int.reduceNeg,Nat.reduceMul,T50,hk,hms,lookupA,entriesA,keyT,hj,e2]
  exact⟨by simp,fun m hm=>⟨hm,fun _ _=>trivial⟩⟩
 ·have hj:=hL.2 hr
  have e1:isRawS (l.getD u nd0).name=false:=by
   cases he:isRawS (l.getD u nd0).name with
   | false=>rfl
   | true=>exact absurd ((isRawS_mem _).1 he) hr
  have e2:decide ((0:Int)>0)=false:=rfl
  rw[e1]
  simp (maxSteps:=400000) only[wF,storeA,reduceCtorEq,Nat.reduceAdd,Nat.reduceSub,Nat.reduceEqDiff,Nat.reduceLeDiff,Int.reduceToNat,Int.reduceLE,Int.reduceLT,Int.reduceAdd,Int.reduceNeg,Nat.reduceMul,T50,hk,hms,lookupA,entriesA,keyT,hj,e2]
  exact⟨by simp,fun m hm=>⟨hm,fun _ _=>trivial⟩⟩
end Go.Ab
namespace Go.Ab
open Go Go.Lib Go.Proofs
theorem kidsOf_lt {l:List Nd} {i k:Nat} (h:k∈kidsOf l i):k<l.length∧1≤k∧(l.getD k nd0).up=(i:Int)∧(l.getD k nd0).kind≠2:=by
 unfold kidsOf at h
 simp only[List.mem_filter,List.mem_range,Bool.and_eq_true,decide_eq_true_eq,beq_iff_eq,bne_iff_ne,ne_eq]at h
 exact⟨h.1,h.2.1.1,h.2.1.2,h.2.2⟩
theorem attsOf_lt {l:List Nd} {i k:Nat} (h:k∈attsOf l i):k<l.length∧1≤k∧(l.getD k nd0).up=(i:Int)∧(l.getD k nd0).kind=2:=by
 unfold attsOf at h
 simp only[List.mem_filter,List.mem_range,Bool.and_eq_true,decide_eq_true_eq,beq_iff_eq]at h
 exact⟨h.1,h.2.1.1,h.2.1.2,h.2.2⟩
theorem filter_len {l:List Nd} (p:Nat→Bool):((List.range l.length).filter p).length≤l.length:=by
 have:=List.length_filter_le p (List.range l.length)
 simpa using this
theorem intsA_get {l:List Nat} {c:Nat} (h:c<l.length):(intsA l)[c]?=some (.int .i64 (l.getD c 0:Nat)):=by
 rw[intsA,List.getElem?_map,List.getElem?_eq_getElem h,List.getD_eq_getElem?_getD,List.getElem?_eq_getElem h]
 rfl
theorem getD_mem {l:List Nat} {c:Nat} (h:c<l.length):l.getD c 0∈l:=by
 rw[List.getD_eq_getElem?_getD,List.getElem?_eq_getElem h]
 exact List.getElem_mem h
set_option maxHeartbeats 8000000 in
set_option maxRecDepth 100000 in
theorem laid_ok {G:Nat→Option (List AV)} (hM:SMapOk G) {H:AHeap} {k:Nat} {l:List Nd} {M:WM} {b0 v:AV} (hv:ValidN l) (hk:H.get k=some ((mkW l M).obj b0 v)) {i:Nat} (hi:i<l.length) :
  ACalls Tryz.prog G 53 [.ptr k 0,.int .i64 i] H fun r H'=>r = .ret (.bool false)∧Keeps H H':=by
 refine ACalls.keep (ACalls.of Tryz.func53 S53_eq R53 N53 rfl rfl ?_)
 have g1:=ndsH_get l i 1 hi (by omega)
 rw[←nd_getD hi]at g1
 simp only[ndH,List.getElem?_cons_zero,List.getElem?_cons_succ]at g1
 have q1:((i:Int)<(l.length:Int))=True:=eq_true (by omega)
 have hsm:=small_ok hM (hv.bound i hi).1 (name_text hv hi)
 have ht:=tabA_get (f:=kidsOf l) hi
 have hln:=hv.len
 have hkl:(kidsOf l i).length≤l.length:=filter_len _
 simp only[WV.obj,mkW]at hk
 simp (maxSteps:=400000) only[wF,storeA,reduceCtorEq,Nat.reduceAdd,Nat.reduceSub,Nat.reduceEqDiff,Nat.reduceLeDiff,Int.reduceToNat,Int.reduceLE,Int.reduceLT,Int.reduceAdd,Int.reduceNeg,Nat.reduceMul,S53,N53,R53,T53,hk,q1,g1,indexAddrA]
 refine AInv.pureK B83 hsm fun H1 h1=>?_
 have k1:=(congrFun h1.2 _).trans hk
 simp (maxSteps:=400000) only[wF,storeA,reduceCtorEq,Nat.reduceAdd,Nat.reduceSub,Nat.reduceEqDiff,Nat.reduceLeDiff,Int.reduceToNat,Int.reduceLE,Int.reduceLT,Int.reduceAdd,Int.reduceNeg,Nat.reduceMul,T53,k1,q1,indexAddrA,ht,Nat.mul_one]
 generalize hnm:lowS (l.getD i nd0).name=nm
 generalize hkl2:kidsOf l i=kl at hkl
 refine ATrS.loopK (κ:=Nat) (fun c=>[.ptr k 0,.int .i64 i,.und,.und,.bool false,.str nm]++List.replicate 18 .und++[.lst kl.length (intsA kl),.int .i64 kl.length,.int .i64 c]++List.replicate 45 .und) (fun _=>H1)
  (fun c=>c≤kl.length) (fun c=>kl.length-c) ⟨0,Nat.zero_le _,by simp[Fg],HW.refl _⟩ ?_
 intro c hc
 have fin:H.next≤H1.next∧∀(k:Nat),k<H.next→H1.get k=H.get k:=h1.post
 by_cases hlt:c<kl.length
 ·have d0:decide ((c:Int)<(kl.length:Int))=true:=decide_eq_true (by omega)
  have q0:((c:Int)<(kl.length:Int))=True:=eq_true (by omega)
  have g0:=intsA_get hlt
  have hmem:=kidsOf_lt (l:=l) (i:=i) (k:=kl.getD c 0) (by rw[hkl2];exact getD_mem hlt)
  generalize kl.getD c 0=d at g0 hmem
  have q2:((d:Int)<(l.length:Int))=True:=eq_true (by omega)
  have g3:=kind_at hmem.1
  simp only[Nat.add_zero]at g3
  have ew:IntKind.i64.wrap ((c:Int)+1)=((c+1:Nat):Int):=by rw[wrap64]<;>omega
  by_cases h3:(l.getD d nd0).kind=3
  ·have e3:(((l.getD d nd0).kind:Int)==3)=true:=by rw[h3];rfl
   simp (maxSteps:=400000) only[wF,storeA,reduceCtorEq,Nat.reduceAdd,Nat.reduceSub,Nat.reduceEqDiff,Nat.reduceLeDiff,Int.reduceToNat,Int.reduceLE,Int.reduceLT,Int.reduceAdd,Int.reduceNeg,Nat.reduceMul,T53,d0,q0,g0,k1,q2,g3,indexAddrA,Nat.mul_one,e3]
   exact fin
  ·have e3:(((l.getD d nd0).kind:Int)==3)=false:=by rw[beq_eq_false_iff_ne];omega
   simp (maxSteps:=400000) only[wF,storeA,reduceCtorEq,Nat.reduceAdd,Nat.reduceSub,Nat.reduceEqDiff,Nat.reduceLeDiff,Int.reduceToNat,Int.reduceLE,Int.reduceLT,Int.reduceAdd,Int.reduceNeg,Nat.reduceMul,T53,d0,q0,g0,k1,q2,g3,indexAddrA,Nat.mul_one,e3,ew]
   exact⟨c+1,hlt,by omega,by simp[Fg],HW.refl _⟩
 ·have d0:decide ((c:Int)<(kl.length:Int))=false:=decide_eq_false (by omega)
  simp (maxSteps:=400000) only[wF,storeA,reduceCtorEq,Nat.reduceAdd,Nat.reduceSub,Nat.reduceEqDiff,Nat.reduceLeDiff,Int.reduceToNat,Int.reduceLE,Int.reduceLT,Int.reduceAdd,Int.reduceNeg,Nat.reduceMul,T53,d0]
  refine drawW_fixed mixedOrders L53_8_eq P53_8_eq ?_
  simp (maxSteps:=400000) only[wF,storeA,reduceCtorEq,Nat.reduceAdd,Nat.reduceSub,Nat.reduceEqDiff,Nat.reduceLeDiff,Int.reduceToNat,Int.reduceLE,Int.reduceLT,Int.reduceAdd,Int.reduceNeg,Nat.reduceMul,L53_8,T53,k1]
  exact fin
end Go.Ab
namespace Go.Ab
open Go Go.Lib Go.Proofs
def escB (attr:Bool) (b:UInt8):List UInt8:=
 if b=38 then [38,97,109,112,59]else if b=60 then [38,108,116,59]else if b=62 then [38,103,116,59]else if b=13 then [38,35,49,51,59]
 else if attr=true∧b=34 then [38,113,117,111,116,59]else if attr=true∧b=9 then [38,35,57,59]else if attr=true∧b=10 then [38,35,49,48,59]else [b]
def escS (attr:Bool) (s:List UInt8):List UInt8:=s.flatMap (escB attr)
theorem escB_hi (attr:Bool) {b:UInt8} (h:128≤b.toNat):escB attr b=[b]:=by
 have ne:∀c:UInt8,c.toNat<128→b≠c:=fun c hc e=>by subst e;omega
 unfold escB
 rw[if_neg (ne 38 (by decide)),if_neg (ne 60 (by decide)),if_neg (ne 62 (by decide)),if_neg (ne 13 (by decide)),if_neg (fun h=>ne 34 (by decide) h.2),if_neg (fun h=>ne 9 (by decide) h.2),if_neg (fun h=>ne 10 (by decide) h.2)]
theorem escS_app (attr:Bool) (s t:List UInt8):escS attr (s++t)=escS attr s++escS attr t:=by simp[escS]
theorem escS_hi (attr:Bool):∀{s:List UInt8},(∀b∈s,128≤b.toNat)→escS attr s=s
 | [],_=>rfl
 | b::s,h=>by
  have ih:=escS_hi attr (s:=s) fun x hx=>h x (by simp[hx])
  unfold escS at ih ⊢
  rw[List.flatMap_cons,escB_hi attr (h b (by simp)),ih]
  rfl
theorem head_cases {b:UInt8} {t:List UInt8} (h:isTextS (b::t)=true) :
  (b.toNat<128∧dec (b::t)=(b.toNat,1)) ∨
  (128≤(dec (b::t)).1∧(dec (b::t)).2≤(b::t).length∧encodeRune ((dec (b::t)).1:Nat)=(b::t).take (dec (b::t)).2∧isCharS ((dec (b::t)).1:Int)=true∧∀x∈(b::t).take (dec (b::t)).2,128≤x.toNat):=by
 have hne:b::t≠[]:=by simp
 rw[isTextS_step hne,Bool.and_eq_true]at h
 by_cases hb:b.toNat<128
 ·exact .inl ⟨hb,dec_ascii hb⟩
 ·right
  have hb:128≤b.toNat:=by omega
  rcases dec_split t hb with h1 | ⟨c,m,h2,h3,h4,h5,h6⟩
  ·exfalso
   have hh:=h.1
   unfold headTextS at hh
   rw[h1]at hh
   simp only[Bool.and_eq_true,Bool.or_eq_true,Bool.not_eq_true']at hh
   rcases hh.2 with h7 | h7
   ·exact absurd h7 (by decide)
   ·match t,h7 with
    | [],h7=>simp[Lib.hasPrefix,List.isPrefixOf]at h7
    | [_],h7=>simp[Lib.hasPrefix,List.isPrefixOf]at h7
    | x::y::t,h7=>
     simp[Lib.hasPrefix,List.isPrefixOf]at h7
     obtain⟨rfl,rfl,rfl⟩:=h7
     rw[dec_bad t]at h1
     exact absurd h1 (by decide)
  ·have ht:(b::t).take (dec (b::t)).2=b::c:=by
    rw[h5,h2,show 1+c.length=c.length+1 by omega,List.take_succ_cons,List.take_left]
   refine⟨?_,dec_le hne,encode_decode (b::t) hne (show ¬((dec (b::t)).1=65533∧(dec (b::t)).2=1) by omega),?_,?_⟩
   ·have hN:=Lib.decodeL_N (b::t)
    simp only[List.getD_cons_zero]at hN
    show 128≤(decodeL (b::t)).1
    rw[hN]
    exact decN_hi _ _ _ _ _ hb
   ·have hh:=h.1
    unfold headTextS at hh
    rw[Bool.and_eq_true]at hh
    exact hh.1
   ·rw[ht]
    intro x hx
    rcases List.mem_cons.1 hx with rfl | hx
    ·exact hb
    ·exact h4 x hx
theorem encode_one (b:UInt8) (hb:b.toNat<128):encodeRune (b.toNat:Int)=[b]:=by
 have key:∀n:Fin 128,encodeRune ((UInt8.ofNat n.val).toNat:Int)=[UInt8.ofNat n.val]:=by decide
 have:=key ⟨b.toNat,hb⟩
 rwa[show UInt8.ofNat b.toNat=b from UInt8.ofNat_toNat]at this
theorem encS_eq (r:Nat) (h:r≤1114111) (hv:¬(55296≤r∧r≤57343)):(Utf8.encode (r:Int)).data.toList=encodeRune (r:Int):=by
 have v:Utf8.valid (r:Int)=true:=by simp[Utf8.valid];omega
 have t:∀(z:Int) (n:Nat),z=n→z.toNat.toUInt8=UInt8.ofNat n:=fun z n e=>by rw[e];rfl
 unfold encodeRune
 by_cases c1:r<128
 ·rw[encodeRuneZ_one (by omega) (by omega)]
  simp[Utf8.encode,v,c1]
 by_cases c2:r<2048
 ·rw[encodeRuneZ_two (by omega) (by omega)]
  simp only[List.map_cons,List.map_nil,t (192+(r:Int) / 64) (192+r / 64) (by omega),t (128+(r:Int) % 64) (128+r % 64) (by omega)]
  simp[Utf8.encode,v,c1,c2]
 by_cases c3:r<65536
 ·rw[encodeRuneZ_three (by omega)]
  simp only[List.map_cons,List.map_nil,t (224+(r:Int) / 4096) (224+r / 4096) (by omega),t (128+(r:Int) / 64 % 64) (128+r / 64 % 64) (by omega),t (128+(r:Int) % 64) (128+r % 64) (by omega)]
  simp[Utf8.encode,v,c1,c2,c3]
 ·rw[encodeRuneZ_four (by omega) (by omega)]
  simp only[List.map_cons,List.map_nil,t (240+(r:Int) / 262144) (240+r / 262144) (by omega),t (128+(r:Int) / 4096 % 64) (128+r / 4096 % 64) (by omega),t (128+(r:Int) / 64 % 64) (128+r / 64 % 64) (by omega),t (128+(r:Int) % 64) (128+r % 64) (by omega)]
  simp[Utf8.encode,v,c1,c2,c3]
def EscIs (attr:Bool) (r:Nat) (x:List UInt8):Prop:=
 (r=38∧x=[38,97,109,112,59])∨(r=60∧x=[38,108,116,59])∨(r=62∧x=[38,103,116,59])∨(r=13∧x=[38,35,49,51,59]) ∨
 (attr=true∧r=34∧x=[38,113,117,111,116,59])∨(attr=true∧r=9∧x=[38,35,57,59])∨(attr=true∧r=10∧x=[38,35,49,48,59]) ∨
 (r≠38∧r≠60∧r≠62∧r≠13∧(attr=true→r≠34∧r≠9∧r≠10)∧x=(Utf8.encode (r:Int)).data.toList)
theorem esc_step {attr:Bool} {b:UInt8} {t:List UInt8} (h:isTextS (b::t)=true):∃x,EscIs attr (dec (b::t)).1 x∧escS attr (b::t)=x++escS attr ((b::t).drop (dec (b::t)).2):=by
 rcases head_cases h with ⟨h1,h2⟩ | ⟨h1,h2,h3,h4,h5⟩
 ·rw[h2]
  refine⟨escB attr b,?_,by simp[escS]⟩
  have ne:∀c:UInt8,b≠c→b.toNat≠c.toNat:=fun c hc e=>hc (UInt8.toNat_inj.1 e)
  unfold EscIs escB
  by_cases e1:b=38
  ·subst e1;exact .inl ⟨rfl,rfl⟩
  by_cases e2:b=60
  ·subst e2;exact .inr (.inl ⟨rfl,rfl⟩)
  by_cases e3:b=62
  ·subst e3;exact .inr (.inr (.inl ⟨rfl,rfl⟩))
  by_cases e4:b=13
  ·subst e4;exact .inr (.inr (.inr (.inl ⟨rfl,rfl⟩)))
  rw[if_neg e1,if_neg e2,if_neg e3,if_neg e4]
  by_cases e5:attr=true∧b=34
  ·obtain⟨rfl,rfl⟩:=e5;exact .inr (.inr (.inr (.inr (.inl ⟨rfl,rfl,rfl⟩))))
  by_cases e6:attr=true∧b=9
  ·obtain⟨rfl,rfl⟩:=e6;exact .inr (.inr (.inr (.inr (.inr (.inl ⟨rfl,rfl,rfl⟩)))))
  by_cases e7:attr=true∧b=10
  ·obtain⟨rfl,rfl⟩:=e7;exact .inr (.inr (.inr (.inr (.inr (.inr (.inl ⟨rfl,rfl,rfl⟩))))))
  rw[if_neg e5,if_neg e6,if_neg e7]
  refine .inr (.inr (.inr (.inr (.inr (.inr (.inr ⟨ne 38 e1,ne 60 e2,ne 62 e3,ne 13 e4,fun ha=>⟨ne 34 fun e=>e5 ⟨ha,e⟩,ne 9 fun e=>e6 ⟨ha,e⟩,ne 10 fun e=>e7 ⟨ha,e⟩⟩,?_⟩))))))
  rw[encS_eq _ (by omega) (by omega),encode_one b h1]
 ·refine⟨(b::t).take (dec (b::t)).2,?_,?_⟩
  ·unfold EscIs
   refine .inr (.inr (.inr (.inr (.inr (.inr (.inr ⟨by omega,by omega,by omega,by omega,fun _=>⟨by omega,by omega,by omega⟩,?_⟩))))))
   unfold isCharS at h4
   simp only[Bool.or_eq_true,Bool.and_eq_true,decide_eq_true_eq,beq_iff_eq]at h4
   rw[encS_eq _ (by omega) (by omega),h3]
  ·conv=>lhs;rw[←List.take_append_drop (dec (b::t)).2 (b::t)]
   rw[escS_app,escS_hi attr h5]
theorem catS_one (x:List UInt8):catS [x]=x:=by simp[catS]
def ChAt (H:AHeap) (k j it:Nat) (W:WV) (acc s:List UInt8) (attr:Bool) (c:Nat × Nat × List UInt8 × AHeap):Prop:=
 c.1≤s.length∧isTextS (s.drop c.1)=true∧acc++escS attr s=c.2.2.1++escS attr (s.drop c.1)∧WAt c.2.2.2 k c.2.1 W c.2.2.1∧c.2.2.2.get it=some (.iter s c.1)∧(c.2.1=j∨H.next≤c.2.1)∧c.2.1<c.2.2.2.next∧H.next<c.2.2.2.next∧∀i,i<H.next→i≠k→i≠j→c.2.2.2.get i=H.get i
set_option maxHeartbeats 8000000 in
set_option maxRecDepth 100000 in
theorem chars_ok {G:Nat→Option (List AV)} {H:AHeap} {k j:Nat} {l:List Nd} {M:WM} {acc s:List UInt8} {attr:Bool} (hb:WAt H k j (mkW l M) acc) (hsw:H.get M.sw=some (.map [])) (ht:isTextS s=true) (hl:acc.length+(escS attr s).length≤1048576) :
  ACalls Tryz.prog G 87 [.ptr k 0,.str s,.bool attr] H fun x H'=>x = .ret (.tup [])∧WPost' H k j (mkW l M) (acc++escS attr s) H':=by
 refine ACalls.wf fun wf=>?_
 have hkn:k<H.next:=by obtain⟨b0,_,h1,_⟩:=hb;exact wf _ _ h1
 have hjn:j<H.next:=by obtain⟨b0,_,_,h2⟩:=hb;exact wf _ _ h2
 have hsn:M.sw<H.next:=wf _ _ hsw
 have hsk:M.sw≠k:=fun e=>by obtain⟨b0,_,h1,_⟩:=hb;rw[←e,hsw]at h1;cases h1
 have hsj:M.sw≠j:=fun e=>by obtain⟨b0,_,_,h1⟩:=hb;rw[←e,hsw]at h1;cases h1
 refine ACalls.of Tryz.func87 S87_eq R87 N87 rfl rfl ?_
 simp (maxSteps:=400000) only[wF,storeA,reduceCtorEq,Nat.reduceAdd,Nat.reduceSub,Nat.reduceEqDiff,Nat.reduceLeDiff,Int.reduceToNat,Int.reduceLE,Int.reduceLT,Int.reduceAdd,Int.reduceNeg,Nat.reduceMul,S87,N87,R87,T87]
 refine ATrS.loopK (κ:=Nat × Nat × List UInt8 × AHeap) (fun _=>[.ptr k 0,.und,.bool attr]++List.replicate 8 .und++[.ptr H.next 0]++List.replicate 55 .und) (fun c=>c.2.2.2)
  (ChAt H k j H.next (mkW l M) acc s attr) (fun c=>s.length-c.1) ⟨(0,j,acc,H.allocAt H.next (.iter s 0)),?_,by simp[Fg],HW.refl _⟩ ?_
 ·obtain⟨b0,x0,x1,x2⟩:=hb
  refine⟨Nat.zero_le _,by rw[List.drop_zero];exact ht,by rw[List.drop_zero],⟨b0,x0,?_,?_⟩,AHeap.get_allocAt_same _ _ _,.inl rfl,by simp only[AHeap.next_allocAt];omega,by simp only[AHeap.next_allocAt];omega,fun i i1 _ _=>AHeap.get_allocAt_ne _ _ (by omega)⟩
  ·show(H.allocAt H.next _).get k=_
   rw[AHeap.get_allocAt_ne _ _ (by omega)];exact x1
  ·show(H.allocAt H.next _).get j=_
   rw[AHeap.get_allocAt_ne _ _ (by omega)];exact x2
 rintro⟨p,jj,ac,J⟩ ⟨h1,h2,h3,h4,h5,h6,h7,h8,h9⟩
 simp only at h1 h2 h3 h4 h5 h6 h7 h8 h9
 have hsw2:J.get M.sw=some (.map []):=(h9 _ hsn hsk hsj).trans hsw
 obtain⟨b0,x0,x1,x2⟩:=h4
 have x1':=x1
 simp only[WV.obj,mkW]at x1'
 have hjt:jj≠H.next:=fun e=>by rw[e,h5]at x2;cases x2
 have u1:(k=H.next)=False:=eq_false (by omega)
 have u2:(M.sw=H.next)=False:=eq_false (by omega)
 by_cases hlt:p<s.length
 case neg=>
  have q0:(p<s.length)=False:=eq_false hlt
  have hp:p=s.length:=by omega
  subst hp
  rw[List.drop_length]at h3
  simp (maxSteps:=400000) only[wF,storeA,reduceCtorEq,Nat.reduceAdd,Nat.reduceSub,Nat.reduceEqDiff,Nat.reduceLeDiff,Int.reduceToNat,Int.reduceLE,Int.reduceLT,Int.reduceAdd,Int.reduceNeg,Nat.reduceMul,T87,nextA,h5,q0]
  have e3:acc++escS attr s=ac:=by rw[h3];simp[escS]
  have fin:WPost' H k j (mkW l M) (acc++escS attr s) J:=⟨jj,e3▸⟨b0,x0,x1,x2⟩,h6,h7,by omega,h9⟩
  first | exact⟨rfl,fin⟩ | exact fin
 have q0:(p<s.length)=True:=eq_true hlt
 have hdr:s.drop p≠[]:=fun e=>by have:=congrArg List.length e;simp at this;omega
 obtain⟨b,t,hbt⟩:=cons_of hdr
 rw[hbt]at h2 h3
 have hne:b::t≠[]:=by simp
 have hp1:=dec_pos hne
 have hp2:=dec_le hne
 have hp3:(b::t).length=s.length-p:=by rw[←hbt,List.length_drop]
 obtain⟨x,hx,hesc⟩:=esc_step (attr:=attr) h2
 have hlen:ac.length+x.length≤1048576:=by
  have:=congrArg List.length h3
  rw[hesc]at this
  simp only[List.length_append]at this
  omega
 have z0:decide ((0:Int)>0)=false:=rfl
 have u3:(H.next=k)=False:=eq_false (by omega)
 rcases hx with ⟨hr,rfl⟩ | ⟨hr,rfl⟩ | ⟨hr,rfl⟩ | ⟨hr,rfl⟩ | ⟨rfl,hr,rfl⟩ | ⟨rfl,hr,rfl⟩ | ⟨rfl,hr,rfl⟩ | ⟨n1,n2,n3,n4,n5,hx⟩
 case' inl=>
  have c38:(((dec (b::t)).1:Int)==38)=true:=by rw[hr];rfl
  simp (maxSteps:=400000) only[wF,storeA,reduceCtorEq,Nat.reduceAdd,Nat.reduceSub,Nat.reduceEqDiff,Nat.reduceLeDiff,Int.reduceToNat,Int.reduceLE,Int.reduceLT,Int.reduceAdd,Int.reduceNeg,Nat.reduceMul,T87,nextA,h5,q0,dec_at,hbt,x1',u1,u2,u3,hsw2,lookupA,entriesA,keyT,findA,z0,convA,buildA,sliceLit,fillA,zerosA,AV.boxable,Nat.le_refl,Nat.reduceLT,c38]
 case' inr.inl=>
  have c38:(((dec (b::t)).1:Int)==38)=false:=by rw[beq_eq_false_iff_ne];omega
  have c60:(((dec (b::t)).1:Int)==60)=true:=by rw[hr];rfl
  simp (maxSteps:=400000) only[wF,storeA,reduceCtorEq,Nat.reduceAdd,Nat.reduceSub,Nat.reduceEqDiff,Nat.reduceLeDiff,Int.reduceToNat,Int.reduceLE,Int.reduceLT,Int.reduceAdd,Int.reduceNeg,Nat.reduceMul,T87,nextA,h5,q0,dec_at,hbt,x1',u1,u2,u3,hsw2,lookupA,entriesA,keyT,findA,z0,convA,buildA,sliceLit,fillA,zerosA,AV.boxable,Nat.le_refl,Nat.reduceLT,c38,c60]
 case' inr.inr.inl=>
  have c38:(((dec (b::t)).1:Int)==38)=false:=by rw[beq_eq_false_iff_ne];omega
  have c60:(((dec (b::t)).1:Int)==60)=false:=by rw[beq_eq_false_iff_ne];omega
  have c62:(((dec (b::t)).1:Int)==62)=true:=by rw[hr];rfl
  simp (maxSteps:=400000) only[wF,storeA,reduceCtorEq,Nat.reduceAdd,Nat.reduceSub,Nat.reduceEqDiff,Nat.reduceLeDiff,Int.reduceToNat,Int.reduceLE,Int.reduceLT,Int.reduceAdd,Int.reduceNeg,Nat.reduceMul,T87,nextA,h5,q0,dec_at,hbt,x1',u1,u2,u3,hsw2,lookupA,entriesA,keyT,findA,z0,convA,buildA,sliceLit,fillA,zerosA,AV.boxable,Nat.le_refl,Nat.reduceLT,c38,c60,c62]
 case' inr.inr.inr.inl=>
  have c38:(((dec (b::t)).1:Int)==38)=false:=by rw[beq_eq_false_iff_ne];omega
  have c60:(((dec (b::t)).1:Int)==60)=false:=by rw[beq_eq_false_iff_ne];omega
  have c62:(((dec (b::t)).1:Int)==62)=false:=by rw[beq_eq_false_iff_ne];omega
  have c13:(((dec (b::t)).1:Int)==13)=true:=by rw[hr];rfl
  simp (maxSteps:=400000) only[wF,storeA,reduceCtorEq,Nat.reduceAdd,Nat.reduceSub,Nat.reduceEqDiff,Nat.reduceLeDiff,Int.reduceToNat,Int.reduceLE,Int.reduceLT,Int.reduceAdd,Int.reduceNeg,Nat.reduceMul,T87,nextA,h5,q0,dec_at,hbt,x1',u1,u2,u3,hsw2,lookupA,entriesA,keyT,findA,z0,convA,buildA,sliceLit,fillA,zerosA,AV.boxable,Nat.le_refl,Nat.reduceLT,c38,c60,c62,c13]
 case' inr.inr.inr.inr.inl=>
  have c38:(((dec (b::t)).1:Int)==38)=false:=by rw[beq_eq_false_iff_ne];omega
  have c60:(((dec (b::t)).1:Int)==60)=false:=by rw[beq_eq_false_iff_ne];omega
  have c62:(((dec (b::t)).1:Int)==62)=false:=by rw[beq_eq_false_iff_ne];omega
  have c13:(((dec (b::t)).1:Int)==13)=false:=by rw[beq_eq_false_iff_ne];omega
  have c34:(((dec (b::t)).1:Int)==34)=true:=by rw[hr];rfl
  simp (maxSteps:=400000) only[wF,storeA,reduceCtorEq,Nat.reduceAdd,Nat.reduceSub,Nat.reduceEqDiff,Nat.reduceLeDiff,Int.reduceToNat,Int.reduceLE,Int.reduceLT,Int.reduceAdd,Int.reduceNeg,Nat.reduceMul,T87,nextA,h5,q0,dec_at,hbt,x1',u1,u2,u3,hsw2,lookupA,entriesA,keyT,findA,z0,convA,buildA,sliceLit,fillA,zerosA,AV.boxable,Nat.le_refl,Nat.reduceLT,c38,c60,c62,c13,c34]
 case' inr.inr.inr.inr.inr.inl=>
  have c38:(((dec (b::t)).1:Int)==38)=false:=by rw[beq_eq_false_iff_ne];omega
  have c60:(((dec (b::t)).1:Int)==60)=false:=by rw[beq_eq_false_iff_ne];omega
  have c62:(((dec (b::t)).1:Int)==62)=false:=by rw[beq_eq_false_iff_ne];omega
  have c13:(((dec (b::t)).1:Int)==13)=false:=by rw[beq_eq_false_iff_ne];omega
  have c34:(((dec (b::t)).1:Int)==34)=false:=by rw[beq_eq_false_iff_ne];omega
  have c9:(((dec (b::t)).1:Int)==9)=true:=by rw[hr];rfl
  simp (maxSteps:=400000) only[wF,storeA,reduceCtorEq,Nat.reduceAdd,Nat.reduceSub,Nat.reduceEqDiff,Nat.reduceLeDiff,Int.reduceToNat,Int.reduceLE,Int.reduceLT,Int.reduceAdd,Int.reduceNeg,Nat.reduceMul,T87,nextA,h5,q0,dec_at,hbt,x1',u1,u2,u3,hsw2,lookupA,entriesA,keyT,findA,z0,convA,buildA,sliceLit,fillA,zerosA,AV.boxable,Nat.le_refl,Nat.reduceLT,c38,c60,c62,c13,c34,c9]
 case' inr.inr.inr.inr.inr.inr.inl=>
  have c38:(((dec (b::t)).1:Int)==38)=false:=by rw[beq_eq_false_iff_ne];omega
  have c60:(((dec (b::t)).1:Int)==60)=false:=by rw[beq_eq_false_iff_ne];omega
  have c62:(((dec (b::t)).1:Int)==62)=false:=by rw[beq_eq_false_iff_ne];omega
  have c13:(((dec (b::t)).1:Int)==13)=false:=by rw[beq_eq_false_iff_ne];omega
  have c34:(((dec (b::t)).1:Int)==34)=false:=by rw[beq_eq_false_iff_ne];omega
  have c9:(((dec (b::t)).1:Int)==9)=false:=by rw[beq_eq_false_iff_ne];omega
  have c10:(((dec (b::t)).1:Int)==10)=true:=by rw[hr];rfl
  simp (maxSteps:=400000) only[wF,storeA,reduceCtorEq,Nat.reduceAdd,Nat.reduceSub,Nat.reduceEqDiff,Nat.reduceLeDiff,Int.reduceToNat,Int.reduceLE,Int.reduceLT,Int.reduceAdd,Int.reduceNeg,Nat.reduceMul,T87,nextA,h5,q0,dec_at,hbt,x1',u1,u2,u3,hsw2,lookupA,entriesA,keyT,findA,z0,convA,buildA,sliceLit,fillA,zerosA,AV.boxable,Nat.le_refl,Nat.reduceLT,c38,c60,c62,c13,c34,c9,c10]
 case' inr.inr.inr.inr.inr.inr.inr=>
  have c38:(((dec (b::t)).1:Int)==38)=false:=by rw[beq_eq_false_iff_ne];omega
  have c60:(((dec (b::t)).1:Int)==60)=false:=by rw[beq_eq_false_iff_ne];omega
  have c62:(((dec (b::t)).1:Int)==62)=false:=by rw[beq_eq_false_iff_ne];omega
  have c13:(((dec (b::t)).1:Int)==13)=false:=by rw[beq_eq_false_iff_ne];omega
  have hxs:=hx.symm
  cases attr
 case' inr.inr.inr.inr.inr.inr.inr.false=>
  simp (maxSteps:=400000) only[wF,storeA,reduceCtorEq,Nat.reduceAdd,Nat.reduceSub,Nat.reduceEqDiff,Nat.reduceLeDiff,Int.reduceToNat,Int.reduceLE,Int.reduceLT,Int.reduceAdd,Int.reduceNeg,Nat.reduceMul,T87,nextA,h5,q0,dec_at,hbt,x1',u1,u2,u3,hsw2,lookupA,entriesA,keyT,findA,z0,convA,hxs,buildA,sliceLit,fillA,zerosA,AV.boxable,Nat.le_refl,Nat.reduceLT,c38,c60,c62,c13]
 case' inr.inr.inr.inr.inr.inr.inr.true=>
  obtain⟨n6,n7,n8⟩:=n5 rfl
  have c34:(((dec (b::t)).1:Int)==34)=false:=by rw[beq_eq_false_iff_ne];omega
  have c9:(((dec (b::t)).1:Int)==9)=false:=by rw[beq_eq_false_iff_ne];omega
  have c10:(((dec (b::t)).1:Int)==10)=false:=by rw[beq_eq_false_iff_ne];omega
  simp (maxSteps:=400000) only[wF,storeA,reduceCtorEq,Nat.reduceAdd,Nat.reduceSub,Nat.reduceEqDiff,Nat.reduceLeDiff,Int.reduceToNat,Int.reduceLE,Int.reduceLT,Int.reduceAdd,Int.reduceNeg,Nat.reduceMul,T87,nextA,h5,q0,dec_at,hbt,x1',u1,u2,u3,hsw2,lookupA,entriesA,keyT,findA,z0,convA,hxs,buildA,sliceLit,fillA,zerosA,AV.boxable,Nat.le_refl,Nat.reduceLT,c38,c60,c62,c13,c34,c9,c10]
 all_goals
  refine⟨rfl,?_⟩
  generalize hZ:AHeap.allocAt _ J.next _=Z
  have zr:=congrFun (congrArg AHeap.get hZ.symm) J.next
  rw[AHeap.get_allocAt_same]at zr
  have zn:Z.next=J.next+1:=by rw[←hZ];simp only[AHeap.next_set,AHeap.next_allocAt];omega
  have zi:Z.get H.next=some (.iter s (p+(dec (b::t)).2)):=by rw[←hZ,AHeap.get_allocAt_ne _ _ (by omega),AHeap.get_set_same]
  have zo:∀i,i<J.next→i≠H.next→Z.get i=J.get i:=fun i i1 i2=>by rw[←hZ,AHeap.get_allocAt_ne _ _ (by omega),AHeap.get_set_ne _ _ i2]
  clear hZ
  refine AInv.retK B52 (put_ok (l:=[_]) ⟨b0,x0,(zo _ (by omega) (by omega)).trans x1,(zo _ h7 hjt).trans x2⟩ (by omega) (by omega) zr (by omega) (by rw[catS_one];exact hlen) (show 1≤100 by decide)) (fun v A2 hq=>?_) (fun v A2 hq=>by cases hq.1)
  obtain⟨hv,j',y1,y2,y3,y4,y5⟩:=hq
  cases hv
  simp (maxSteps:=400000) only[wF,storeA,reduceCtorEq,Nat.reduceAdd,Nat.reduceSub,Nat.reduceEqDiff,Nat.reduceLeDiff,Int.reduceToNat,Int.reduceLE,Int.reduceLT,Int.reduceAdd,Int.reduceNeg,Nat.reduceMul,T87]
  have e1:s.drop (p+(dec (b::t)).2)=(b::t).drop (dec (b::t)).2:=by rw[←hbt,List.drop_drop]
  refine⟨(p+(dec (b::t)).2,j',_,A2),⟨by simp only;omega,?_,?_,y1,?_,?_,by simp only;omega,by simp only;omega,fun i i1 i2 i3=>?_⟩,by simp only;omega,by simp[Fg],HW.refl _⟩
  ·simp only
   rw[e1]
   rw[isTextS_step hne,Bool.and_eq_true]at h2
   exact h2.2
  ·simp only
   rw[e1,h3,hesc,catS_one,List.append_assoc]
  ·simp only
   rw[y5 _ (by omega) (by omega) (Ne.symm hjt)]
   exact zi
  ·simp only
   rcases y2 with y2 | y2
   ·rw[y2];exact h6
   ·right;omega
  ·simp only
   have i4:i≠jj:=by rcases h6 with h6 | h6<;>omega
   rw[y5 i (by omega) i2 i4,zo i (by omega) (by omega)]
   exact h9 i i1 i2 i3
end Go.Ab
namespace Go.Ab
open Go Go.Lib Go.Proofs
def atS (l:List Nd) (k:Nat):List UInt8:=
 [32]++(l.getD k nd0).name++(if(l.getD k nd0).name=(l.getD k nd0).text∧lowS (l.getD k nd0).name∈switchS then []else [61,34]++escS true (l.getD k nd0).text++[34])
def wrN (l:List Nd):Nat→Nat→List UInt8
 | 0,_=>[]
 | f+1,i=>
  match (l.getD i nd0).kind with
  | 1=>[60]++(l.getD i nd0).name++(attsOf l i).flatMap (atS l)++[62] ++
   (if lowS (l.getD i nd0).name∈voidsS then []else(kidsOf l i).flatMap (wrN l f)++([60,47]++(l.getD i nd0).name++[62]))
  | 3=>if isRawS (l.getD (l.getD i nd0).up.toNat nd0).name=true then(l.getD i nd0).text else escS false (l.getD i nd0).text
  | 4=>[60,33,45,45]++(l.getD i nd0).text++[45,45,62]
  | 5=>[60,63]++(l.getD i nd0).name++(if(l.getD i nd0).text=[]then []else [32]++(l.getD i nd0).text)++[62]
  | _=>[]
def WP (H:AHeap) (k j:Nat) (W:WV) (acc:List UInt8) (J:AHeap) (jj:Nat):Prop:=
 WAt J k jj W acc∧(jj=j∨H.next≤jj)∧jj<J.next∧H.next≤J.next∧∀i,i<H.next→i≠k→i≠j→J.get i=H.get i
theorem WP.refl {H:AHeap} {k j:Nat} {W:WV} {acc:List UInt8} (h:WAt H k j W acc) (hj:j<H.next):WP H k j W acc H j:=⟨h,.inl rfl,hj,Nat.le_refl _,fun _ _ _ _=>rfl⟩
theorem WP.trans {H J J2:AHeap} {k j j1 j2:Nat} {W:WV} {a b:List UInt8} (h1:WP H k j W a J j1) (h2:WP J k j1 W b J2 j2):WP H k j W b J2 j2:=by
 obtain⟨a1,a2,a3,a4,a5⟩:=h1
 obtain⟨b1,b2,b3,b4,b5⟩:=h2
 refine⟨b1,?_,b3,by omega,fun i i1 i2 i3=>?_⟩
 ·rcases b2 with b2 | b2
  ·rw[b2];exact a2
  ·right;omega
 ·have i4:i≠j1:=by rcases a2 with a2 | a2<;>omega
  rw[b5 i (by omega) i2 i4]
  exact a5 i i1 i2 i3
theorem WP.grow {H J J':AHeap} {k j j1:Nat} {W:WV} {a:List UInt8} (h:WP H k j W a J j1) (hk:k<J.next) (hn:J.next≤J'.next) (hf:∀i,i<J.next→J'.get i=J.get i):WP H k j W a J' j1:=by
 obtain⟨⟨b0,x0,x1,x2⟩,a2,a3,a4,a5⟩:=h
 exact⟨⟨b0,x0,(hf _ hk).trans x1,(hf _ a3).trans x2⟩,a2,by omega,by omega,fun i i1 i2 i3=>(hf i (by omega)).trans (a5 i i1 i2 i3)⟩
theorem WP.post {H J:AHeap} {k j j1:Nat} {W:WV} {a:List UInt8} (h:WP H k j W a J j1):WPost' H k j W a J:=⟨j1,h⟩
theorem MAt.keep {H J:AHeap} {k j j1:Nat} {W:WV} {a b:List UInt8} {M:WM} (hm:MAt H M) (wf:∀k o,H.get k=some o→k<H.next) (hb:WAt H k j W b) (h:WP H k j W a J j1):MAt J M:=by
 obtain⟨b0,x0,x1,x2⟩:=hb
 have key:∀{m:Nat} {es:List (AV × AV)},H.get m=some (.map es)→J.get m=some (.map es):=fun {m es} hg=>by
  have hk:m≠k:=fun e=>by rw[e,x1]at hg;cases hg
  have hj:m≠j:=fun e=>by rw[e,x2]at hg;cases hg
  rw[h.2.2.2.2 m (wf _ _ hg) hk hj];exact hg
 exact⟨key hm.sw,key hm.vo,key hm.ra,key hm.ke,key hm.si⟩
theorem put_step {G:Nat→Option (List AV)} {J:AHeap} {k j:Nat} {W:WV} {acc:List UInt8} (l:List (List UInt8)) (hb:WAt J k j W acc) (hj:j<J.next) (hk:k<J.next) (hl:acc.length+(catS l).length≤1048576) (hn:l.length≤100) :
  ACalls Tryz.prog G 52 [.ptr k 0,.slc J.next l.length] (J.allocAt J.next (.row 9 1 (strsA l))) fun x H'=>x = .ret (.tup [])∧∃j2,WP J k j W (acc++catS l) H' j2:=by
 obtain⟨b0,x0,x1,x2⟩:=hb
 have hz:WAt (J.allocAt J.next (.row 9 1 (strsA l))) k j W acc:=⟨b0,x0,by rw[AHeap.get_allocAt_ne _ _ (by omega)];exact x1,by rw[AHeap.get_allocAt_ne _ _ (by omega)];exact x2⟩
 have hzn:(J.allocAt J.next (.row 9 1 (strsA l))).next=J.next+1:=by simp only[AHeap.next_allocAt];omega
 refine(put_ok hz (by omega) (by omega) (AHeap.get_allocAt_same _ _ _) (by omega) hl hn).mono ?_
 ·rintro x H' ⟨rfl,j2,y1,y2,y3,y4,y5⟩
  rw[hzn]at y2 y4
  refine⟨rfl,j2,y1,?_,y3,by omega,fun i i1 i2 i3=>?_⟩
  ·rcases y2 with y2 | y2
   ·exact .inl y2
   ·right;omega
  ·rw[y5 i (by omega) i2 i3,AHeap.get_allocAt_ne _ _ (by omega)]
end Go.Ab
