/- strings.EqualFold against "xml": where a byte is none of ASCII the code behind its label is walked. -/
import Derived.Test.YtebgjmoihhbjjaaGreatDoorW29
import Derived.ScopeJumps
import Derived.WalkMore
set_option linter.all false
namespace Go.Ab
open Go Go.Lib Go.Proofs Go.RowKit
structure FoldT (G:Nat→Option (List AV)):Prop where
  up:∀(C:Ctx) (w:World) (n:Nat),Rel G C w→n=120∨n=109∨n=108→w.cell? ⟨0,n,none⟩=some (.int .u16 ((n-32:Nat):Int))
  down:∀(C:Ctx) (w:World) (n:Nat),Rel G C w→n=120∨n=109∨n=108→w.cell? ⟨0,n-32,none⟩=some (.int .u16 (n:Int))
set_option maxHeartbeats 1000000 in
set_option maxRecDepth 100000 in
theorem simpleFold_at (n m:Nat) (hn:n<128) (hm:m<128) (w:World) (h:w.cell? ⟨0,n,none⟩=some (.int .u16 (m:Int))) :
    Calls Tryz.prog 76 #[.int .i32 n] w fun e w'=>e = .returned (.int .i32 m)∧w'=w:=by
  have h1:¬((n:Int)<0):=by omega
  have h2:¬((n:Int)>1114111):=by omega
  have h3:((n:Int)<128):=by omega
  go_enter Tryz.func76,Tryz.ntmps76
  go_wp2
  go_ret
  exact⟨rfl,rfl⟩
theorem foldUp_ab {G:Nat→Option (List AV)} (F:FoldT G) (n:Nat) (hn:n=120∨n=109∨n=108):PureCall Tryz.prog G 76 [.int .i32 n] (.int .i32 ((n-32:Nat):Int)):=
  PureCall.shelf (vs:=[.int .i32 n]) rfl (fun C => .int _ _) fun C w R=>(simpleFold_at n (n-32) (by omega) (by omega) w (F.up C w n R hn)).mono fun e w' ⟨h1,h2⟩=>⟨by simpa using h1,h2▸Below.refl _ _⟩
theorem foldDown_ab {G:Nat→Option (List AV)} (F:FoldT G) (n:Nat) (hn:n=120∨n=109∨n=108):PureCall Tryz.prog G 76 [.int .i32 ((n-32:Nat):Int)] (.int .i32 n):=
  PureCall.shelf (vs:=[.int .i32 ((n-32:Nat):Int)]) rfl (fun C => .int _ _) fun C w R=>(simpleFold_at (n-32) n (by omega) (by omega) w (F.down C w n R hn)).mono fun e w' ⟨h1,h2⟩=>⟨by simpa using h1,h2▸Below.refl _ _⟩
theorem B76:bodyT Tryz.prog 76=true:=by kernel_rfl
theorem BDec:bodyT Tryz.prog 60=true:=by kernel_rfl
def foldS:SC:=(.seq .skip (.seq (.ops [⟨none,(some 60),(.move (.tmp 0))⟩,⟨none,(some 61),(.move (.tmp 5))⟩,⟨none,(some 62),(.slice 9 (.tmp 60) (some (.tmp 61)) none none)⟩,⟨none,(some 0),(.assign (.tmp 62))⟩]) (.seq (.ops [⟨none,(some 63),(.move (.tmp 1))⟩,⟨none,(some 64),(.move (.tmp 5))⟩,⟨none,(some 65),(.slice 9 (.tmp 63) (some (.tmp 64)) none none)⟩,⟨none,(some 1),(.assign (.tmp 65))⟩]) (.seq (.seq (.ops [⟨none,(some 66),(.move (.tmp 0))⟩,⟨none,(some 67),(.range 9 (.tmp 66))⟩]) (.block 2 (.loop (.seq (.ops [⟨none,(some 68),(.next (.tmp 67) true)⟩,⟨none,(some 69),(.extract (.tmp 68) 0)⟩]) (.seq (.cond (.tmp 69) .skip (.exit 2)) (.block 3 (.seq (.ops [⟨none,(some 70),(.extract (.tmp 68) 2)⟩,⟨none,(some 10),(.assign (.tmp 70))⟩]) (.seq (.seq (.ops [⟨none,(some 71),(.move (.tmp 1))⟩,⟨none,(some 72),(.call ⟨(.builtin .len),#[(.tmp 71)],#[9]⟩)⟩,⟨none,(some 73),(.binOp .eql 3 (.tmp 72) (.const (.int .i64 0)) 3)⟩]) (.cond (.tmp 73) (.seq (.ops [⟨none,(some 4),(.assign (.const (.bool false)))⟩]) .ret) .skip)) (.seq (.ops [⟨none,(some 75),(.move (.tmp 1))⟩,⟨none,(some 76),(.call ⟨(.value (.func 60)),#[(.tmp 75)],#[9]⟩)⟩,⟨none,(some 74),(.move (.tmp 76))⟩,⟨none,(some 77),(.extract (.tmp 74) 0)⟩,⟨none,(some 78),(.extract (.tmp 74) 1)⟩,⟨none,(some 11),(.assign (.tmp 77))⟩,⟨none,(some 12),(.assign (.tmp 78))⟩]) (.seq (.ops [⟨none,(some 79),(.move (.tmp 1))⟩,⟨none,(some 80),(.move (.tmp 12))⟩,⟨none,(some 81),(.slice 9 (.tmp 79) (some (.tmp 80)) none none)⟩,⟨none,(some 1),(.assign (.tmp 81))⟩]) (.seq (.seq (.ops [⟨none,(some 82),(.move (.tmp 11))⟩,⟨none,(some 83),(.move (.tmp 10))⟩,⟨none,(some 84),(.binOp .eql 21 (.tmp 82) (.tmp 83) 21)⟩]) (.cond (.tmp 84) (.exit 3) .skip)) (.seq (.seq (.ops [⟨none,(some 85),(.move (.tmp 11))⟩,⟨none,(some 86),(.move (.tmp 10))⟩,⟨none,(some 87),(.binOp .lss 21 (.tmp 85) (.tmp 86) 21)⟩]) (.cond (.tmp 87) (.ops [⟨none,(some 88),(.move (.tmp 10))⟩,⟨none,(some 89),(.move (.tmp 11))⟩,⟨none,(some 11),(.assign (.tmp 88))⟩,⟨none,(some 10),(.assign (.tmp 89))⟩]) .skip)) (.seq (.seq (.ops [⟨none,(some 90),(.move (.tmp 11))⟩,⟨none,(some 91),(.binOp .lss 21 (.tmp 90) (.const (.int .i32 128)) 21)⟩]) (.cond (.tmp 91) (.seq (.seq (.ops [⟨none,(some 92),(.move (.tmp 10))⟩,⟨none,(some 93),(.binOp .leq 21 (.const (.int .i32 65)) (.tmp 92) 21)⟩,⟨none,(some 94),(.move (.tmp 93))⟩,⟨(some (94,true)),(some 95),(.move (.tmp 10))⟩,⟨(some (94,true)),(some 96),(.binOp .leq 21 (.tmp 95) (.const (.int .i32 90)) 21)⟩,⟨none,(some 97),(.pick (.tmp 94) (.tmp 96) (.const (.bool false)))⟩,⟨none,(some 98),(.move (.tmp 97))⟩,⟨(some (98,true)),(some 99),(.move (.tmp 11))⟩,⟨(some (98,true)),(some 100),(.move (.tmp 10))⟩,⟨(some (98,true)),(some 101),(.binOp .add 21 (.tmp 100) (.const (.int .i32 97)) 21)⟩,⟨(some (98,true)),(some 102),(.binOp .sub 21 (.tmp 101) (.const (.int .i32 65)) 21)⟩,⟨(some (98,true)),(some 103),(.binOp .eql 21 (.tmp 99) (.tmp 102) 21)⟩,⟨none,(some 104),(.pick (.tmp 98) (.tmp 103) (.const (.bool false)))⟩]) (.cond (.tmp 104) (.exit 3) .skip)) (.seq (.ops [⟨none,(some 4),(.assign (.const (.bool false)))⟩]) .ret)) .skip)) (.seq (.ops [⟨none,(some 105),(.move (.tmp 10))⟩,⟨none,(some 106),(.call ⟨(.value (.func 76)),#[(.tmp 105)],#[21]⟩)⟩,⟨none,(some 13),(.assign (.tmp 106))⟩]) (.seq (.block 4 (.loop (.seq (.seq (.ops [⟨none,(some 107),(.move (.tmp 13))⟩,⟨none,(some 108),(.move (.tmp 10))⟩,⟨none,(some 109),(.binOp .neq 21 (.tmp 107) (.tmp 108) 21)⟩,⟨none,(some 110),(.move (.tmp 109))⟩,⟨(some (110,true)),(some 111),(.move (.tmp 13))⟩,⟨(some (110,true)),(some 112),(.move (.tmp 11))⟩,⟨(some (110,true)),(some 113),(.binOp .lss 21 (.tmp 111) (.tmp 112) 21)⟩,⟨none,(some 114),(.pick (.tmp 110) (.tmp 113) (.const (.bool false)))⟩]) (.cond (.tmp 114) .skip (.exit 4))) (.block 5 (.ops [⟨none,(some 115),(.move (.tmp 13))⟩,⟨none,(some 116),(.call ⟨(.value (.func 76)),#[(.tmp 115)],#[21]⟩)⟩,⟨none,(some 13),(.assign (.tmp 116))⟩]))))) (.seq (.seq (.ops [⟨none,(some 117),(.move (.tmp 13))⟩,⟨none,(some 118),(.move (.tmp 11))⟩,⟨none,(some 119),(.binOp .eql 21 (.tmp 117) (.tmp 118) 21)⟩]) (.cond (.tmp 119) (.exit 3) .skip)) (.seq (.ops [⟨none,(some 4),(.assign (.const (.bool false)))⟩]) .ret))))))))))))))))) (.seq (.ops [⟨none,(some 120),(.move (.tmp 1))⟩,⟨none,(some 121),(.call ⟨(.builtin .len),#[(.tmp 120)],#[9]⟩)⟩,⟨none,(some 122),(.binOp .eql 3 (.tmp 121) (.const (.int .i64 0)) 3)⟩,⟨none,(some 4),(.assign (.tmp 122))⟩]) .ret)))))
def foldN:Nat:=123
def foldR:List ResultVar:=[(.tmp 4)]
theorem foldTy:(strT Tryz.prog 9=true)∧(elemT Tryz.prog 9=none)∧(mapT Tryz.prog 9=none):=⟨by kernel_rfl,by kernel_rfl,by kernel_rfl⟩
set_option maxRecDepth 100000 in
set_option maxHeartbeats 2000000 in
theorem foldS_ok {G:Nat→Option (List AV)} (g:Glob G) (F:FoldT G) {l t:List UInt8} {i:Nat} (hi:i<l.length) (hl:l.length≤1000000000) (hx:128≤(l[i]).toNat) {c:UInt8} {t':List UInt8} (ht:t.drop i=c::t') (hti:i<t.length) (htl:t.length≤3)
    (hc:c.toNat=120∨c.toNat=109∨c.toNat=108) (H:AHeap) :
    awpS Tryz.prog G foldS (bodyA Tryz.prog G foldR fun r H'=>r = .ret (.bool false)∧Kept H H') ([.str l,.str t,.und,.und,.und,.int .i64 i]++List.replicate 117 .und) H:=by
  have q0:((i:Int)≤l.length)=True:=by simp;omega
  have q1:((i:Int)≤t.length)=True:=by simp;omega
  simp (maxSteps:=400000) only[wF,storeA,reduceCtorEq,Nat.reduceAdd,Nat.reduceSub,Nat.reduceEqDiff,Nat.reduceLeDiff,Int.reduceToNat,Int.reduceLE,Int.reduceLT,Int.reduceAdd,Int.reduceNeg,Nat.reduceMul,foldS,foldN,foldR,foldTy,q0,q1]
  refine ATrS.loopK (κ:=Unit) (fun _=>[.str (l.drop i),.str (c::t'),.und,.und,.und]++List.replicate 62 .und++[.ptr H.next 0]++List.replicate 55 .und) (fun _=>H.allocAt H.next (.iter (l.drop i) 0)) (fun _=>True) (fun _=>0) ⟨(),trivial,by simp[Fg,ht],HW.refl _⟩ ?_
  rintro⟨⟩ -
  have hlt:0<(l.drop i).length:=by simp;omega
  have hgi:(H.allocAt H.next (.iter (l.drop i) 0)).get H.next=some (.iter (l.drop i) 0):=by simp[AHeap.get_allocAt]
  have hd:=dec_high (t:=l.drop (i+1)) hx
  rw[←List.drop_eq_getElem_cons hi]at hd
  have hd2:=dec_max (l.drop i)
  have hda:dec (c::t')=(c.toNat,1):=dec_ascii (by omega)
  have tne:(((t'.length+1:Nat):Int)==0)=false:=by simp;omega
  have q2:(((1:Nat):Int)≤(t'.length+1:Nat))=True:=by simp;omega
  simp (maxSteps:=400000) only[wF,storeA,reduceCtorEq,Nat.reduceAdd,Nat.reduceSub,Nat.reduceEqDiff,Nat.reduceLeDiff,Int.reduceToNat,Int.reduceLE,Int.reduceLT,Int.reduceAdd,Int.reduceNeg,Nat.reduceMul,foldTy,nextA,hgi,hlt,dec_at,List.drop_zero,tne]
  refine AInv.pureK BDec (dec_ab g _ (List.cons_ne_nil _ _)) fun J1 h1=>?_
  generalize (dec (l.drop i)).1=r at hd hd2
  have e1:((c.toNat:Int)==(r:Int))=false:=by simp;omega
  have e2:decide ((c.toNat:Int)<(r:Int))=true:=by simp;omega
  have e3:decide ((r:Int)<128)=false:=by simp;omega
  simp (maxSteps:=400000) only[wF,storeA,reduceCtorEq,Nat.reduceAdd,Nat.reduceSub,Nat.reduceEqDiff,Nat.reduceLeDiff,Int.reduceToNat,Int.reduceLE,Int.reduceLT,Int.reduceAdd,Int.reduceNeg,Nat.reduceMul,foldTy,hda,e1,e2,e3,q2]
  refine AInv.pureK B76 (foldUp_ab F _ hc) fun J2 h2=>?_
  simp (maxSteps:=400000) only[wF,storeA,reduceCtorEq,Nat.reduceAdd,Nat.reduceSub,Nat.reduceEqDiff,Nat.reduceLeDiff,Int.reduceToNat,Int.reduceLE,Int.reduceLT,Int.reduceAdd,Int.reduceNeg,Nat.reduceMul,foldTy]
  have hJ:H.next≤J2.next∧∀j,j<H.next→J2.get j=H.get j:=by
    have n1:=h1.1
    have n2:=h2.1
    simp only[AHeap.next_set,AHeap.next_allocAt]at n1
    refine⟨by omega,fun j hj=>?_⟩
    rw[h2.2,h1.2,AHeap.get_set_ne _ _ (by omega),AHeap.get_allocAt]
    simp[show ¬j=H.next by omega]
  refine ATrS.loopK (κ:=Nat × AHeap) (fun x=>List.replicate 10 .und++[.int .i32 c.toNat,.int .i32 r,.und,.int .i32 x.1]++List.replicate 109 .und) (fun x=>x.2)
    (fun x=>(x.1=c.toNat-32∨x.1=c.toNat)∧H.next≤x.2.next∧∀j,j<H.next→x.2.get j=H.get j) (fun x=>if x.1=c.toNat then 0 else 1) ⟨(c.toNat-32,J2),⟨.inl rfl,hJ⟩,by simp[Fg],HW.refl _⟩ ?_
  rintro⟨v,J⟩ ⟨hv,hJn,hJg⟩
  simp only at hv hJn hJg
  rcases hv with rfl | rfl
  · have e4:(((c.toNat-32:Nat):Int) != (c.toNat:Int))=true:=by simp;omega
    have e5:decide (((c.toNat-32:Nat):Int)<(r:Int))=true:=by simp;omega
    simp (maxSteps:=400000) only[wF,storeA,reduceCtorEq,Nat.reduceAdd,Nat.reduceSub,Nat.reduceEqDiff,Nat.reduceLeDiff,Int.reduceToNat,Int.reduceLE,Int.reduceLT,Int.reduceAdd,Int.reduceNeg,Nat.reduceMul,foldTy,e4,e5]
    refine AInv.pureK B76 (foldDown_ab F _ hc) fun J3 h3=>?_
    simp (maxSteps:=400000) only[wF,storeA,reduceCtorEq,Nat.reduceAdd,Nat.reduceSub,Nat.reduceEqDiff,Nat.reduceLeDiff,Int.reduceToNat,Int.reduceLE,Int.reduceLT,Int.reduceAdd,Int.reduceNeg,Nat.reduceMul,foldTy]
    refine⟨(c.toNat,J3),⟨.inr rfl,Nat.le_trans hJn h3.1,fun j hj=>by rw[h3.2];exact hJg j hj⟩,by simp only[if_true];rw[if_neg (by omega)];omega,by simp[Fg],HW.refl _⟩
  · have e4:((c.toNat:Int) != (c.toNat:Int))=false:=by simp
    have e5:((c.toNat:Int)==(r:Int))=false:=by simp;omega
    simp (maxSteps:=400000) only[wF,storeA,reduceCtorEq,Nat.reduceAdd,Nat.reduceSub,Nat.reduceEqDiff,Nat.reduceLeDiff,Int.reduceToNat,Int.reduceLE,Int.reduceLT,Int.reduceAdd,Int.reduceNeg,Nat.reduceMul,foldTy,e4,e5]
    exact⟨hJn,hJg⟩
noncomputable def foldRest:Code:=match Tryz.f46.body with | some (.seq _ (.scope c))=>(findLabel c 0).getD .skip | _ => .skip
theorem foldRest_prep:prep foldRest=foldS:=by kernel_rfl
theorem foldRes:Tryz.f46.results.toList=foldR:=by kernel_rfl
def FoldJump (s t:ByteArray) (w:World) (ac:Act) (w':World):Prop:=
  w'=w∧ac.defers=[]∧ac.tmps.toList.length=123∧∃i:Nat,ac.tmps.toList[0]?=some (.string s)∧ac.tmps.toList[1]?=some (.string t)∧ac.tmps.toList[5]?=some (.int .i64 i) ∧
    ∃hi:i<s.size,i<t.size∧128≤(s[i]).toNat∧Lib.equalFold (s.data.toList.drop i) (t.data.toList.drop i)=Lib.equalFold s.data.toList t.data.toList
set_option maxHeartbeats 8000000 in
set_option maxRecDepth 1000000 in
theorem fold_first (s t:ByteArray) (w:World) (hs:s.size<4294967281) (hat:∀(j:Nat) b,t.data.toList[j]?=some b→b.toNat<128) (R:Ending→World→Prop)
    (hR:R (.returned (.bool (Lib.equalFold s.data.toList t.data.toList))) w)
    (pass:∀a' w',FoldJump s t w a' w'→foldRest.wp Tryz.prog (bodyPost Tryz.prog Tryz.f46 R) a' w') :
    Calls Tryz.prog 46 #[.string s,.string t] w R:=by
  have HT:Aside (∀(j:Nat) b,t.data.toList[j]?=some b→b.toNat<128):=hat
  have HR:Aside (R (.returned (.bool (Lib.equalFold s.data.toList t.data.toList))) w):=hR
  clear hat hR
  obtain⟨M,hM⟩:∃M:Nat,min (s.size:Int) (t.size:Int)=(M:Int):=⟨min s.size t.size,by omega⟩
  have hMs:M≤s.size:=by omega
  have hMt:M≤t.size:=by omega
  have hMe:M=s.size∨M=t.size:=by omega
  go_enter Tryz.func46,Tryz.ntmps46
  go_wp2
  refine wp_scope_jumps (rest:=foldRest) 0 (FoldJump s t w) (fun _ _=>0) (by kernel_rfl) ?_ ?_
  · go_wp2
    go_loopg [5] M (fun g s5 wx=>w=wx∧∃i:Nat,i+g=M∧s5 = .int .i64 i∧Lib.equalFold (s.data.toList.drop i) (t.data.toList.drop i)=Lib.equalFold s.data.toList t.data.toList)
    case atStart=>exact⟨rfl,0,by omega,rfl,rfl⟩
    case round=>
      obtain⟨rfl,i,hig,rfl,hinv⟩:=hrel
      have HI:Aside (Lib.equalFold (s.data.toList.drop i) (t.data.toList.drop i)=Lib.equalFold s.data.toList t.data.toList):=hinv
      clear hinv hM pass
      cases gk with
      | zero=>
        have hiM:¬((i:Int)<(M:Int)):=by omega
        obtain rfl:i=M:=by omega
        have hE:Lib.equalFold s.data.toList t.data.toList=decide (s.size=t.size):=by
          rw[←HI.out,Lib.equalFold_end _ _ (by
            rcases hMe with h | h
            · exact Or.inl (List.drop_eq_nil_of_le (by rw[←Lib.size_eq];omega))
            · exact Or.inr (List.drop_eq_nil_of_le (by rw[←Lib.size_eq];omega))),List.length_drop,List.length_drop,←Lib.size_eq,←Lib.size_eq]
          exact decide_eq_decide.2 (by omega)
        by_cases hst:s.size=t.size
        · have hb:((s.size:Int)==(t.size:Int))=true:=beq_iff_eq.2 (by omega)
          go_wp2
          have h:=HR.out
          rw[hE]at h
          simpa[hst]using h
        · have hb:((s.size:Int)==(t.size:Int))=false:=beq_eq_false_iff_ne.2 (by omega)
          go_wp2
          have h:=HR.out
          rw[hE]at h
          simpa[hst]using h
      | succ g=>
        have hiM:(i:Int)<(M:Int):=by omega
        have hisz:(i:Int)<(s.size:Int):=by omega
        have hitz:(i:Int)<(t.size:Int):=by omega
        obtain⟨x,hx⟩:∃x:UInt8,s[i]'(by omega)=x:=⟨_,rfl⟩
        obtain⟨y,hy⟩:∃y:UInt8,t[i]'(by omega)=y:=⟨_,rfl⟩
        have hxl:s.data.toList[i]?=some x:=by rw[←hx];exact Lib.data_getElem? s i (by omega)
        have hyl:t.data.toList[i]?=some y:=by rw[←hy];exact Lib.data_getElem? t i (by omega)
        have hy128:y.toNat<128:=HT.out i y hyl
        have hxlt:=x.toNat_lt
        have hor:bits .or .u8 (x.toNat:Int) (y.toNat:Int)=((x.toNat ||| y.toNat:Nat):Int):=u8_or_nat _ _ (by omega) (by omega)
        have Hx:Aside (s.data.toList[i]?=some x∧t.data.toList[i]?=some y):=⟨hxl,hyl⟩
        clear hxl hyl
        by_cases hx128:x.toNat<128
        · have hor128:¬((128:Int)≤((x.toNat ||| y.toNat:Nat):Int)):=by have:=Nat.or_lt_two_pow (n:=7) hx128 hy128;omega
          go_wp2
          all_goals (try simp only[beq_iff_eq,beq_eq_false_iff_ne,ne_eq]at *)
          all_goals first
            | (go_roundg g
               case measure=>omega
               case rel=>exact⟨rfl,i+1,by omega,by first | rfl | simp,by rw[←HI.out,Lib.drop_at Hx.out.1,Lib.drop_at Hx.out.2,Lib.equalFold_yes _ _ _ _ (decide_eq_true (by omega))]⟩)
            | (have h:=HR.out
               rw[←HI.out,Lib.drop_at Hx.out.1,Lib.drop_at Hx.out.2,Lib.equalFold_no _ _ _ _ (decide_eq_false (by omega))]at h
               exact h)
        · have hor128:(128:Int)≤((x.toNat ||| y.toNat:Nat):Int):=by have:x.toNat≤x.toNat ||| y.toNat:=Nat.left_le_or;omega
          have Hx2:Aside (128≤(s[i]'(by omega)).toNat):=by unfold Aside;rw[hx];omega
          go_wp2
          go_step3
          show(0:Nat)=0∧FoldJump s t w _ _
          exact⟨rfl,rfl,rfl,rfl,i,rfl,rfl,rfl,by omega,by omega,Hx2.out,HI.out⟩
  · intro a' w' h
    refine wp_mono (pass a' w' h) ?_
    intro e a w h
    cases e<;>first | exact h | exact h.elim
theorem get_of {C:Ctx} {l:List Value} {n:Nat} {x:AV} {v:Value} (h:l[n]?=some v) (hx:VR C x v):∀y,l[n]?=some y→VR C x y:=by
  intro y hy
  rw[h]at hy
  cases hy
  exact hx
theorem fold_env {C:Ctx} {s t:List UInt8} {l:List Value} {i:Nat} (hl:l.length=123) (h0:l[0]?=some (.string ⟨s.toArray⟩)) (h1:l[1]?=some (.string ⟨t.toArray⟩)) (h5:l[5]?=some (.int .i64 i)) :
    VRs C ([.str s,.str t,.und,.und,.und,.int .i64 i]++List.replicate 117 .und) l:=by
  refine⟨by simp[hl],fun j x y hx hy=>?_⟩
  match j,hx with
  | 0,hx=>rw[h0]at hy;simp at hx;subst hx;cases hy;exact .str _
  | 1,hx=>rw[h1]at hy;simp at hx;subst hx;cases hy;exact .str _
  | 2,hx=>simp at hx;subst hx;exact .und _
  | 3,hx=>simp at hx;subst hx;exact .und _
  | 4,hx=>simp at hx;subst hx;exact .und _
  | 5,hx=>rw[h5]at hy;simp at hx;subst hx;cases hy;exact .int _ _
  | k+6,hx=>
    have hx':(List.replicate 117 AV.und)[k]?=some x:=hx
    rw[(List.mem_replicate.1 (List.mem_of_getElem? hx')).2]
    exact .und _
theorem xml_cases {i:Nat} (hi:i<([120,109,108]:List UInt8).length):∃c t',([120,109,108]:List UInt8).drop i=c::t'∧(c.toNat=120∨c.toNat=109∨c.toNat=108):=by
  match i,hi with
  | 0,_=>exact⟨_,_,rfl,by decide⟩
  | 1,_=>exact⟨_,_,rfl,by decide⟩
  | 2,_=>exact⟨_,_,rfl,by decide⟩
theorem foldXml {l:List UInt8} {i:Nat} (hi:i<l.length) (hx:128≤(l[i]).toNat) {c:UInt8} {t':List UInt8} (hc:c.toNat=120∨c.toNat=109∨c.toNat=108):Lib.equalFold (l.drop i) (c::t')=false:=by
  rw[List.drop_eq_getElem_cons hi]
  refine Lib.equalFold_no _ _ _ _ (decide_eq_false ?_)
  omega
set_option maxRecDepth 10000 in
theorem foldEq_x (a:UInt8):Lib.foldEq a 120=(a==120||a==88)∧Lib.foldEq a 109=(a==109||a==77)∧Lib.foldEq a 108=(a==108||a==76):=by
  have:∀n:Fin 256,Lib.foldEq (UInt8.ofNat n.val) 120=(UInt8.ofNat n.val==120||UInt8.ofNat n.val==88)∧Lib.foldEq (UInt8.ofNat n.val) 109=(UInt8.ofNat n.val==109||UInt8.ofNat n.val==77)∧Lib.foldEq (UInt8.ofNat n.val) 108=(UInt8.ofNat n.val==108||UInt8.ofNat n.val==76):=by decide
  have h:=this ⟨a.toNat,a.toNat_lt⟩
  simpa using h
theorem equalFold_xml (l:List UInt8):Lib.equalFold l [120,109,108]=isXmlS l:=by
  match l with
  | []=>rfl
  | [a]=>simp[Lib.equalFold,isXmlS]
  | [a,b]=>simp[Lib.equalFold,isXmlS]
  | [a,b,c]=>simp[Lib.equalFold,isXmlS,(foldEq_x a).1,(foldEq_x b).2.1,(foldEq_x c).2.2,Bool.and_assoc]
  | a::b::c::d::r=>simp[Lib.equalFold,isXmlS]
theorem fold_ab {G:Nat→Option (List AV)} (g:Glob G) (F:FoldT G) (l:List UInt8) (hl:l.length≤1000000000):PureCall Tryz.prog G 46 [.str l,.str [120,109,108]] (.bool (isXmlS l)):=by
  intro H
  refine ACalls.keep ?_
  intro C w args' R hH hv
  have ha:=flats_eq (xs:=[.str l,.str [120,109,108]]) (vs:=[.string ⟨l.toArray⟩,.string ⟨#[120,109,108]⟩]) rfl hv
  obtain⟨args'⟩:=args'
  simp only at ha
  subst ha
  refine fold_first ⟨l.toArray⟩ ⟨#[120,109,108]⟩ w (by rw[size_of];omega) (fun j b hb=>?_) _ ?_ ?_
  · have hb:b∈([120,109,108]:List UInt8):=List.mem_of_getElem? (by simpa using hb)
    simp at hb
    rcases hb with rfl | rfl | rfl<;>decide
  · refine⟨.ret (.bool (isXmlS l)),C,⟨rfl,by rw[hH];exact Kept.refl H⟩,?_,R,Adv.refl C w⟩
    have:=equalFold_xml l
    show VR C _ _
    simp only[this]
    exact .bool _
  · rintro a' w' ⟨rfl,hd,hlen,i,h0,h1,h5,hi,hti,hx,heq⟩
    obtain⟨c,t',ht,hc⟩:=xml_cases hti
    have hil:i<l.length:=by rw[size_of]at hi;exact hi
    have hx':128≤(l[i]).toNat:=hx
    have he:isXmlS l=false:=by
      rw[←equalFold_xml]
      have:Lib.equalFold (l.drop i) (([120,109,108]:List UInt8).drop i)=Lib.equalFold l [120,109,108]:=heq
      rw[←this,ht,foldXml hil hx' hc]
    have key:=foldS_ok g F hil hl hx' ht hti (by decide) hc H
    have:=awpS_ok _ _ _ _ key foldRest foldRest_prep C w' a' R hH (fold_env hlen h0 h1 h5) [] hd
    refine wp_mono this ?_
    rintro e ac w2 ⟨e',a2,C',q,he',ha',hd',R',A'⟩
    have ret:must (resultsA Tryz.prog G C'.H a2 foldR) (fun vs=>ARes.ret (oneOrTup vs) = .ret (.bool false)∧Kept H C'.H) →
        ac.defers=[]∧∃v,(results Tryz.f46 ac.tmps).run Tryz.prog w2 = .ok v w2∧∃r C',(r=ARes.ret (.bool (isXmlS l))∧Kept H C'.H)∧ResRel C' r (.returned v)∧Rel G C' w2∧Adv C w' C' w2:=by
      rintro⟨vs,hvs,hq⟩
      obtain⟨y,h1,h2⟩:=resultsA_run R' ha' (fn:=Tryz.f46) (vs:=vs) (by rw[foldRes];exact hvs)
      refine⟨hd',y,h1,.ret (.bool (isXmlS l)),C',⟨rfl,hq.2⟩,?_,R',A'⟩
      have:=ARes.ret.inj hq.1
      rw[this]at h2
      rw[he]
      exact h2
    cases e' with
    | normal=>cases e<;>first | exact he'.elim | exact ret q
    | ret=>cases e<;>first | exact he'.elim | exact ret q
    | exit i=>exact q.elim
    | pan v=>exact absurd q.1 (by simp)
end Go.Ab
