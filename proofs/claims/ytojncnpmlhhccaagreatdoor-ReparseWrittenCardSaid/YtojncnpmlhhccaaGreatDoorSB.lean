/- strings.Builder as a field of serhtml's writer: copyCheck and String at the level of the model. strings.Builder's String where the builder is a field of serhtml's writer. serhtml's writer as an object: its builder's copyCheck and String. -/
import Derived.Test.YtojncnpmlhhccaaGreatDoorXA
import Derived.Test.YtojncnpmlhhccaaGreatDoorCodesS1
set_option linter.all false
namespace Go.Proofs
open Go Go.RowKit
set_option maxHeartbeats 1000000 in
set_option maxRecDepth 100000 in
theorem Tryz.copyCheckW_used (b:Nat) (w:World) (h0:w.cell? ⟨b,10,none⟩=some (.pointer (some ⟨b,10,none⟩))) :
  Calls Tryz.prog 75 #[.pointer (some ⟨b,10,none⟩)] w fun e w'=>e = .returned (.tuple #[])∧w'=w:=by
 have u88:Tryz.prog.underlying 66=some (.pointer 69):=by kernel_rfl
 obtain⟨j,hj,hjs⟩:=Option.map_eq_some_iff.1 (show(Tryz.prog.info? 69).map (·.size)=some 2 by kernel_rfl)
 go_enter Tryz.func75,Tryz.ntmps75
 go_wp2
 rw[Lib.run_neq_ptr_same w _ u88 hj]
 go_wp2
 go_end0
 exact⟨rfl,rfl⟩
set_option maxHeartbeats 1000000 in
set_option maxRecDepth 100000 in
theorem Tryz.copyCheckW_fresh (b:Nat) (w:World) (h0:w.cell? ⟨b,10,none⟩=some (.pointer none)) (hsh:w.shape? b=some (97,12)) (hfz:w.frozen? ⟨b,10,none⟩=false) :
  Calls Tryz.prog 75 #[.pointer (some ⟨b,10,none⟩)] w fun e w'=>e = .returned (.tuple #[])∧w'=w.setCell ⟨b,10,none⟩ (.pointer (some ⟨b,10,none⟩)):=by
 have u88:Tryz.prog.underlying 66=some (.pointer 69):=by kernel_rfl
 have u142:Tryz.prog.underlying 166=some .unsafePointer:=by kernel_rfl
 obtain⟨j,hj,hjs⟩:=Option.map_eq_some_iff.1 (show(Tryz.prog.info? 69).map (·.size)=some 2 by kernel_rfl)
 go_enter Tryz.func75,Tryz.ntmps75
 go_wp2
 rw[Lib.run_to_unsafe w ⟨b,10,none⟩ u88 u142 hj (by rw[hjs];decide) hsh (show 10<12 by decide)]
 simp only[Result.andThen]
 rw[Oper.upon_value]
 go_wp2
 rw[run_callFunc_extern Tryz.func116 (by kernel_rfl) (by kernel_rfl) (by kernel_rfl) (e:=Extern.AbiNoEscape.same) (by kernel_rfl)]
 rw[Lib.run_noEscape]
 simp only[Result.andThen]
 rw[Oper.upon_value]
 go_wp2
 rw[Lib.run_from_unsafe w ⟨b,10,none⟩ u142 u88 hj hsh (by kernel_rfl)]
 simp only[Result.andThen]
 rw[Oper.upon_value]
 go_wp2
 go_end0
 exact⟨rfl,rfl⟩
end Go.Proofs
namespace Go.Ab
open Go Go.Lib Go.RowKit Go.Shelf Go.Proofs
section
variable {P:Program} {ρ:Ren} {G:Nat→Option (List AV)}
set_option maxHeartbeats 1000000 in
set_option maxRecDepth 100000 in
theorem Bld.string_rowW (L:Lays.n169 P ρ) (X:Builder.Extra P ρ) (b g cap:Nat) (cur:Array Value) (l:List UInt8) (w:World) (h0:l≠[]) (hbk:w.cell? ⟨b,11,none⟩=some (.slice (some ⟨g,0,none⟩) l.length cap))
  (hg:w.heap[g]?=some (.cells cur (ρ.t 5) (0,0))) (hnc:l.length≤cap) (hcm:cap≤maxLen) (hcs:cur.size=cap*1) (htake:cur.toList.take (l.length*1)=Lib.byteCells l) :
  Calls P (ρ.f 169) #[.pointer (some ⟨b,10,none⟩)] w fun e w'=>e = .returned (.string ⟨l.toArray⟩)∧w'=w.drew.freeze ⟨g,0,none⟩ l.length:=by
 have hl0:l.length≠0:=by simpa using h0
 have hown:w.ownsRow 0 (ρ.t 5) 1 (.slice (some ⟨g,0,none⟩) l.length cap) l.length (Lib.byteCells l):=⟨by simp[Lib.byteCells],.inr ⟨g,cap,cur,rfl,Nat.zero_le _,hg,hnc,hcm,hcs,htake⟩⟩
 have c1:w.drew.cell? ⟨b,11,none⟩=some (.slice (some ⟨g,0,none⟩) l.length cap):=hbk
 have hSD:(Builtin.unsafeSliceData_ #[(ρ.t 37)] (ρ.t 127) #[.slice (some ⟨g,0,none⟩) l.length cap]).run P w.drew = .ok (.pointer (some ⟨g,0,none⟩)) w.drew:=
  Lib.run_unsafeSliceData_row _ _ _ _ _ _ (by omega)
 have hUS:(Builtin.unsafeString_ #[(ρ.t 127),(ρ.t 3)] (ρ.t 9) #[.pointer (some ⟨g,0,none⟩),.int .i64 l.length]).run P w.drew = .ok (.string ⟨l.toArray⟩) (w.drew.freeze ⟨g,0,none⟩ l.length):=by
  refine Lib.run_unsafeString_row w.drew (ρ.t 127) (ρ.t 3) (ρ.t 9) (ρ.t 5) L.t127 X.cellsByte g cur.size (by have hg':w.drew.heap[g]?=some (.cells cur (ρ.t 5) (0,0)):=hg;simp[World.shape?,hg']) l h0 (by omega) (by unfold maxLen at hcm;omega) ?_
  intro j x hx
  have:=hown.cells (g:=g) rfl j (.int .u8 x.toNat) (by simp[Lib.byteCells,hx])
  exact this
 have mixed:=L.mixed
 have t72:=L.t72;have a72:=L.a72;have z72:=L.z72;have v72:=L.v72;have u72:=run_underlying L.t72
 have t70:=L.t70;have a70:=L.a70;have z70:=L.z70;have v70:=L.v70;have u70:=run_underlying L.t70
 have t37:=L.t37;have a37:=L.a37;have z37:=L.z37;have v37:=L.v37;have u37:=run_underlying L.t37
 have t127:=L.t127;have a127:=L.a127;have z127:=L.z127;have v127:=L.v127;have u127:=run_underlying L.t127
 have t3:=L.t3;have a3:=L.a3;have z3:=L.z3;have v3:=L.v3;have u3:=run_underlying L.t3
 have t9:=L.t9;have a9:=L.a9;have z9:=L.z9;have v9:=L.v9;have u9:=run_underlying L.t9
 have t5:=X.t5;have a5:=X.a5;have z5:=X.z5;have v5:=X.v5;have u5:=run_underlying X.t5
 clear hown htake hcs
 go_enter L.f169,Body.n169_ntmps ρ
 go_wp2
 go_region_o
 all_goals (go_wp2;go_ret;exact⟨rfl,rfl⟩)
set_option maxHeartbeats 2000000 in
set_option maxRecDepth 100000 in
theorem Bld.string_nilW (L:Lays.n169 P ρ) (X:Builder.Extra P ρ) (B b:Nat) (w:World) (hb:w.cell? ⟨b,11,none⟩=some (.slice none 0 0)) :
  Calls P (ρ.f 169) #[.pointer (some ⟨b,10,none⟩)] w fun e w'=>e = .returned (.string ⟨#[]⟩)∧Below B w w':=by
 have hUS:=Any.unsafeString_none L X
 have hd:w.drew.cell? ⟨b,11,none⟩=some (.slice none 0 0):=hb
 have hSD:(Builtin.unsafeSliceData_ #[(ρ.t 37)] (ρ.t 127) #[.slice none 0 0]).run P w.drew = .ok (.pointer none) w.drew:=rfl
 have mixed:=L.mixed
 have t72:=L.t72;have a72:=L.a72;have z72:=L.z72;have v72:=L.v72;have u72:=run_underlying L.t72
 have t70:=L.t70;have a70:=L.a70;have z70:=L.z70;have v70:=L.v70;have u70:=run_underlying L.t70
 have t37:=L.t37;have a37:=L.a37;have z37:=L.z37;have v37:=L.v37;have u37:=run_underlying L.t37
 have t127:=L.t127;have a127:=L.a127;have z127:=L.z127;have v127:=L.v127;have u127:=run_underlying L.t127
 have t3:=L.t3;have a3:=L.a3;have z3:=L.z3;have v3:=L.v3;have u3:=run_underlying L.t3
 have t9:=L.t9;have a9:=L.a9;have z9:=L.z9;have v9:=L.v9;have u9:=run_underlying L.t9
 have t5:=X.t5;have a5:=X.a5;have z5:=X.z5;have v5:=X.v5;have u5:=run_underlying X.t5
 go_enter L.f169,Body.n169_ntmps ρ
 go_wp2
 go_region_o
 all_goals (go_wp2;go_ret;exact⟨rfl,Below.drew (Below.refl B w)⟩)
set_option maxHeartbeats 2000000 in
set_option maxRecDepth 100000 in
theorem Bld.string_roomW (L:Lays.n169 P ρ) (X:Builder.Extra P ρ) (B b g cap:Nat) (w:World) (hc0:cap≠0) (hb:w.cell? ⟨b,11,none⟩=some (.slice (some ⟨g,0,none⟩) 0 cap)) :
  Calls P (ρ.f 169) #[.pointer (some ⟨b,10,none⟩)] w fun e w'=>e = .returned (.string ⟨#[]⟩)∧Below B w w':=by
 have hUS:=Any.unsafeString_none L X
 have hd:w.drew.cell? ⟨b,11,none⟩=some (.slice (some ⟨g,0,none⟩) 0 cap):=hb
 have hSD:(Builtin.unsafeSliceData_ #[(ρ.t 37)] (ρ.t 127) #[.slice (some ⟨g,0,none⟩) 0 cap]).run P w.drew = .ok (.pointer (some ⟨g,0,none⟩)) w.drew:=Lib.run_unsafeSliceData_row _ _ _ _ _ _ hc0
 clear hc0
 have mixed:=L.mixed
 have t72:=L.t72;have a72:=L.a72;have z72:=L.z72;have v72:=L.v72;have u72:=run_underlying L.t72
 have t70:=L.t70;have a70:=L.a70;have z70:=L.z70;have v70:=L.v70;have u70:=run_underlying L.t70
 have t37:=L.t37;have a37:=L.a37;have z37:=L.z37;have v37:=L.v37;have u37:=run_underlying L.t37
 have t127:=L.t127;have a127:=L.a127;have z127:=L.z127;have v127:=L.v127;have u127:=run_underlying L.t127
 have t3:=L.t3;have a3:=L.a3;have z3:=L.z3;have v3:=L.v3;have u3:=run_underlying L.t3
 have t9:=L.t9;have a9:=L.a9;have z9:=L.z9;have v9:=L.v9;have u9:=run_underlying L.t9
 have t5:=X.t5;have a5:=X.a5;have z5:=X.z5;have v5:=X.v5;have u5:=run_underlying X.t5
 go_enter L.f169,Body.n169_ntmps ρ
 go_wp2
 go_region_o
 all_goals (go_wp2;go_ret;exact⟨rfl,Below.drew (Below.refl B w)⟩)
set_option maxHeartbeats 2000000 in
set_option maxRecDepth 100000 in
theorem Bld.string_noroomW (L:Lays.n169 P ρ) (X:Builder.Extra P ρ) (B b g:Nat) (cur:Array Value) (w:World) (hBw:B≤w.heap.size) (hlt:b<w.heap.size) (hb:w.cell? ⟨b,11,none⟩=some (.slice (some ⟨g,0,none⟩) 0 0)) (hg:w.heap[g]?=some (.cells cur (ρ.t 5) (0,0))) :
  Calls P (ρ.f 169) #[.pointer (some ⟨b,10,none⟩)] w fun e w'=>e = .returned (.string ⟨#[]⟩)∧Below B w w':=by
 have hUS:=Any.unsafeString_none L X
 have hd:w.drew.cell? ⟨b,11,none⟩=some (.slice (some ⟨g,0,none⟩) 0 0):=hb
 have hSD:(Builtin.unsafeSliceData_ #[(ρ.t 37)] (ρ.t 127) #[.slice (some ⟨g,0,none⟩) 0 0]).run P w.drew = .ok (.pointer (some ⟨w.drew.heap.size,0,none⟩)) (w.drew.alloc (.view ⟨g,0,none⟩ (ρ.t 5))):=
  Lib.run_unsafeSliceData_zero w.drew _ _ (ρ.t 5) L.t127 ⟨g,0,none⟩ 0 ((ρ.t 5),cur.size) (by have hg':w.drew.heap[g]?=some (.cells cur (ρ.t 5) (0,0)):=hg;simp[World.shape?,hg'])
 have hd2:(w.drew.alloc (.view ⟨g,0,none⟩ (ρ.t 5))).cell? ⟨b,11,none⟩=some (.slice (some ⟨g,0,none⟩) 0 0):=by
  rw[←hb]
  simp only[World.cell?]
  rw[Lib.alloc_old w.drew _ b hlt]
  rfl
 have hd3:(w.alloc (.view ⟨g,0,none⟩ (ρ.t 5))).drew.cell? ⟨b,11,none⟩=some (.slice (some ⟨g,0,none⟩) 0 0):=hd2
 have mixed:=L.mixed
 have t72:=L.t72;have a72:=L.a72;have z72:=L.z72;have v72:=L.v72;have u72:=run_underlying L.t72
 have t70:=L.t70;have a70:=L.a70;have z70:=L.z70;have v70:=L.v70;have u70:=run_underlying L.t70
 have t37:=L.t37;have a37:=L.a37;have z37:=L.z37;have v37:=L.v37;have u37:=run_underlying L.t37
 have t127:=L.t127;have a127:=L.a127;have z127:=L.z127;have v127:=L.v127;have u127:=run_underlying L.t127
 have t3:=L.t3;have a3:=L.a3;have z3:=L.z3;have v3:=L.v3;have u3:=run_underlying L.t3
 have t9:=L.t9;have a9:=L.a9;have z9:=L.z9;have v9:=L.v9;have u9:=run_underlying L.t9
 have t5:=X.t5;have a5:=X.a5;have z5:=X.z5;have v5:=X.v5;have u5:=run_underlying X.t5
 go_enter L.f169,Body.n169_ntmps ρ
 go_wp2
 go_region_o
 all_goals (go_wp2;go_ret;exact⟨rfl,(Below.drew (Below.refl B w)).alloc hBw _⟩)
end
end Go.Ab
namespace Go.Ab
open Go Go.Lib Go.RowKit Go.Shelf Go.Proofs
structure WV where
 t:AV
 ch:AV
 ats:AV
 sw:AV
 vo:AV
 ra:AV
 ke:AV
 si:AV
def WV.obj (W:WV) (b0 v:AV):AObj := .cells 97 [W.t,W.ch,W.ats,W.sw,.nils,.bool false,W.vo,W.ra,W.ke,W.si,b0,v]
theorem one_ptrO {C:Ctx} {k off:Nat} {args:Array Value} (h:VRs C [.ptr k off] args.toList) {o:AObj} (hk:C.H.get k=some o) (ho:∀es,o ≠ .map es) :
  ∃c cap,C.μ k=some (c,cap)∧args=#[.pointer (some ⟨c,off,none⟩)]:=by
 obtain⟨l⟩:=args
 match l,h with
 | [],h=>have:=h.1;simp at this
 | _::_::_,h=>have:=h.1;simp at this
 | [y],h=>
  have h1:=h.2 0 _ y rfl rfl
  cases h1 with
  | ptr _ _ a ha=>
   obtain⟨_,_,ha⟩:=ha
   rw[hk]at ha
   cases o with
   | map es=>exact(ho es rfl).elim
   | held=>exact ha.elim
   | _=>obtain⟨c,cap,h1,h2⟩:=ha;exact⟨c,cap,h1,by rw[h2]⟩
theorem copyCheck_w {G:Nat→Option (List AV)} (H:AHeap) (k:Nat) (W:WV) (b0 b1:AV) (hk:H.get k=some (W.obj b0 b1)) (hb:b0 = .nilp∨b0 = .ptr k 10) :
  ACalls Tryz.prog G 75 [.ptr k 10] H fun r H'=>r = .ret (.tup [])∧H'=H.set k (W.obj (.ptr k 10) b1):=by
 intro C w args R hH hv
 subst hH
 obtain⟨c,cap,hm,rfl⟩:=one_ptrO hv hk (by simp[WV.obj])
 obtain⟨c',cap',arr,lo,hi,h1,⟨e',h2,h5⟩,h3,h4⟩:=(R.pres k _ hk).2.2
 rw[hm]at h1;cases h1
 obtain⟨rfl,hsz,_,_⟩:=h5 (by decide)
 have hsz:arr.size=12:=hsz
 obtain⟨y0,hy0,hv0⟩:=h3 10 b0 rfl
 have hc0:w.cell? ⟨c,10,none⟩=some y0:=by simp only[World.cell?,h2];simpa using hy0
 rcases hb with rfl | rfl
 ·cases hv0
  have hsh:w.shape? c=some (97,12):=by simp only[World.shape?,h2,hsz];rfl
  refine(Tryz.copyCheckW_fresh c w hc0 hsh (frozen_none h2 h4 (by omega))).mono ?_
  rintro e w' ⟨rfl,rfl⟩
  have hptr:VR C (.ptr k 10) (.pointer (some ⟨c,10,none⟩)) := .ptr k 10 _ ⟨(R.pres k _ hk).1,rfl,by rw[hk];exact⟨c,cap,hm,rfl⟩⟩
  obtain⟨_,R',A'⟩:=store_one (P:=Tryz.prog) R (off:=10) (cs:=[W.t,W.ch,W.ats,W.sw,.nils,.bool false,W.vo,W.ra,W.ke,W.si,.nilp,b1]) (.cells 97) (.inl ⟨_,rfl⟩) hk rfl hm (by simp) hptr rfl
  exact⟨.ret (.tup []),_,⟨rfl,rfl⟩,.tup [] _ rfl (fun i x y hx=>by simp at hx),R',A'⟩
 ·refine(Tryz.copyCheckW_used c w ?_).mono ?_
  ·rw[hc0]
   cases hv0 with
   | ptr _ _ a ha=>
    obtain⟨_,_,ha⟩:=ha
    rw[hk]at ha
    obtain⟨c2,cap2,h1,h2⟩:=ha
    rw[hm]at h1;cases h1
    rw[h2]
  ·rintro e w' ⟨rfl,rfl⟩
   exact⟨.ret (.tup []),C,⟨rfl,(AHeap.set_same hk).symm⟩,.tup [] _ rfl (fun i x y hx=>by simp at hx),R,Adv.refl C _⟩
theorem string_w {G:Nat→Option (List AV)} {H:AHeap} {k j:Nat} {W:WV} {b0:AV} {l:List UInt8} (hk:H.get k=some (W.obj b0 (.slc j l.length))) (hj:H.get j=some (.row 5 1 (l.map fun b => .int .u8 b.toNat))) :
  ACalls Tryz.prog G 39 [.ptr k 10] H fun r H'=>r = .ret (.str l)∧H'.next=H.next∧H'.get=(H.del j).get:=by
 intro C w args R hH hv
 subst hH
 obtain⟨c,cap,hm,rfl⟩:=one_ptrO hv hk (by simp[WV.obj])
 obtain⟨c',cap',arr,lo,hi,h1,⟨e',h2,h5⟩,h3,h4⟩:=(R.pres k _ hk).2.2
 rw[hm]at h1;cases h1
 obtain⟨y1,hy1,hv1⟩:=h3 11 _ rfl
 have hcell:w.cell? ⟨c,11,none⟩=some y1:=by simp only[World.cell?,h2];simpa using hy1
 have hclt:c<w.heap.size:=(Array.getElem?_eq_some_iff.1 h2).1
 obtain⟨_,_,n,v0,ys,hown,hys,hv'⟩:=R.pres j _ hj
 have hyb:=byteCells_of hys
 subst hyb
 have hn:n=l.length:=by have:=hown.1;simp[Lib.byteCells]at this;exact this.symm
 subst hn
 have hdel:∀i,(C.H.del j).get i=none∨(C.H.del j).get i=C.H.get i:=fun i=>by
  by_cases hij:i=j
  ·subst hij;exact .inl (by simp[AHeap.get_del])
  ·exact .inr (AHeap.get_del_ne _ hij)
 obtain⟨Rd,Ad⟩:=R.drop (C.H.del j) (by simp) (fun _ _ _=>rfl) hdel
 have fin:∀w',Below w.heap.size w w'→∃r C',(r = .ret (.str l)∧C'.H.next=C.H.next∧C'.H.get=(C.H.del j).get)∧ResRel C' r (.returned (.string ⟨l.toArray⟩))∧Rel G C' w'∧Adv C w C' w':=fun w' B=>
  ⟨.ret (.str l),_,⟨rfl,by simp,rfl⟩,.str l,Rd.below B,Ad.trans (Adv.below B)⟩
 have hval:y1=v0:=by
  cases hv1 with
  | slc _ _ a cap0 h=>
   obtain⟨_,_,h⟩:=h
   rw[hj]at h
   obtain⟨_,h⟩:=h
   cases hmj:C.μ j with
   | none=>
    simp only[hmj]at h hv'
    rw[hv',h.2]
   | some p=>
    obtain⟨g,cg⟩:=p
    simp only[hmj]at h hv'
    rw[hv',h]
 subst hval
 by_cases h0:l=[]
 ·subst h0
  rcases hown.2 with ⟨rfl,_⟩ | ⟨g,cg,cur,rfl,_,hg,_,_,_,_⟩
  ·refine(Bld.string_nilW Tryz.lays169 Tryz.Builder_Extra_169 w.heap.size c w hcell).mono ?_
   rintro e w' ⟨rfl,B⟩
   exact fin w' B
  ·by_cases hc0:cg=0
   ·subst hc0
    refine(Bld.string_noroomW Tryz.lays169 Tryz.Builder_Extra_169 w.heap.size c g cur w (Nat.le_refl _) hclt hcell hg).mono ?_
    rintro e w' ⟨rfl,B⟩
    exact fin w' B
   ·refine(Bld.string_roomW Tryz.lays169 Tryz.Builder_Extra_169 w.heap.size c g cg w hc0 hcell).mono ?_
    rintro e w' ⟨rfl,B⟩
    exact fin w' B
 ·have hl0:l.length≠0:=by simpa using h0
  rcases hown.2 with ⟨_,hz⟩ | ⟨g,cg,cur,rfl,_,hg,hnc,hcm,hcs,htake⟩
  ·exact absurd hz hl0
  ·refine(Bld.string_rowW Tryz.lays169 Tryz.Builder_Extra_169 c g cg cur l w h0 hcell hg hnc hcm hcs htake).mono ?_
   rintro e w' ⟨rfl,rfl⟩
   have hmj:C.μ j=some (g,cg):=by
    cases hmj:C.μ j with
    | none=>simp only[hmj]at hv';cases hv'
    | some p=>
     obtain⟨g',cg'⟩:=p
     simp only[hmj]at hv'
     cases hv'
     rfl
   have hkeep:∀b,b≠g→(w.drew.freeze ⟨g,0,none⟩ l.length).heap[b]?=w.heap[b]?:=by
    intro b hb
    simp only[World.freeze,hl0,if_false,Array.getElem?_modify]
    have:¬g=b:=fun e=>hb e.symm
    simp[this]
    rfl
   have hnown:∀b,Ctx.owns { C with H:=C.H.del j } b→b≠g:=by
    rintro b ⟨i,oi,cap',hi,hmi⟩ rfl
    have hi':(C.H.del j).get i=some oi:=hi
    have hij:i≠j:=fun e=>by subst e;simp[AHeap.get_del]at hi'
    rw[AHeap.get_del_ne _ hij]at hi'
    exact hij (R.inj i j oi _ b cap' cg hi' hj hmi hmj)
   have hgo:C.owns g:=⟨j,_,cg,hj,hmj⟩
   have A:Adv C w { C with H:=C.H.del j } (w.drew.freeze ⟨g,0,none⟩ l.length):=by
    refine⟨Ad.next,Ad.sig,Ad.imm,Ad.own,Ad.immNew,fun b hb hbo=>?_,?_,?_,?_,?_⟩
    ·exact hkeep b fun e=>by subst e;exact hbo hgo
    ·simp only[World.freeze,hl0,if_false,Array.size_modify];exact Nat.le_refl _
    ·simp only[World.freeze,hl0,if_false];rfl
    ·simp only[World.freeze,hl0,if_false];rfl
    ·simp only[World.freeze,hl0,if_false];rfl
   refine⟨.ret (.str l),{ C with H:=C.H.del j },⟨rfl,by simp,rfl⟩,.str l,⟨fun i oi hi=>?_,Rd.inj,fun b a hb=>?_,fun g cs hg=>?_⟩,A⟩
   ·obtain⟨p1,p2,_⟩:=Rd.pres i oi hi
    have hi':(C.H.del j).get i=some oi:=hi
    have hij:i≠j:=fun e=>by subst e;simp[AHeap.get_del]at hi'
    rw[AHeap.get_del_ne _ hij]at hi'
    exact⟨p1,p2,(R.pres i oi hi').2.2.keep A rfl fun b cap' hmb=>hkeep b (hnown b ⟨i,oi,cap',hi,hmb⟩)⟩
   ·obtain⟨p1,p2⟩:=Rd.imm b a hb
    refine⟨p1,?_⟩
    rw[hkeep b fun e=>by subst e;exact(R.imm b a hb).1 hgo]
    exact p2
   ·obtain⟨a,ha,hv⟩:=Rd.glob g cs hg
    exact⟨a,ha,hv.mono (Adv.refl _ w)⟩
end Go.Ab
