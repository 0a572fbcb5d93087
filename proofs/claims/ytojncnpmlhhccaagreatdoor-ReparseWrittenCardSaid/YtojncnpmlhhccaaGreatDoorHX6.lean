/- The start, with a tree among the arguments. -/
import Derived.Test.YtojncnpmlhhccaaGreatDoorHXT
import Derived.Test.YtojncnpmlhhccaaGreatDoorCK
import Derived.Deep.Slices
import Derived.Deep.Fields
import Derived.ChangeSame
import Derived.Carry
set_option linter.all false
namespace Go.Ab
open Go Go.Lib Go.Proofs Go.RowKit Go.ChangeShapes Go.WideShapes
theorem VR.moreI {C:Ctx} {I':Nat→Option (List Value)} (hI:∀c a,C.I c=some a→I' c=some a) {x:AV} {v:Value} (h:VR C x v):VR { C with I:=I' } x v:=by
 induction h with
 | und v=>exact .und v
 | any v h=>exact .any v h
 | bool b=>exact .bool b
 | int k n=>exact .int k n
 | flt k b=>exact .flt k b
 | str s=>exact .str s
 | nilp=>exact .nilp
 | anyp p=>exact .anyp p
 | ptr k off a' h=>exact .ptr k off a' h
 | gptr g off=>exact .gptr g off
 | nils=>exact .nils
 | slc k len a cap h=>exact .slc k len a cap h
 | lst len cells c off cap arr f hI' hl h1 h2 ih=>exact .lst len cells c off cap arr f (hI _ _ hI') hl h1 ih
 | lstNil=>exact .lstNil
 | lptr cells off c base arr f hI' h1 h2 ih=>exact .lptr cells off c base arr f (hI _ _ hI') h1 ih
 | nilm=>exact .nilm
 | map k r h=>exact .map k r h
 | nilf=>exact .nilf
 | func f caps vs hl h ih=>exact .func f caps vs hl ih
 | bfunc f bound caps bs vs hb h0 hl h ih0 ih=>exact .bfunc f bound caps bs vs hb ih0 hl ih
 | yld k l h=>exact .yld k l h
 | nili=>exact .nili
 | iface t x y h ih=>exact .iface t x y ih
 | agg cells vs hl h ih=>exact .agg cells vs hl ih
 | tup cells vs hl h ih=>exact .tup cells vs hl ih
theorem VRs.moreI {C:Ctx} {I':Nat→Option (List Value)} (hI:∀c a,C.I c=some a→I' c=some a) {xs:List AV} {vs:List Value} (h:VRs C xs vs):VRs { C with I:=I' } xs vs:=
 ⟨h.1,fun i x y hx hy=>VR.moreI hI (h.2 i x y hx hy)⟩
def startC3 (W:World):Ctx:=⟨startH,fun _=>none,cellsAt W⟩
theorem startI2_cells {W:World} {g:Nat} {a:List Value} (h:startI2 W g=some a):cellsAt W g=some a:=by
 unfold startI2 at h
 split at h
 ·exact h
 ·cases h
theorem start_rel3 {W:World} (h:laidMet Tryz.prog laidAll W):Rel (startG2 W) (startC3 W) W:={
 pres:=fun k o hk=>by cases hk
 inj:=fun k1 k2 o1 o2 c c1 c2 h=>by cases h
 imm:=fun c a hc=>⟨(fun h=>by obtain⟨k,o,cap,hk,_⟩:=h;cases hk),cellsAt_eq hc⟩
 glob:=fun g cs hg=>by
  obtain⟨a,ha,hv⟩:=(start_rel2 h).glob g cs hg
  exact⟨a,startI2_cells ha,VRs.moreI (C:=startC2 W) (I':=cellsAt W) (fun c a hc=>startI2_cells hc) hv⟩ }
theorem law_calls3 {f:FuncId} {W:World} (hL:laidMet Tryz.prog laidAll W) {vs:List AV} {args:Array Value} (hv:VRs (startC3 W) vs args.toList) (h:∀H,ACalls Tryz.prog (startG2 W) f vs H fun r H'=>r = .ret (.bool true)∧Kept H H') :
  Calls Tryz.prog f args W fun e W'=>e = .returned (.bool true)∧Below W.heap.size W W':=by
 refine(h startH (startC3 W) W args (start_rel3 hL) rfl hv).mono ?_
 rintro e W' ⟨r,C',⟨rfl,_⟩,hr,R',A'⟩
 refine⟨?_,A'.os,A'.tape,A'.output,A'.size,fun k hk=>A'.frame k hk fun ho=>?_⟩
 ·cases e with
  | returned y=>have:VR C' (.bool true) y:=hr;cases this;rfl
  | _=>exact hr.elim
 ·obtain⟨k,o,cap,hk,_⟩:=ho
  cases hk
def NodeAt (W:World) (a:Addr) (i:Nat) (x:RN):Prop:=
 W.cell? (a.add (i*4))=some (.int .i64 x.kind)∧W.cell? (a.add (i*4+1))=some (.string ⟨x.name.toArray⟩)∧W.cell? (a.add (i*4+2))=some (.string ⟨x.text.toArray⟩)∧W.cell? (a.add (i*4+3))=some (.int .i64 x.up)
theorem list_of {Q:Nat→RN→Prop}:∀(n:Nat),(∀i,i<n→∃x,Q i x)→∃L:List RN,L.length=n∧∀(i:Nat) (h:i<L.length),Q i L[i]
 | 0,_=>⟨[],rfl,fun i h=>absurd h (by simp)⟩
 | n+1,h=>by
  obtain⟨L,hl,hq⟩:=list_of n fun i hi=>h i (by omega)
  obtain⟨x,hx⟩:=h n (by omega)
  refine⟨L++[x],by simp[hl],fun i hi=>?_⟩
  by_cases hin:i<L.length
  ·rw[List.getElem_append_left hin];exact hq i hin
  ·have:i=n:=by simp only[List.length_append,List.length_cons,List.length_nil]at hi;omega
   subst this
   rw[List.getElem_append_right (by omega)]
   simp only[hl,Nat.sub_self,List.getElem_cons_zero]
   exact hx
set_option maxRecDepth 100000 in
theorem open_node {H:Type} {enc:TypeId × Value→H} {W:World} {base n:Nat} {sp:Nat→Bool} {held:Bool} {a:Addr} {i:Nat} {y:DataW H × List MemPlace}
  (h:(W.cells? base (a.add (i*4)) 4).bind (DataW.trod enc Tryz.prog W base sp held n 36)=some y):∃x,NodeAt W a i x∧y.1 = .agg [.lit (.int .i64 x.kind),.lit (.string x.name),.lit (.string x.text),.lit (.int .i64 x.up)]:=by
 obtain⟨cs,hc,ht⟩:=Option.bind_eq_some_iff.1 h
 obtain⟨ys,n',hn',hy,hlen,hyl,hf⟩:=DataW.trod_struct Tryz.underlying36 ht
 obtain⟨_,hcl,hat⟩:=World.cells?_some hc
 match cs,hcl with
 | [c0,c1,c2,c3],_=>
  have f0:=hf 0 _ rfl
  have f1:=hf 1 _ rfl
  have f2:=hf 2 _ rfl
  have f3:=hf 3 _ rfl
  obtain⟨a0,a1,a2,a3,rfl⟩:∃a0 a1 a2 a3,ys=[a0,a1,a2,a3]:=by
   have hl4:ys.length=4:=hyl
   match ys,hl4 with
   | [a0,a1,a2,a3],_=>exact⟨a0,a1,a2,a3,rfl⟩
  simp only[List.getElem?_cons_zero,List.getElem?_cons_succ]at f0 f1 f2 f3
  obtain⟨k,e0,z0,_⟩:=DataW.trod_int Tryz.underlying3 f0
  obtain⟨s1,e1,z1,_⟩:=DataW.trod_string Tryz.underlying9 f1
  obtain⟨s2,e2,z2,_⟩:=DataW.trod_string Tryz.underlying9 f2
  obtain⟨u,e3,z3,_⟩:=DataW.trod_int Tryz.underlying3 f3
  have ti:Tryz.prog.cellsOf 3=1:=by kernel_rfl
  have ts:Tryz.prog.cellsOf 9=1:=by kernel_rfl
  have e0:(([c0,c1,c2,c3].drop 0).take (Tryz.prog.cellsOf 3))=[Value.int .i64 k]:=e0
  have e1:(([c0,c1,c2,c3].drop 1).take (Tryz.prog.cellsOf 9))=[Value.string s1]:=e1
  have e2:(([c0,c1,c2,c3].drop 2).take (Tryz.prog.cellsOf 9))=[Value.string s2]:=e2
  have e3:(([c0,c1,c2,c3].drop 3).take (Tryz.prog.cellsOf 3))=[Value.int .i64 u]:=e3
  rw[ti]at e0 e3
  rw[ts]at e1 e2
  have g0:c0 = .int .i64 k:=by simpa using e0
  have g1:c1 = .string s1:=by simpa using e1
  have g2:c2 = .string s2:=by simpa using e2
  have g3:c3 = .int .i64 u:=by simpa using e3
  subst g0;subst g1;subst g2;subst g3
  have h0:=hat 0 (by omega)
  have h1:=hat 1 (by omega)
  have h2:=hat 2 (by omega)
  have h3:=hat 3 (by omega)
  simp only[Go.Deep.add_add,Nat.add_zero,List.getElem?_cons_zero,List.getElem?_cons_succ]at h0 h1 h2 h3
  refine⟨⟨k,s1.data.toList,s2.data.toList,u⟩,⟨h0,by simpa using h1,by simpa using h2,h3⟩,?_⟩
  rw[hy,z0,z1,z2,z3]
  rfl
theorem tree_vr {W:World} {c off cap:Nat} {L:List RN} {l:List Value} (hc:cellsAt W c=some l) (hl:L.length≤cap) (h:∀(i:Nat) (hi:i<L.length),NodeAt W ⟨c,off,none⟩ i L[i]) :
  VR (startC3 W) (.agg [.lst L.length (rnsH L)]) (.agg #[.slice (some ⟨c,off,none⟩) L.length cap]):=by
 have hv:VR (startC3 W) (.lst L.length (rnsH L)) (.slice (some ⟨c,off,none⟩) L.length cap):=by
  have at_:∀k v,W.cell? (Addr.add ⟨c,off,none⟩ k)=some v→l[off+k]?=some v:=fun k v hk=>by
   have e:Addr.add ⟨c,off,none⟩ k=⟨c,off+k,none⟩:=by
    unfold Addr.add
    split
    ·rename_i h0;subst h0;rfl
    ·rfl
   rw[e]at hk
   obtain⟨l',h1,h2⟩:=cellsAt_cell (W:=W) (c:=c) (i:=off+k) (v:=v) hk
   rw[hc]at h1
   cases h1
   exact h2
  have key:∀(i:Nat) (x:AV),(rnsH L)[i]?=some x→∃v,l[off+i]?=some v∧VR (startC3 W) x v:=by
   intro i x hx
   have hlen:=rnsH_len L
   have hi:i<L.length*4:=by rw[←hlen];exact(List.getElem?_eq_some_iff.1 hx).1
   obtain⟨q,r,rfl,hr⟩:∃q r,i=q*4+r∧r<4:=⟨i / 4,i % 4,by omega,by omega⟩
   have hq:q<L.length:=by omega
   have hrow:=rnsH_at L q hq
   have hx':(rnH L[q])[r]?=some x:=by rw[←hrow,List.getElem?_take,if_pos hr,List.getElem?_drop];exact hx
   obtain⟨a0,a1,a2,a3⟩:=h q hq
   match r,hr,hx' with
   | 0,_,hx'=>simp[rnH]at hx';subst hx';exact⟨_,at_ _ _ a0,.int _ _⟩
   | 1,_,hx'=>simp[rnH]at hx';subst hx';exact⟨_,at_ _ _ a1,.str _⟩
   | 2,_,hx'=>simp[rnH]at hx';subst hx';exact⟨_,at_ _ _ a2,.str _⟩
   | 3,_,hx'=>simp[rnH]at hx';subst hx';exact⟨_,at_ _ _ a3,.int _ _⟩
  refine .lst _ _ c off cap l (fun i=>l.getD (off+i) undef) hc hl (fun i x hx=>?_) (fun i x hx=>?_)
  ·obtain⟨v,hv,_⟩:=key i x hx
   rw[List.getD_eq_getElem?_getD,hv];rfl
  ·obtain⟨v,hv,hr⟩:=key i x hx
   rw[List.getD_eq_getElem?_getD,hv];exact hr
 refine .agg _ _ rfl fun i x y hx hy=>?_
 match i,hx,hy with
 | 0,hx,hy=>simp at hx hy;subst hx;subst hy;exact hv
theorem list_of2 {H':Type} {Q:Nat→RN→Prop} {F:RN→DataW H'} {el:List (DataW H')} (hel:∀(i:Nat) (h:i<el.length),∃x,Q i x∧el[i]=F x):∃L:List RN,L.length=el.length∧(∀(i:Nat) (h:i<L.length),Q i L[i])∧el=L.map F:=by
 obtain⟨L,hl,hq⟩:=list_of (Q:=fun i x=>Q i x∧∀h:i<el.length,el[i]=F x) el.length fun i hi=>by
  obtain⟨x,h1,h2⟩:=hel i hi
  exact⟨x,h1,fun _=>h2⟩
 refine⟨L,hl,fun i h=>(hq i h).1,?_⟩
 apply List.ext_getElem
 ·rw[List.length_map,hl]
 ·intro i h1 h2
  rw[List.getElem_map]
  exact(hq i (by omega)).2 h1
def nodeD {H:Type} (x:RN):DataW H := .agg [.lit (.int .i64 x.kind),.lit (.string x.name),.lit (.string x.text),.lit (.int .i64 x.up)]
set_option maxRecDepth 100000 in
theorem weights_node {H:Type} (x:RN) {B:Nat} (h:((nodeD (H:=H) x).weights Tryz.prog 36).all (·≤B)=true):x.name.length≤B∧x.text.length≤B:=by
 unfold nodeD at h
 rw[DataW.weights,Tryz.underlying36]at h
 simp[DataW.weightsEach,DataW.weights]at h
 exact h
set_option maxRecDepth 100000 in
theorem weights_nodes {H:Type} {B:Nat}:∀(L:List RN),(DataW.weightsAll (H:=H) Tryz.prog 36 (L.map nodeD)).all (·≤B)=true→∀x∈L,x.name.length≤B∧x.text.length≤B
 | [],_,x,hx=>by cases hx
 | y::L,h,x,hx=>by
  rw[List.map_cons,DataW.weightsAll,List.all_append,Bool.and_eq_true]at h
  rcases List.mem_cons.1 hx with rfl | hx
  ·exact weights_node x h.1
  ·exact weights_nodes L h.2 x hx
set_option maxRecDepth 100000 in
theorem open_tree {H:Type} {enc:TypeId × Value→H} {W:World} {b0 base:Nat} {sp:Nat→Bool} {held:Bool} {v:Value} {d:DataW H} {ps:List MemPlace} (hval:Value.okWide Tryz.prog W .any b0 25 v) (h:DataW.Trod enc Tryz.prog W base sp held 25 v d ps) :
  ∃L:List RN,VR (startC3 W) (.agg [.lst L.length (rnsH L)]) v∧∀B,(d.weights Tryz.prog 25).all (·≤B)=true→L.length≤B∧∀x∈L,x.name.length≤B∧x.text.length≤B:=by
 have hs:Tryz.prog.underlying 25=some (.struct _):=Tryz.underlying25
 have hw:=hval
 unfold Value.okWide at hw
 rw[hs]at hw
 obtain⟨cs,rfl,hsz,ts,hts,_,hcell⟩:=hw
 have ht1:Tryz.prog.cellTypes Tryz.prog.depth 25=some [23]:=by kernel_rfl
 obtain rfl:=Option.some.inj (ht1.symm.trans hts)
 have hc1:Tryz.prog.cellsOf 25=1:=by kernel_rfl
 rw[hc1]at hsz
 obtain⟨sv,rfl⟩:∃sv,cs=#[sv]:=⟨cs[0],by
  apply Array.ext
  ·simpa using hsz
  ·intro i h1 h2
   have:i=0:=by omega
   subst this;rfl⟩
 obtain⟨u,hu,hok⟩:=hcell 0 sv rfl
 simp at hu
 subst hu
 obtain⟨fuel,hf⟩:=h
 obtain⟨ys,n',hn',hy,hlen,hyl,hfs⟩:=DataW.trod_struct hs hf
 have f0:=hfs 0 _ rfl
 obtain⟨z,rfl⟩:∃z,ys=[z]:=by
  have hl1:ys.length=1:=hyl
  match ys,hl1 with
  | [z],_=>exact⟨z,rfl⟩
 simp only[List.getElem?_cons_zero]at f0
 have tn:Tryz.prog.cellsOf 23=1:=by kernel_rfl
 have f0:DataW.trod enc Tryz.prog W base sp held n' 23 ((([sv]:List Value).drop 0).take (Tryz.prog.cellsOf 23))=some z:=f0
 rw[tn]at f0
 have hNode:Tryz.prog.cellsOf 36=4:=by kernel_rfl
 rcases DataW.trod_slice Tryz.underlying23 f0 with ⟨e,_⟩ | ⟨a,len,cap,el,rs,m,_,e,hx,_,hlc,hcap,hel,hat,_⟩
 ·have e:sv = .slice none 0 0:=by simpa using e
  subst e
  refine⟨[],.agg _ _ rfl fun i x y hx hy=>?_,fun B _=>⟨by simp,fun x hx=>by cases hx⟩⟩
  match i,hx,hy with
  | 0,hx,hy=>simp at hx hy;subst hx;subst hy;exact .lstNil
 ·have e:sv = .slice (some a) len cap:=by simpa using e
  subst e
  have hok2:W.has Tryz.prog .any b0 a 36 cap:=by
   unfold Cell.okWide at hok
   rw[Tryz.underlying23]at hok
   unfold Cell.ok at hok
   rw[Tryz.underlying23]at hok
   exact hok.2.2
  obtain⟨_,hspot,row,cells,hshape,_⟩:=hok2
  obtain⟨L,hL,hq,hLd⟩:=list_of2 (Q:=NodeAt W a) (F:=nodeD) (el:=el.map (·.1)) fun i hi=>by
   rw[List.length_map]at hi
   have:=hat i (by omega)
   rw[hNode,List.getElem?_eq_getElem hi]at this
   obtain⟨x,h1,h2⟩:=open_node this
   exact⟨x,h1,by rw[List.getElem_map];exact h2⟩
  rw[List.length_map,hel]at hL
  obtain⟨c,off,spot⟩:=a
  simp only at hspot
  subst hspot
  subst hL
  obtain⟨l,hl⟩:∃l,cellsAt W c=some l:=by
   unfold World.shape? at hshape
   unfold cellsAt
   split at hshape
   ·rename_i arr e fz h1
    rw[h1]
    exact⟨_,rfl⟩
   ·cases hshape
  refine⟨L,tree_vr hl hlc hq,fun B hB=>?_⟩
  have hd:d = .agg [.slice (L.map nodeD) (rs.map Prod.fst)]:=by
   have hy1:d = .agg [z.1]:=by simpa using congrArg Prod.fst hy
   rw[hy1,hx,←hLd]
  rw[hd,DataW.weights,hs]at hB
  have hB2:((DataW.slice (L.map nodeD) (rs.map Prod.fst)).weights Tryz.prog 23++[]).all (·≤B)=true:=hB
  rw[List.append_nil,DataW.weights,Tryz.underlying23]at hB2
  simp only[List.all_cons,List.all_append,Bool.and_eq_true,decide_eq_true_eq]at hB2
  have hby:Tryz.prog.bytesOf 36=48:=by kernel_rfl
  rw[hby,List.length_map]at hB2
  exact⟨by omega,weights_nodes L hB2.2.1⟩
end Go.Ab
