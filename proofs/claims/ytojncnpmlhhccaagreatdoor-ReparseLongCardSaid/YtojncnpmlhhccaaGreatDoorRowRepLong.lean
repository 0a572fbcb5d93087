/- ReparseLong: a text of more than MaxText bytes and a document of more than MaxNodes nodes are errors of length, shorter ones are read, and elements in one another are read as Build answers for their events. Conditions: those that the given row states. -/
import Derived.Test.YtojncnpmlhhccaaGreatDoorHT14
import Derived.Test.YtojncnpmlhhccaaGreatDoorHX1
import Derived.Test.YtojncnpmlhhccaaGreatDoorCards
set_option linter.all false
namespace Go.Proofs.YtojncnpmlhhccaaGreatDoor
open Go Go.Ab Go.ChangeShapes Go.WideShapes Go.ChangeAt Go.RowKit
open Go.ChangeMaps (open_string shut_string)
set_option maxRecDepth 100000 in
theorem replong_lifted (os:Os) (started:os.Started) (H:Type) (enc:TypeId × Value→H) :
  ReturnsInHanded {} Tryz.checked os 5 .any (fun w args=>(Rows.reparseLongSpec.pre enc Tryz.prog Tryz.f5 Rows.reparseLongRow.domain false w args∧laidMetH Tryz.prog Rows.reparseLongRow.laid w)∧sizedMet enc Tryz.prog Tryz.f5 (OpenSpec.ofChange Rows.reparseLongSpec) false w args)
   (Rows.reparseLongSpec.post enc Tryz.prog Tryz.f5 false true false false):=by
 refine returns_and_shaped (C:=Tryz.checked) (X:=fun w _=>laidMetH Tryz.prog laidAll w) (fun _ _ _ hh h=>laid_heap hh h) own started (by kernel_rfl) Tryz.func5
  (ChangeSpec.witness_shaped (enc:=enc) (C:=Tryz.checked) (os:=os) (X:=fun w _=>laidMetH Tryz.prog laidAll w) false (W0 os) #[.int .u8 0,.int .u8 0] 8 (World.laidAll_os _ _ _)
   (W0_shaped os _) (by kernel_rfl) (by kernel_rfl) (by kernel_rfl) (W0_met os _)) ?_
 intro W base args ds gs before hval0 hW hL hsh
 have hval:∀(j:Nat) t v,Tryz.f5.params[j]?=some t→args[j]?=some v→Value.okWide Tryz.prog W .any base t v:=hval0
 have hW':=hW
 obtain⟨p,q,hA0,hV,rfl,_,_⟩:=hW
 have hA:DataW.TrodAll enc Tryz.prog W 0 (fun _=>true) true Tryz.f5.params.toList args.toList ds p:=hA0
 rw[Tryz.params5]at hA hval
 obtain⟨v0,v1,d0,d1,p0,p1,rfl,rfl,rfl,h0,h1⟩:=trodAll_two hA
 obtain⟨rfl,rfl⟩:=trodVars_none hV
 obtain⟨n0,rfl,rfl,rfl,wn0⟩:=open_int Tryz.underlying5 (hval 0 5 v0 rfl rfl) h0
 obtain⟨n1,rfl,rfl,rfl,wn1⟩:=open_int Tryz.underlying5 (hval 1 5 v1 rfl rfl) h1
 rw[laidPlain]at hL
 have g:=start_glob2 hL hsh
 have F:FoldT (startG2 W):={}
 have k:=case_later hL
 refine(law_calls2 hL (vs:=[.int .u8 n0,.int .u8 n1]) ⟨rfl,fun i x y hx hy=>?_⟩ fun H=>by obtain⟨m0,rfl,_⟩:=u8_nat2 wn0;obtain⟨m1,rfl,_⟩:=u8_nat2 wn1;exact reparseLong_ok (theEnv g F) (envB _) (theEnvP g) (theEnvH g) (theEnvT g k) (rep_ab _) repB _ _ H).mono ?_
 ·match i,hx,hy with
  | 0,hx,hy=>
   simp at hx hy
   subst hx;subst hy
   exact .int _ _
  | 1,hx,hy=>
   simp at hx hy
   subst hx;subst hy
   exact .int _ _
 rintro e W' ⟨rfl,bel⟩
 refine⟨_,rfl,_,_,_,[],[],[],hW',?_,?_,?_,bel.frame _,fun h=>by cases h⟩
 ·exact trodAll_mk1 (shut_bool Tryz.underlying4 true)
 ·exact trodAll_mk2 (shut_int Tryz.underlying5 wn0) (shut_int Tryz.underlying5 wn1)
 ·rfl
theorem replong_holds:Rows.ReparseLongSaid:=
 OpenClaim.holds_of_wide 5 Tryz.f5 rfl rfl rfl rfl rfl rfl rfl ⟨rfl,rfl,rfl,rfl,rfl⟩ rfl rfl rfl rfl rfl (by kernel_rfl) Tryz.func5 (by kernel_rfl)
  (of_decide_eq_true (by kernel_rfl)) (by unfold Func.isWrapper;rw[if_neg (of_decide_eq_false (by kernel_rfl))];exact⟨rfl,rfl⟩)
  (fun os started H enc _=>replong_lifted os started H enc)
theorem reparseLong_holds:Rows.ReparseLongCardSaid:=
 Claim7.holds_tied_plain_at .later [] [.data,.data,.data,.data,.sentinel,.sentinel,.pinned,.pinned] true (true,"0b4d9de4eb5d74b858c76bc617f5b3839d2c8bee3341969688070b1a99769cea") true replong_holds (fun _ h=>by cases h) (by kernel_rfl) (fun _ h=>by cases h) reparseLong_row_tie rfl ⟨rfl,rfl⟩ (by kernel_rfl) rfl
  (fun f fn hf hfn=>by
   obtain rfl:f=5:=Option.some.inj ((show Tryz.prog.funcNamed "chisel/chisellaw43.ReparseLong"=some 5 by kernel_rfl).symm.trans hf) |>.symm
   obtain rfl:fn=Tryz.f5:=(Option.some.inj (Tryz.func5.symm.trans hfn)).symm
   exact⟨by kernel_rfl,fun j t ht=>by
    rw[Tryz.params5]at ht
    have hm:t∈[5,5]:=by simpa using Array.mem_of_getElem? ht
    have hall:([5,5].all fun u => !Tryz.prog.wantsStandIn u)=true:=by kernel_rfl
    exact(show Tryz.prog.wantsStandIn t=false by simpa using List.all_eq_true.1 hall t hm)⟩)
  (by kernel_rfl)
#print axioms reparseLong_holds
end Go.Proofs.YtojncnpmlhhccaaGreatDoor
