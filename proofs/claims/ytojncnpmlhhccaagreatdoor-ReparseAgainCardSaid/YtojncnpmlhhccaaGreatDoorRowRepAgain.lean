/- ReparseAgain: row and card. -/
import Derived.Test.YtojncnpmlhhccaaGreatDoorAX1
import Derived.Test.YtojncnpmlhhccaaGreatDoorHXT
import Derived.Test.YtojncnpmlhhccaaGreatDoorXC
import Derived.Test.YtojncnpmlhhccaaGreatDoorCards
set_option linter.all false
namespace Go.Proofs.YtojncnpmlhhccaaGreatDoor
open Go Go.Ab Go.ChangeShapes Go.WideShapes Go.ChangeAt Go.RowKit
open Go.ChangeMaps (open_string shut_string)
set_option maxRecDepth 100000 in
theorem repagain_lifted (os:Os) (started:os.Started) (H:Type) (enc:TypeId × Value→H) :
  ReturnsInHanded {} Tryz.checked os 7 .any (fun w args=>(Rows.reparseAgainSpec.pre enc Tryz.prog Tryz.f7 Rows.reparseAgainRow.domain false w args∧laidMetH Tryz.prog Rows.reparseAgainRow.laid w)∧sizedMet enc Tryz.prog Tryz.f7 (OpenSpec.ofChange Rows.reparseAgainSpec) false w args)
   (Rows.reparseAgainSpec.post enc Tryz.prog Tryz.f7 false true false false):=by
 refine returns_and_shaped (C:=Tryz.checked) (X:=fun w _=>laidMetH Tryz.prog laidAll w) (fun _ _ _ hh h=>laid_heap hh h) own started (by kernel_rfl) Tryz.func7
  (ChangeSpec.witness_shaped (enc:=enc) (C:=Tryz.checked) (os:=os) (X:=fun w _=>laidMetH Tryz.prog laidAll w) false (W0 os) #[.string ⟨#[]⟩] 8 (World.laidAll_os _ _ _)
   (W0_shaped os _) (by kernel_rfl) (by kernel_rfl) (by kernel_rfl) (W0_met os _)) ?_
 intro W base args ds gs before hval0 hW hL hsh
 have hval:∀(j:Nat) t v,Tryz.f7.params[j]?=some t→args[j]?=some v→Value.okWide Tryz.prog W .any base t v:=hval0
 have hW':=hW
 obtain⟨p,q,hA0,hV,rfl,_,_⟩:=hW
 have hA:DataW.TrodAll enc Tryz.prog W 0 (fun _=>true) true Tryz.f7.params.toList args.toList ds p:=hA0
 rw[Tryz.params7]at hA hval
 obtain⟨v0,d0,rfl,rfl,h0⟩:=trodAll_one hA
 obtain⟨rfl,rfl⟩:=trodVars_none hV
 obtain⟨s0,rfl,rfl,rfl,ws0⟩:=open_string Tryz.underlying9 (hval 0 9 v0 rfl rfl) h0
 rw[laidPlain]at hL
 have g:=start_glob2 hL hsh
 have F:FoldT (startG2 W):={}
 have k:=case_later hL
 refine(law_calls2 hL (vs:=[.str s0.data.toList]) ⟨rfl,fun i x y hx hy=>?_⟩ fun H=>reparseAgain_ok (theEnv g F) (envB _) (theEnvP g) (theEnvH g) (theEnvT g k) (map_ab g) (anyOk (theEnv g F)) (space_later hL) _ H).mono ?_
 ·match i,hx,hy with
  | 0,hx,hy=>
   simp at hx hy
   subst hx;subst hy
   exact .str _
 rintro e W' ⟨rfl,bel⟩
 refine⟨_,rfl,_,_,_,[],[],[],hW',?_,?_,?_,bel.frame _,fun h=>by cases h⟩
 ·exact trodAll_mk1 (shut_bool Tryz.underlying4 true)
 ·exact trodAll_mk1 (shut_string Tryz.underlying9 ws0)
 ·rfl
theorem repagain_holds:Rows.ReparseAgainSaid:=
 OpenClaim.holds_of_wide 7 Tryz.f7 rfl rfl rfl rfl rfl rfl rfl ⟨rfl,rfl,rfl,rfl,rfl⟩ rfl rfl rfl rfl rfl (by kernel_rfl) Tryz.func7 (by kernel_rfl)
  (of_decide_eq_true (by kernel_rfl)) (by unfold Func.isWrapper;rw[if_neg (of_decide_eq_false (by kernel_rfl))];exact⟨rfl,rfl⟩)
  (fun os started H enc _=>repagain_lifted os started H enc)
theorem reparseAgain_holds:Rows.ReparseAgainCardSaid:=
 Claim7.holds_tied_plain_at .later [] [.data,.data,.data,.data,.sentinel,.sentinel,.listed,.data,.pinned,.pinned] true (true,"0b4d9de4eb5d74b858c76bc617f5b3839d2c8bee3341969688070b1a99769cea") true repagain_holds (fun _ h=>by cases h) (by kernel_rfl) (fun _ h=>by cases h) reparseAgain_row_tie rfl ⟨rfl,rfl⟩ (by kernel_rfl) rfl
  (fun f fn hf hfn=>by
   obtain rfl:f=7:=Option.some.inj ((show Tryz.prog.funcNamed "chisel/chisellaw43.ReparseAgain"=some 7 by kernel_rfl).symm.trans hf) |>.symm
   obtain rfl:fn=Tryz.f7:=(Option.some.inj (Tryz.func7.symm.trans hfn)).symm
   exact⟨by kernel_rfl,fun j t ht=>by
    rw[Tryz.params7]at ht
    have hm:t∈[9]:=by simpa using Array.mem_of_getElem? ht
    have hall:([9].all fun u => !Tryz.prog.wantsStandIn u)=true:=by kernel_rfl
    exact(show Tryz.prog.wantsStandIn t=false by simpa using List.all_eq_true.1 hall t hm)⟩)
  (by kernel_rfl)
#print axioms reparseAgain_holds
end Go.Proofs.YtojncnpmlhhccaaGreatDoor
