/- ReparseWritten: row and card. -/
import Derived.Test.YtojncnpmlhhccaaGreatDoorWX
import Derived.Test.YtojncnpmlhhccaaGreatDoorHX6
import Derived.SizedLaws
import Derived.Test.YtojncnpmlhhccaaGreatDoorCards
set_option linter.all false
namespace Go.Proofs.YtojncnpmlhhccaaGreatDoor
open Go Go.Ab Go.ChangeShapes Go.WideShapes Go.ChangeAt Go.RowKit
open Go.ChangeMaps (open_string shut_string)
theorem returns_and_sized {H:Type} {enc:TypeId × Value→H} {a:Assume} {C:Checked} {os:Os} {f:FuncId} {fn:Func} {s:ChangeSpec} {conds:List PathCond} {apart fresh handsOn again:Bool} {X:World→Array Value→Prop}
  (hX:∀(w w':World) (args:Array Value),w.heap=w'.heap→X w args→X w' args)
  (own:ownKnob C.prog.godebug=none) (started:os.Started) (noInit:C.prog.inits.idxOf? f=none) (hfn:C.prog.funcs[f]?=some fn)
  (witness:∃(w:World) (tape:Tape) (i:Input),w.os=os∧(w.forCall tape i).Shaped C.prog∧i.vars=[]∧Input.okWide C.prog (w.forCall tape i) .any w.heap.size f i ∧
   ((s.pre enc C.prog fn conds apart (w.forCall tape i).memory i.args∧X (w.forCall tape i).memory i.args)∧sizedMet enc C.prog fn (OpenSpec.ofChange s) apart (w.forCall tape i).memory i.args)∧a.holds C.prog (lone (Frame.enter C.prog f i.args .normal) [] (w.forCall tape i)))
  (contract:∀(W:World) (base:Nat) (args:Array Value) (ds gs:List (DataW H)) (before:List MemPlace),
   (∀(j:Nat) t v,fn.params[j]?=some t→args[j]?=some v→Value.okWide C.prog W .any base t v) →
   DataW.Whole enc C.prog fn.params.toList s.vars apart W args.toList ds gs before →
   X W args→W.ShapedOpen C.prog→(DataW.weightsEach C.prog (fn.params.toList++(OpenSpec.ofChange s).bare.plain.varTypes C.prog) (ds++gs)).all (·≤reachBytes)=true →
   Calls C.prog f args W fun e W'=>∃v,e = .returned v∧s.post enc C.prog fn apart fresh handsOn again W args v W') :
  ReturnsInHanded a C os f .any (fun w args=>(s.pre enc C.prog fn conds apart w args∧X w args)∧sizedMet enc C.prog fn (OpenSpec.ofChange s) apart w args) (s.post enc C.prog fn apart fresh handsOn again):=by
 refine returnsInHanded_of_calls own started noInit witness ?_
 intro w tape i _ hsh _ hok hpre hholds
 obtain⟨_,_,_,fn',hfn',_,_,_,_,hval⟩:=hok
 have e:fn'=fn:=Option.some.inj (hfn'.symm.trans hfn)
 subst e
 obtain⟨⟨⟨ds,gs,before,hw,hc⟩,hx⟩,hz⟩:=hpre
 have hw':=DataW.Whole.of_heap (w':=w.forCall tape i) (by rfl) hw
 have hz':=sizedMet.of_heap (w':=w.forCall tape i) (by rfl) hz
 refine(contract (w.forCall tape i) w.heap.size i.args ds gs before hval hw' (hX _ _ _ (by rfl) hx) hsh (hz'.weights hw')).mono fun e W' ⟨v,he,hp⟩=>?_
 subst he
 exact ChangeSpec.post_blind hp
set_option maxRecDepth 100000 in
theorem repwritten_lifted (os:Os) (started:os.Started) (H:Type) (enc:TypeId × Value→H) :
  ReturnsInHanded {} Tryz.checked os 6 .any (fun w args=>(Rows.reparseWrittenSpec.pre enc Tryz.prog Tryz.f6 Rows.reparseWrittenRow.domain false w args∧laidMetH Tryz.prog Rows.reparseWrittenRow.laid w)∧sizedMet enc Tryz.prog Tryz.f6 (OpenSpec.ofChange Rows.reparseWrittenSpec) false w args)
   (Rows.reparseWrittenSpec.post enc Tryz.prog Tryz.f6 false true false false):=by
 refine returns_and_sized (C:=Tryz.checked) (X:=fun w _=>laidMetH Tryz.prog laidAll w) (fun _ _ _ hh h=>laid_heap hh h) own started (by kernel_rfl) Tryz.func6
  (ChangeSpec.witness_shaped (enc:=enc) (C:=Tryz.checked) (os:=os) (X:=fun w _=>laidMetH Tryz.prog laidAll w) false (W0 os) #[.agg #[.slice none 0 0],.bool false] 8 (World.laidAll_os _ _ _)
   (W0_shaped os _) (by kernel_rfl) (by kernel_rfl) (by kernel_rfl) (W0_met os _)) ?_
 intro W base args ds gs before hval0 hW hL hsh hwt
 have hval:∀(j:Nat) t v,Tryz.f6.params[j]?=some t→args[j]?=some v→Value.okWide Tryz.prog W .any base t v:=hval0
 have hW':=hW
 obtain⟨p,q,hA0,hV,rfl,_,_⟩:=hW
 have hA:DataW.TrodAll enc Tryz.prog W 0 (fun _=>true) true Tryz.f6.params.toList args.toList ds p:=hA0
 rw[Tryz.params6]at hA hval
 rw[Tryz.params6]at hwt
 obtain⟨v0,v1,d0,d1,p0,p1,rfl,rfl,rfl,h0,h1⟩:=trodAll_two hA
 obtain⟨rfl,rfl⟩:=trodVars_none hV
 have hv0:=hval 0 25 v0 rfl rfl
 obtain⟨b1,rfl,rfl,rfl⟩:=open_bool Tryz.underlying4 (hval 1 4 v1 rfl rfl) h1
 obtain⟨L,hvr,hsz⟩:=open_tree hv0 h0
 obtain⟨hn,hbd⟩:=hsz 140737488355328 (List.all_eq_true.2 fun n hn=>by
  have:=List.all_eq_true.1 hwt n (DataW.weights_mem_each (j:=0) (t:=25) (d:=d0) rfl rfl n hn)
  have hlt:=reachBytes_lt
  simp only[decide_eq_true_eq]at this ⊢
  omega)
 rw[laidPlain]at hL
 have g:=start_glob2 hL hsh
 have F:FoldT (startG2 W):={}
 have k:=case_later hL
 refine(law_calls3 hL (vs:=[.agg [.lst L.length (rnsH L)],.bool b1]) ⟨rfl,fun i x y hx hy=>?_⟩ fun H=>reparseWritten_ok (theEnv g F) (envB _) (theEnvP g) (theEnvH g) (theEnvT g k) (map_ab g) (anyOk (theEnv g F)) (space_later hL) hn hbd b1 H).mono ?_
 ·match i,hx,hy with
  | 0,hx,hy=>
   simp at hx hy
   subst hx;subst hy
   exact hvr
  | 1,hx,hy=>
   simp at hx hy
   subst hx;subst hy
   exact .bool _
 rintro e W' ⟨rfl,bel⟩
 refine⟨_,rfl,_,_,_,[],p0++[],[],hW',?_,?_,?_,bel.frame _,fun h=>by cases h⟩
 ·exact trodAll_mk1 (shut_bool Tryz.underlying4 true)
 ·exact trodAll_mk2 (Below.trod (by kernel_rfl) (by kernel_rfl) (of_decide_eq_true (by kernel_rfl)) h0 bel fun x hx=>hA0.lt x (List.mem_append_left _ hx)) (shut_bool Tryz.underlying4 b1)
 ·rfl
theorem repwritten_holds:Rows.ReparseWrittenSaid:=
 OpenClaim.holds_of_wide 6 Tryz.f6 rfl rfl rfl rfl rfl rfl rfl ⟨rfl,rfl,rfl,rfl,rfl⟩ rfl rfl rfl rfl rfl (by kernel_rfl) Tryz.func6 (by kernel_rfl)
  (of_decide_eq_true (by kernel_rfl)) (by unfold Func.isWrapper;rw[if_neg (of_decide_eq_false (by kernel_rfl))];exact⟨rfl,rfl⟩)
  (fun os started H enc _=>repwritten_lifted os started H enc)
theorem reparseWritten_holds:Rows.ReparseWrittenCardSaid:=
 Claim7.holds_tied_plain_at .later [] [.data,.data,.data,.data,.sentinel,.sentinel,.listed,.data,.pinned,.pinned] true (true,"0b4d9de4eb5d74b858c76bc617f5b3839d2c8bee3341969688070b1a99769cea") true repwritten_holds (fun _ h=>by cases h) (by kernel_rfl) (fun _ h=>by cases h) reparseWritten_row_tie rfl ⟨rfl,rfl⟩ (by kernel_rfl) rfl
  (fun f fn hf hfn=>by
   obtain rfl:f=6:=Option.some.inj ((show Tryz.prog.funcNamed "chisel/chisellaw43.ReparseWritten"=some 6 by kernel_rfl).symm.trans hf) |>.symm
   obtain rfl:fn=Tryz.f6:=(Option.some.inj (Tryz.func6.symm.trans hfn)).symm
   exact⟨by kernel_rfl,fun j t ht=>by
    rw[Tryz.params6]at ht
    have hm:t∈[25,4]:=by simpa using Array.mem_of_getElem? ht
    have hall:([25,4].all fun u => !Tryz.prog.wantsStandIn u)=true:=by kernel_rfl
    exact(show Tryz.prog.wantsStandIn t=false by simpa using List.all_eq_true.1 hall t hm)⟩)
  (by kernel_rfl)
#print axioms reparseWritten_holds
end Go.Proofs.YtojncnpmlhhccaaGreatDoor
