/- Bounds on the events that All returns. -/
import Derived.Test.YtebgjmoihhbjjaaGreatDoorW25
set_option linter.all false
namespace Go.Ab
open Go Go.Lib Go.Proofs
def EmpOk (p:Pst):Prop:=∀z,p.empty=some z→z.attrs=[]
theorem pieceS_emp {s:List UInt8} {p:Pst} {r:Ev × Pst} (he:EmpOk p) (h:pieceS s p = .ok r):EmpOk r.2:=by
 unfold pieceS at h
 split at h
 ·cases h;exact he
 split at h
 ·cases h;exact he
 split at h
 ·split at h
  ·cases h;exact he
  ·cases h
 split at h
 ·cases h
 ·split at h
  ·cases h
  split at h
  ·cases h
  split at h
  ·cases h
  cases h
  simp only
  split
  ·intro z hz
   simp only[Option.some.injEq]at hz
   rw[←hz]
  ·exact he
theorem eventF_emp {s:List UInt8}:∀(f:Nat) (p:Pst) (r),EmpOk p→eventF f s p = .ok r→EmpOk r.2
 | 0,p,r,he,h=>by simp only[eventF,Except.ok.injEq]at h;subst h;exact he
 | f+1,p,r,he,h=>by
  simp only[eventF]at h
  split at h
  case isFalse=>
   split at h
   ·cases h
   ·cases h;exact he
  split at h
  ·cases h
  split at h
  ·split at h
   ·refine eventF_emp f _ _ ?_ h
    exact he
   ·cases h;exact he
  ·split at h
   ·cases h
   ·rename_i x q hp
    cases h
    exact pieceS_emp he hp
theorem eventS_emp {s:List UInt8} {p:Pst} {r} (he:EmpOk p) (h:eventS s p = .ok r):EmpOk r.2:=by
 unfold eventS at h
 split at h
 ·split at h
  ·cases h
  ·refine eventF_emp _ _ _ ?_ h
   exact he
 ·exact eventF_emp _ _ _ he h
theorem nextS_emp {s:List UInt8} {q:Par} (he:EmpOk q.p):EmpOk (nextS s q).2.p:=by
 unfold nextS
 split
 ·exact he
 split
 ·intro z hz
  simp at hz
 split
 ·exact he
 ·rename_i p hp
  exact eventS_emp (r:=(none,p)) he hp
 ·rename_i x from_ p hp
  have:=eventS_emp (r:=(some (x,from_),p)) he hp
  intro z hz
  simp only at hz
  cases hpe:p.empty with
  | none=>rw[hpe]at hz;cases hz
  | some y=>
   rw[hpe]at hz
   cases hz
   exact this y hpe
theorem run_attrs {s:List UInt8} {q q':Par} {xs:List Ev} (hr:Run s q xs q') (he:EmpOk q.p):∀x∈xs,x.attrs.length≤s.length:=by
 induction hr with
 | nil q=>simp
 | cons h hr ih=>
  intro x hx
  rw[List.mem_cons]at hx
  rcases hx with rfl | hx
  ·exact nextS_attrs he
  ·exact ih (nextS_emp he) x hx
theorem all2_bounds (text:List UInt8) (hl:text.length≤10000):(all2S text).1.length≤10000∧∀x∈(all2S text).1,x.attrs.length≤10000:=by
 by_cases hE:newErr text=0
 ·obtain⟨xs,q',hrun,hlast,hxl,hall⟩:=all2_run hE
  have hs:=linesS_len text
  rw[hall]
  split
  ·exact⟨by simp only;omega,fun x hx=>Nat.le_trans (run_attrs hrun (fun z hz=>by simp[par0]at hz) x hx) (by omega)⟩
  ·simp
 ·unfold all2S
  rw[if_neg hE]
  simp
end Go.Ab
