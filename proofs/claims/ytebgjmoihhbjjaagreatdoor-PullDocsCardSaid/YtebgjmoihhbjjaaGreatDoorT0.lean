/- Where a row ends. -/
import Derived.Test.YtebgjmoihhbjjaaGreatDoorSpec
set_option linter.all false
namespace Go.Ab
open Go Go.Lib
def NoRow (s:List UInt8) (i:Nat):Prop:=i<s.length→∀top,rowS top s i = .ok ([],false,i)
theorem rowL_noRow {s:List UInt8} {i:Nat} {acc:List UInt8} {is top:Bool} (h:(cdataS s i).2.2=false) (h0:Lib.indexByte (s.drop i) 60=0) (hi:i<s.length):rowL top s i acc is = .ok (acc,is,i):=by
 rw[rowL_step top acc is hi,if_neg (by simp[h]),if_pos h0]
theorem rowF_end {s:List UInt8} {top:Bool}:∀(f i:Nat) (acc:List UInt8) (is:Bool) (x),s.length-i≤f→i≤s.length→rowF f top s i acc is = .ok x→NoRow s x.2.2
 | 0,i,acc,is,x,hf,hi,h=>by
  simp only[rowF,Except.ok.injEq]at h
  subst h
  intro h
  simp only at h
  omega
 | f+1,i,acc,is,x,hf,hi,h=>by
  simp only[rowF]at h
  split at h
  case isFalse hl=>cases h;intro h;simp only at h;omega
  rename_i hl
  split at h
  ·rename_i hc
   have:=cdataS_bound hc
   split at h
   ·cases h
   ·exact rowF_end f _ _ _ _ (by omega) (by omega) h
  rename_i hc
  split at h
  ·rename_i h0
   cases h
   intro _ top
   exact rowL_noRow (by simpa using hc) h0 hl
  ·have hb:i<rowEnd s i∧rowEnd s i≤s.length:=rowEnd_bound hl
   change(match ptextS top (s.take (rowEnd s i)) i acc with | .error w=>Except.error w | .ok acc'=>rowF f top s (rowEnd s i) acc' true) = .ok x at h
   split at h
   ·cases h
   ·exact rowF_end f _ _ _ _ (by omega) (by omega) h
theorem rowS_end {s:List UInt8} {top:Bool} {i:Nat} {x} (hi:i≤s.length) (h:rowS top s i = .ok x):NoRow s x.2.2:=rowF_end _ _ _ _ _ (Nat.le_refl _) hi h
end Go.Ab
