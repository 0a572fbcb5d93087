/- Attributes' values, walked. -/
import Derived.Test.YtojncnpmlhhccaaGreatDoorW8
set_option linter.all false
namespace Go.Ab
open Go Go.Lib Go.Proofs
theorem encodeRune_len (r:Int):(Lib.encodeRune r).length≤4:=by
 simp only[Lib.encodeRune,List.length_map,Lib.encodeRuneZ]
 repeat' split
 all_goals simp
theorem hasPrefix_nil (p:List UInt8) (h:p≠[]):Lib.hasPrefix [] p=false:=by
 cases p with
 | nil=>exact absurd rfl h
 | cons=>rfl
theorem numS_len {name:List UInt8} {n:Nat} (h:numS name=some n):2≤name.length:=by
 unfold numS at h
 split at h
 ·rename_i h1
  have:=hasPrefix_len h1
  simp only[List.length_cons,List.length_nil]at this
  have hne:name.drop 1≠[]:=by
   split at h
   ·rename_i h2
    intro e
    rw[e]at h2
    simp[hasPrefix_nil]at h2
   ·exact(parseS_some h).1
  have:(name.drop 1).length≠0:=fun e=>hne (List.length_eq_zero_iff.1 e)
  simp only[List.length_drop]at this
  omega
 ·cases h
theorem entityS_len (l:List UInt8):(entityS l).1.length≤1:=by
 unfold entityS
 repeat' split
 all_goals simp
theorem refS_len {s:List UInt8} {i:Nat} (h:(refS s i).2.2=true):i+(refS s i).1.length≤(refS s i).2.1:=by
 unfold refS at h ⊢
 simp only at h ⊢
 split at h
 case isFalse=>simp at h
 rename_i h0
 rw[if_pos h0]
 split at h
 ·rename_i h2
  rw[if_pos h2]
  have:=entityS_len (Lib.cut (s.drop (i+1)) [59]).1
  simp only
  omega
 ·rename_i h2
  rw[if_neg h2]
  split at h
  ·simp at h
  ·rename_i n hn
   have h1:=numS_len hn
   have h2:(charS n).1.length≤4:=by
    unfold charS
    split
    ·exact encodeRune_len _
    ·simp
   simp only
   omega
def ValAt (s:List UInt8) (H:AHeap) (x:Nat × Nat × List UInt8 × AHeap):Prop:=
 x.1≤s.length∧x.2.2.1.length≤x.1∧valueL s x.1 x.2.2.1=valueS s∧BldAt x.2.2.2 H.next x.2.1 x.2.2.1∧H.next<x.2.1∧x.2.1<x.2.2.2.next∧∀j,j<H.next→x.2.2.2.get j=H.get j
end Go.Ab
