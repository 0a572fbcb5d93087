/- What holds between events; the places, once more. -/
import Derived.Test.YtebgjmoihhbjjaaGreatDoorW16
set_option linter.all false
namespace Go.Ab
open Go Go.Lib Go.Proofs
theorem ptextF_err {s:List UInt8} {top:Bool}:∀(f i:Nat) (acc:List UInt8) (w:Wrong),ptextF f top s i acc = .error w→w.at_≤s.length
 | 0,i,acc,w,h=>by simp[ptextF]at h
 | f+1,i,acc,w,h=>by
  simp only[ptextF]at h
  split at h
  ·rename_i hl
   split at h
   ·split at h
    ·exact ptextF_err f _ _ w h
    ·cases h;simp only;omega
   split at h
   ·split at h
    ·exact ptextF_err f _ _ w h
    ·cases h;simp only;omega
   split at h
   ·cases h;simp only;omega
   ·exact ptextF_err f _ _ w h
  ·cases h
theorem rowF_err {s:List UInt8} {top:Bool}:∀(f i:Nat) (acc:List UInt8) (is:Bool) (w:Wrong),rowF f top s i acc is = .error w→w.at_≤s.length
 | 0,i,acc,is,w,h=>by simp[rowF]at h
 | f+1,i,acc,is,w,h=>by
  simp only[rowF]at h
  split at h
  ·rename_i hl
   split at h
   ·split at h
    ·cases h;simp only;omega
    ·exact rowF_err f _ _ _ w h
   split at h
   ·cases h
   ·split at h
    ·rename_i w' hw
     cases h
     have:=ptextF_err _ _ _ _ hw
     simp only[List.length_take]at this
     omega
    ·exact rowF_err f _ _ _ w h
  ·cases h
theorem pieceS_err {s:List UInt8} {p:Pst} {w:Wrong} (h:pieceS s p = .error w):w.at_=p.i:=by
 unfold pieceS at h
 split at h
 ·cases h
 split at h
 ·cases h
 split at h
 ·split at h
  ·cases h
  ·cases h;rfl
 split at h
 ·cases h;rfl
 ·split at h
  ·cases h;rfl
  split at h
  ·cases h;rfl
  split at h
  ·cases h;rfl
  cases h
theorem pieceS_opens {s:List UInt8} {p:Pst} {x:Ev × Pst} (hp:p.opens.length≤200) (h:pieceS s p = .ok x):x.2.opens.length≤200:=by
 unfold pieceS at h
 split at h
 ·cases h;exact hp
 split at h
 ·cases h;exact hp
 split at h
 ·split at h
  ·cases h
   simp only[List.length_dropLast]
   omega
  ·cases h
 split at h
 ·cases h
 ·split at h
  ·cases h
  split at h
  ·cases h
  split at h
  ·cases h
  rename_i hd
  cases h
  simp only
  split
  ·exact hp
  ·simp only[List.length_append,List.length_cons,List.length_nil];omega
theorem eventF_err {s:List UInt8}:∀(f:Nat) (p:Pst) (w:Wrong),eventF f s p = .error w→w.at_≤s.length
 | 0,p,w,h=>by simp[eventF]at h
 | f+1,p,w,h=>by
  simp only[eventF]at h
  split at h
  ·rename_i hl
   split at h
   ·rename_i w' hw
    cases h
    exact rowF_err _ _ _ _ _ hw
   ·split at h
    ·split at h
     ·exact eventF_err f _ w h
     ·cases h
    ·split at h
     ·rename_i w' hw
      cases h
      have:=pieceS_err hw
      omega
     ·cases h
  ·split at h
   ·cases h
    exact Nat.le_refl _
   ·cases h
theorem eventF_opens {s:List UInt8}:∀(f:Nat) (p:Pst) (r),p.opens.length≤200→eventF f s p = .ok r→r.2.opens.length≤200
 | 0,p,r,hp,h=>by
  simp only[eventF,Except.ok.injEq]at h
  subst h
  exact hp
 | f+1,p,r,hp,h=>by
  simp only[eventF]at h
  split at h
  ·split at h
   ·cases h
   ·split at h
    ·split at h
     ·exact eventF_opens f _ _ (by exact hp) h
     ·cases h;exact hp
    ·split at h
     ·cases h
     ·rename_i x q hq
      have:=pieceS_opens hp hq
      cases h
      exact this
  ·split at h
   ·cases h
   ·cases h;exact hp
theorem eventS_err {s:List UInt8} {p:Pst} {w:Wrong} (h:eventS s p = .error w):w.at_≤s.length:=by
 unfold eventS at h
 split at h
 ·split at h
  ·cases h;exact Nat.zero_le _
  ·exact eventF_err _ _ _ h
 ·exact eventF_err _ _ _ h
theorem eventS_opens {s:List UInt8} {p:Pst} {r} (hp:p.opens.length≤200) (h:eventS s p = .ok r):r.2.opens.length≤200:=by
 unfold eventS at h
 split at h
 ·split at h
  ·cases h
  ·exact eventF_opens _ _ _ (by exact hp) h
 ·exact eventF_opens _ _ _ (by exact hp) h
def PosOk (s:List UInt8) (x:Pos):Prop:=x.1≤s.length∧1≤x.2.1∧x.2.1≤x.1+1∧x.2.2≤x.1+1
theorem findF_line {s:List UInt8} {at_:Nat}:∀(f:Nat) (x:Pos),1≤x.2.1→1≤(findF s at_ f x).2.1
 | 0,x,h=>h
 | f+1,x,h=>by
  simp only[findF]
  split
  ·refine findF_line f _ ?_
   simp only[step1]
   split<;>simp only<;>omega
  ·exact h
theorem PosOk.find {s:List UInt8} {x:Pos} (h:PosOk s x) {at_:Nat} (hat:at_≤s.length):PosOk s (findS s at_ x):=by
 have:=findS_bound hat h.1 h.2.2.1 h.2.2.2
 exact⟨this.1,findF_line _ x h.2.1,this.2.1,this.2.2⟩
structure ParOk (s:List UInt8) (q:Par):Prop where
 i:q.p.i≤s.length
 opens:q.p.opens.length≤200
 seen:PosOk s q.seen
 last:1≤q.last.2.1
theorem ParOk.next {s:List UInt8} {q:Par} (h:ParOk s q):ParOk s (nextS s q).2:=by
 unfold nextS
 split
 ·exact h
 split
 ·exact⟨h.i,h.opens,h.seen,h.last⟩
 ·split
  ·rename_i w hw
   have:=h.seen.find (eventS_err hw)
   exact⟨h.i,h.opens,this,this.2.1⟩
  ·rename_i p hp
   obtain⟨a,b,c,d⟩:=eventS_bound h.i hp
   have:=h.seen.find (at_:=p.i) b
   exact⟨b,eventS_opens h.opens hp,this,this.2.1⟩
  ·rename_i x from_ p hp
   obtain⟨a,b,c,d⟩:=eventS_bound h.i hp
   have hd:=d _ rfl
   simp only at b hd
   have h1:=h.seen.find (s:=s) (at_:=from_) (by omega)
   have h2:=h1.find (at_:=p.i) b
   exact⟨b,eventS_opens h.opens hp,h2,h2.2.1⟩
theorem par0_ok (s:List UInt8):ParOk s par0:=⟨Nat.zero_le _,Nat.zero_le _,⟨Nat.zero_le _,Nat.le_refl _,Nat.le_refl _,Nat.le_refl _⟩,Nat.le_refl _⟩
theorem find_set {G:Nat→Option (List AV)} (E:Env G) {H:AHeap} {pid:Nat} {s:List UInt8} {i l0 l1 l2:AV} {x:Pos} {o an em er:AV} (hp:H.get pid=some (parserO s i l0 l1 l2 x.1 x.2.1 x.2.2 o an em er)) {at_:Nat} (hat:at_≤s.length) (hs:s.length≤1000000000) (hx:PosOk s x) :
  ACalls Tryz.prog G 34 [.ptr pid 0,.int .i64 at_] H fun r H'=>r = .ret (posA (findS s at_ x))∧H.next≤H'.next∧H'.get=(H.set pid (parserO s i l0 l1 l2 (findS s at_ x).1 (findS s at_ x).2.1 (findS s at_ x).2.2 o an em er)).get:=by
 refine ACalls.wf fun wf=>?_
 have hpn:=wf _ _ hp
 refine ACalls.trim ((find_ok E hp hat hs hx.2.2.1 hx.2.2.2 hx.1).mono fun r H' ⟨hr,hn,hg⟩=>⟨_,hn,fun k hk hk2=>?_,fun k hk => .inr (hg k hk),fun H'' h1 h2=>⟨hr,h2,h1⟩⟩)
 rw[AHeap.get_set_ne _ _ (by omega)]
 exact hk2
theorem find_LCalls {G:Nat→Option (List AV)} (E:Env G) {H:AHeap} {pid:Nat} {s:List UInt8} {i l0 l1 l2:AV} {x:Pos} {o an em er:AV} (hp:H.get pid=some (parserO s i l0 l1 l2 x.1 x.2.1 x.2.2 o an em er)) {at_:Nat} (hat:at_≤s.length) (hs:s.length≤1000000000) (hx:PosOk s x) :
  LCalls Tryz.prog G 34 [.ptr pid 0,.int .i64 at_] H [pid] [pid] (posA (findS s at_ x)) (H.set pid (parserO s i l0 l1 l2 (findS s at_ x).1 (findS s at_ x).2.1 (findS s at_ x).2.2 o an em er)).get:=by
 refine⟨B34,fun k hk=>AHeap.get_set_ne _ _ (by simpa using hk),fun J hJ=>?_⟩
 have hpJ:J.get pid=some (parserO s i l0 l1 l2 x.1 x.2.1 x.2.2 o an em er):=(hJ pid (by simp)).trans hp
 refine(find_set E hpJ hat hs hx).mono fun r J' ⟨hr,hn,hg⟩=>⟨hr,fun k hk=>?_,fun k hk=>?_,hn⟩
 ·simp only[List.mem_singleton]at hk
  subst hk
  rw[hg]
  simp
 ·simp only[List.mem_singleton]at hk
  rw[hg,AHeap.get_set_ne _ _ hk]
end Go.Ab
