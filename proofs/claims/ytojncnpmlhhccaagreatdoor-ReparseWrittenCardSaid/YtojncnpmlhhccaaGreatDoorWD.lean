/- Attributes, walked. Start tags, walked. The places of characters, walked. Text, walked. Rows of text and character data, walked. Tags, comments and instructions, walked. Events, walked. What holds between events; the places, once more. What takes up the reader's panics, walked. Next, walked. New and Where, walked. All, walked. Line ends: what New makes of them, and that texts with other line ends are read alike. Steps through a text that is known. -/
import Derived.Test.YtojncnpmlhhccaaGreatDoorWC
import Derived.Lib.Replace
import Derived.Lib.CountLaws
import Derived.Lib.Repeat
set_option linter.all false
namespace Go.Ab
open Go Go.Lib Go.Proofs
end Go.Ab
namespace Go.Ab
open Go Go.Lib Go.Proofs
end Go.Ab
namespace Go.Ab
open Go Go.Lib Go.Proofs
theorem findF_bound {s:List UInt8} {at_:Nat} (hat:at_≤s.length):∀(f:Nat) (x:Pos),x.1≤s.length→x.2.1≤x.1+1→x.2.2≤x.1+1→(findF s at_ f x).1≤s.length∧(findF s at_ f x).2.1≤(findF s at_ f x).1+1∧(findF s at_ f x).2.2≤(findF s at_ f x).1+1
 | 0,x,h1,h2,h3=>⟨h1,h2,h3⟩
 | f+1,x,h1,h2,h3=>by
  simp only[findF]
  split
  ·rename_i hx
   have hd:=dec_drop (show x.1<s.length by omega)
   refine findF_bound hat f _ ?_ ?_ ?_<;>(simp only[step1];split<;>simp only<;>omega)
  ·exact⟨h1,h2,h3⟩
theorem findS_bound {s:List UInt8} {at_:Nat} (hat:at_≤s.length) {x:Pos} (h1:x.1≤s.length) (h2:x.2.1≤x.1+1) (h3:x.2.2≤x.1+1):(findS s at_ x).1≤s.length∧(findS s at_ x).2.1≤(findS s at_ x).1+1∧(findS s at_ x).2.2≤(findS s at_ x).1+1:=
 findF_bound hat _ x h1 h2 h3
end Go.Ab
namespace Go.Ab
open Go Go.Lib Go.Proofs
end Go.Ab
namespace Go.Ab
open Go Go.Lib Go.Proofs
theorem But.of {H J:AHeap} {pid:Nat} {o:AObj} (hn:H.next≤J.next) (hp:J.get pid=some o) (h:∀q,q<H.next→q≠pid→J.get q=H.get q):But pid o H J:=by
 refine⟨hn,fun q hq=>?_⟩
 by_cases h1:q=pid
 ·subst h1
  rw[hp]
  simp
 ·rw[AHeap.get_set_ne _ _ h1]
  exact h q hq h1
end Go.Ab
namespace Go.Ab
open Go Go.Lib Go.Proofs
def strsA (l:List (List UInt8)):List AV:=l.map .str
end Go.Ab
namespace Go.Ab
open Go Go.Lib Go.Proofs
theorem Weak.refl (G:Nat→Option (List AV)) (a:List AV) (H:AHeap):Weak G a H a H:=fun C _ R hH=>⟨C,hH,R,Adv.refl C _,fun _ h=>h⟩
end Go.Ab
namespace Go.Ab
open Go Go.Lib Go.Proofs
theorem ptextF_err {s:List UInt8} {top:Bool}:∀(f i:Nat) (acc:List UInt8) (w:Wrong),ptextF f top s i acc = .error w→w.at_≤s.length
 | 0,i,acc,w,h=>by simp[ptextF]at h
 | f+1,i,acc,w,h=>by
  simp only[ptextF]at h
  split at h
  ·rename_i hl
   split at h
   ·split at h
    ·exact ptextF_err f _ _ w h
    ·cases h;simp only;omega
   split at h
   ·split at h
    ·exact ptextF_err f _ _ w h
    ·cases h;simp only;omega
   split at h
   ·cases h;simp only;omega
   ·exact ptextF_err f _ _ w h
  ·cases h
theorem rowF_err {s:List UInt8} {top:Bool}:∀(f i:Nat) (acc:List UInt8) (is:Bool) (w:Wrong),rowF f top s i acc is = .error w→w.at_≤s.length
 | 0,i,acc,is,w,h=>by simp[rowF]at h
 | f+1,i,acc,is,w,h=>by
  simp only[rowF]at h
  split at h
  ·rename_i hl
   split at h
   ·split at h
    ·cases h;simp only;omega
    ·exact rowF_err f _ _ _ w h
   split at h
   ·cases h
   ·split at h
    ·rename_i w' hw
     cases h
     have:=ptextF_err _ _ _ _ hw
     simp only[List.length_take]at this
     omega
    ·exact rowF_err f _ _ _ w h
  ·cases h
theorem pieceS_err {s:List UInt8} {p:Pst} {w:Wrong} (h:pieceS s p = .error w):w.at_=p.i:=by
 unfold pieceS at h
 split at h
 ·cases h
 split at h
 ·cases h
 split at h
 ·split at h
  ·cases h
  ·cases h;rfl
 split at h
 ·cases h;rfl
 ·split at h
  ·cases h;rfl
  split at h
  ·cases h;rfl
  split at h
  ·cases h;rfl
  cases h
theorem pieceS_opens {s:List UInt8} {p:Pst} {x:Ev × Pst} (hp:p.opens.length≤200) (h:pieceS s p = .ok x):x.2.opens.length≤200:=by
 unfold pieceS at h
 split at h
 ·cases h;exact hp
 split at h
 ·cases h;exact hp
 split at h
 ·split at h
  ·cases h
   simp only[List.length_dropLast]
   omega
  ·cases h
 split at h
 ·cases h
 ·split at h
  ·cases h
  split at h
  ·cases h
  split at h
  ·cases h
  rename_i hd
  cases h
  simp only
  split
  ·exact hp
  ·simp only[List.length_append,List.length_cons,List.length_nil];omega
theorem eventF_err {s:List UInt8}:∀(f:Nat) (p:Pst) (w:Wrong),eventF f s p = .error w→w.at_≤s.length
 | 0,p,w,h=>by simp[eventF]at h
 | f+1,p,w,h=>by
  simp only[eventF]at h
  split at h
  ·rename_i hl
   split at h
   ·rename_i w' hw
    cases h
    exact rowF_err _ _ _ _ _ hw
   ·split at h
    ·split at h
     ·exact eventF_err f _ w h
     ·cases h
    ·split at h
     ·rename_i w' hw
      cases h
      have:=pieceS_err hw
      omega
     ·cases h
  ·split at h
   ·cases h
    exact Nat.le_refl _
   ·cases h
theorem eventF_opens {s:List UInt8}:∀(f:Nat) (p:Pst) (r),p.opens.length≤200→eventF f s p = .ok r→r.2.opens.length≤200
 | 0,p,r,hp,h=>by
  simp only[eventF,Except.ok.injEq]at h
  subst h
  exact hp
 | f+1,p,r,hp,h=>by
  simp only[eventF]at h
  split at h
  ·split at h
   ·cases h
   ·split at h
    ·split at h
     ·exact eventF_opens f _ _ (by exact hp) h
     ·cases h;exact hp
    ·split at h
     ·cases h
     ·rename_i x q hq
      have:=pieceS_opens hp hq
      cases h
      exact this
  ·split at h
   ·cases h
   ·cases h;exact hp
theorem eventS_err {s:List UInt8} {p:Pst} {w:Wrong} (h:eventS s p = .error w):w.at_≤s.length:=by
 unfold eventS at h
 split at h
 ·split at h
  ·cases h;exact Nat.zero_le _
  ·exact eventF_err _ _ _ h
 ·exact eventF_err _ _ _ h
theorem eventS_opens {s:List UInt8} {p:Pst} {r} (hp:p.opens.length≤200) (h:eventS s p = .ok r):r.2.opens.length≤200:=by
 unfold eventS at h
 split at h
 ·split at h
  ·cases h
  ·exact eventF_opens _ _ _ (by exact hp) h
 ·exact eventF_opens _ _ _ (by exact hp) h
def PosOk (s:List UInt8) (x:Pos):Prop:=x.1≤s.length∧1≤x.2.1∧x.2.1≤x.1+1∧x.2.2≤x.1+1
theorem findF_line {s:List UInt8} {at_:Nat}:∀(f:Nat) (x:Pos),1≤x.2.1→1≤(findF s at_ f x).2.1
 | 0,x,h=>h
 | f+1,x,h=>by
  simp only[findF]
  split
  ·refine findF_line f _ ?_
   simp only[step1]
   split<;>simp only<;>omega
  ·exact h
theorem PosOk.find {s:List UInt8} {x:Pos} (h:PosOk s x) {at_:Nat} (hat:at_≤s.length):PosOk s (findS s at_ x):=by
 have:=findS_bound hat h.1 h.2.2.1 h.2.2.2
 exact⟨this.1,findF_line _ x h.2.1,this.2.1,this.2.2⟩
structure ParOk (s:List UInt8) (q:Par):Prop where
 i:q.p.i≤s.length
 opens:q.p.opens.length≤200
 seen:PosOk s q.seen
 last:1≤q.last.2.1
theorem ParOk.next {s:List UInt8} {q:Par} (h:ParOk s q):ParOk s (nextS s q).2:=by
 unfold nextS
 split
 ·exact h
 split
 ·exact⟨h.i,h.opens,h.seen,h.last⟩
 ·split
  ·rename_i w hw
   have:=h.seen.find (eventS_err hw)
   exact⟨h.i,h.opens,this,this.2.1⟩
  ·rename_i p hp
   obtain⟨a,b,c,d⟩:=eventS_bound h.i hp
   have:=h.seen.find (at_:=p.i) b
   exact⟨b,eventS_opens h.opens hp,this,this.2.1⟩
  ·rename_i x from_ p hp
   obtain⟨a,b,c,d⟩:=eventS_bound h.i hp
   have hd:=d _ rfl
   simp only at b hd
   have h1:=h.seen.find (s:=s) (at_:=from_) (by omega)
   have h2:=h1.find (at_:=p.i) b
   exact⟨b,eventS_opens h.opens hp,h2,h2.2.1⟩
end Go.Ab
namespace Go.Ab
open Go Go.Lib Go.Proofs
end Go.Ab
namespace Go.Ab
open Go Go.Lib Go.Proofs
end Go.Ab
namespace Go.Ab
open Go Go.Lib Go.Proofs
end Go.Ab
namespace Go.Ab
open Go Go.Lib Go.Proofs
end Go.Ab
namespace Go.Ab
open Go Go.Lib Go.Proofs
set_option maxRecDepth 100000 in
set_option maxHeartbeats 2000000 in
theorem decodeN_same (n n' w b0 b1 b2 b3 c1 c2 c3:Nat) (hw:(Lib.decodeN n b0 b1 b2 b3).2=w) (h2:2≤w) (hn:w≤n') (e1:c1=b1) (e2:2<w→c2=b2) (e3:3<w→c3=b3):Lib.decodeN n' b0 c1 c2 c3=Lib.decodeN n b0 b1 b2 b3:=by
  subst e1
  unfold Lib.decodeN at hw ⊢
  repeat' split at hw
  all_goals first
    | (exfalso;try simp only at hw
       omega)
    | (try simp only at hw
       subst hw
       first
         | (have E2:=e2 (by omega);subst E2;first | (have E3:=e3 (by omega);subst E3;simp_all) | simp_all)
         | simp_all)
  all_goals (repeat' split)
  all_goals first | (exfalso;omega) | rfl
set_option maxRecDepth 100000 in
set_option maxHeartbeats 2000000 in
theorem decodeN_cont (n b0 b1 b2 b3:Nat) (h0:128≤b0):Lib.decodeN n b0 b1 b2 b3=(65533,1)∨(2≤(Lib.decodeN n b0 b1 b2 b3).2∧(Lib.decodeN n b0 b1 b2 b3).2≤4∧(Lib.decodeN n b0 b1 b2 b3).2≤n∧b1 / 64=2∧(2<(Lib.decodeN n b0 b1 b2 b3).2→b2 / 64=2)∧(3<(Lib.decodeN n b0 b1 b2 b3).2→b3 / 64=2)):=by
  unfold Lib.decodeN
  repeat' split
  all_goals first
    | (exfalso;omega)
    | exact .inl rfl
    | (refine .inr ⟨?_,?_,?_,?_,?_,?_⟩<;>(try simp only)<;>omega)
theorem take_cont:∀(l:List UInt8) (k:Nat),(∀i,i<k→128≤(l.getD i 0).toNat)→∀x∈l.take k,128≤x.toNat
  | [],k,_,x,hx=>by simp at hx
  | b::l,0,_,x,hx=>by simp at hx
  | b::l,k+1,h,x,hx=>by
    rw[List.take_succ_cons,List.mem_cons]at hx
    rcases hx with rfl | hx
    · exact h 0 (by omega)
    · exact take_cont l k (fun i hi=>h (i+1) (by omega)) x hx
theorem dec_split {b:UInt8} (l:List UInt8) (h:128≤b.toNat):dec (b::l)=(65533,1)∨∃c m,l=c++m∧1≤c.length∧(∀x∈c,128≤x.toNat)∧(dec (b::l)).2=1+c.length∧∀m',dec (b::(c++m'))=dec (b::l):=by
  have hN:=Lib.decodeL_N (b::l)
  simp only[List.getD_cons_zero,List.getD_cons_succ]at hN
  rcases decodeN_cont (b::l).length b.toNat (l.getD 0 0).toNat (l.getD 1 0).toNat (l.getD 2 0).toNat h with h1 | ⟨h2,h4,hn,c1,c2,c3⟩
  · exact .inl (hN.trans h1)
  · right
    rw[←hN]at h2 h4 hn c2 c3
    generalize hw:(Lib.decodeL (b::l)).2=w at h2 h4 hn c2 c3
    simp only[List.length_cons]at hn
    have hlen:(l.take (w-1)).length=w-1:=by rw[List.length_take];omega
    refine⟨l.take (w-1),l.drop (w-1),(List.take_append_drop _ _).symm,by omega,take_cont l _ fun i hi=>?_,by rw[hlen];omega,fun m'=>?_⟩
    · rcases Nat.lt_or_ge i 1 with h | h
      · rw[show i=0 by omega];omega
      rcases Nat.lt_or_ge i 2 with h | h
      · rw[show i=1 by omega];have:=c2 (by omega);omega
      · rw[show i=2 by omega];have:=c3 (by omega);omega
    · show Lib.decodeL _=Lib.decodeL _
      have hN2:=Lib.decodeL_N (b::(l.take (w-1)++m'))
      simp only[List.getD_cons_zero,List.getD_cons_succ]at hN2
      rw[hN]at hw
      rw[hN2,hN]
      have g:∀i,i<w-1→(l.take (w-1)++m').getD i 0=l.getD i 0:=fun i hi=>by
        simp only[List.getD_eq_getElem?_getD]
        rw[List.getElem?_append_left (by omega),List.getElem?_take_of_lt hi]
      refine decodeN_same _ _ w _ _ _ _ _ _ _ hw h2 (by simp only[List.length_cons,List.length_append];omega) (by rw[g 0 (by omega)]) (fun h=>by rw[g 1 (by omega)]) fun h=>by rw[g 2 (by omega)]
end Go.Ab
namespace Go.Ab
open Go Go.Lib
end Go.Ab
