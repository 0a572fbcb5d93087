/- ReparseParts, walked. -/
import Derived.Test.YtojncnpmlhhccaaGreatDoorPX0
import Derived.Test.YtojncnpmlhhccaaGreatDoorPX1
import Derived.Test.YtojncnpmlhhccaaGreatDoorHT14
import Derived.Test.YtojncnpmlhhccaaGreatDoorCodesH3
set_option linter.all false
namespace Go.Ab
open Go Go.Lib Go.Proofs
theorem pieceHS_err {h:HSt} {c:Nat} (e:pieceHS h = .error c):c≠0:=by
 unfold pieceHS at e
 repeat' split at e
 all_goals first
  | (cases e;decide)
  | cases e
theorem readHL_err:∀(n:Nat) (h:HSt) {c:Nat},h.s.length≤n→readHL h = .error c→c≠0
 | n,h,c,hn,e=>by
  rw[readHL_step]at e
  split at e
  ·split at e
   ·cases e
   ·cases e;decide
  ·rename_i hne
   split at e
   ·rename_i c2 hc
    cases e
    exact pieceHS_err hc
   ·rename_i h' he
    have:=pieceHS_less hne he
    cases n with
    | zero=>exact absurd (List.length_eq_zero_iff.1 (by omega)) hne
    | succ n=>exact readHL_err n h' (by omega) e
theorem foldT_err:∀(l:List Ev) {t:TSt} {c:Nat},foldT l t = .error c→c≠0
 | [],t,c,e=>by cases e
 | x::l,t,c,e=>by
  simp only[foldT]at e
  split at e
  ·rename_i c2 h1
   cases e
   have:=eventT_err h1
   omega
  ·exact foldT_err l e
theorem html_err {s:List UInt8} {c:Nat} (e:htmlS s = .error c):c≠0:=by
 unfold htmlS at e
 split at e
 ·cases e;decide
 split at e
 ·cases e;decide
 split at e
 ·rename_i c2 h1
  cases e
  exact readHL_err _ _ (Nat.le_refl _) h1
 ·unfold buildS at e
  split at e
  ·rename_i c2 h1
   cases e
   exact foldT_err _ h1
  ·split at e
   ·cases e;decide
   ·cases e
theorem works_pure {G:Nat→Option (List AV)} (E:Env G) (B:EnvB G) (P:EnvP G) (X:EnvH G) (T:EnvT G):PureCall Tryz.prog G 8 [] (.bool true):=fun H=>
 ACalls.keep (hl_works_ok E B P X T H)
end Go.Ab
