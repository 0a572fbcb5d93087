/- Elements in one another, and a long text: what All makes of them. -/
import Derived.Test.YtebgjmoihhbjjaaGreatDoorE1
import Derived.Lib.Repeat
import Derived.KernelRfl
set_option linter.all false
namespace Go.Ab
open Go Go.Lib Go.Proofs

theorem drop_one {s t : List UInt8} {i : Nat} {b : UInt8} (h : s.drop i = b :: t) : i < s.length ∧ s.drop (i + 1) = t ∧ s.getD i 0 = b := by
  have hi : i < s.length := by
    rcases Nat.lt_or_ge i s.length with h1 | h1
    · exact h1
    · rw [List.drop_eq_nil_of_le h1] at h; cases h
  rw [List.drop_eq_getElem_cons hi, List.cons.injEq] at h
  refine ⟨hi, h.2, ?_⟩
  rw [List.getD_eq_getElem?_getD, List.getElem?_eq_getElem hi, Option.getD_some, h.1]
theorem untilN_at {s : List UInt8} {i : Nat} {st : List UInt8} {a b : UInt8} {t : List UInt8} (h : s.drop i = a :: b :: t) (ha : isW a = false ∧ Lib.indexByte st a < 0) (hb : isW b = true ∨ ¬ Lib.indexByte st b < 0) : untilN s i st = i + 1 := by
  unfold untilN
  rw [h]
  have h1 : (!isW a && decide (Lib.indexByte st a < 0)) = true := by simp [ha]
  have h2 : (!isW b && decide (Lib.indexByte st b < 0)) = false := by
    rcases hb with hb | hb <;> simp [hb]
  simp [List.takeWhile_cons, h1, h2]
theorem skipN_at {s : List UInt8} {i : Nat} {a : UInt8} {t : List UInt8} (h : s.drop i = a :: t) (ha : isW a = false) : skipN s i = i := by
  unfold skipN
  rw [h]
  simp [List.takeWhile_cons, ha]
theorem name_at {s : List UInt8} {i : Nat} {a : UInt8} {t : List UInt8} (h : s.drop i = a :: t) : (s.take (i + 1)).drop i = [a] := by
  rw [List.drop_take, h]
  simp
theorem name_a : isNameS [97] = true := by kernel_rfl
theorem name_b : isNameS [98] = true := by kernel_rfl

theorem cdataS_no {s : List UInt8} {i : Nat} (h : Lib.hasPrefix (s.drop i) sCdata = false) : (cdataS s i).2.2 = false := by
  unfold cdataS
  rw [if_neg (by simp [h])]
theorem rowS_tag {s : List UInt8} {i : Nat} {b : UInt8} {t : List UInt8} (h : s.drop i = 60 :: b :: t) (hb : b ≠ 33) (top : Bool) : rowS top s i = .ok ([], false, i) := by
  have hc : (cdataS s i).2.2 = false := cdataS_no (by rw [h]; simp [Lib.hasPrefix, sCdata, List.isPrefixOf, Ne.symm hb])
  show rowL top s i [] false = _
  rw [rowL_step top [] false (drop_one h).1, if_neg (by simp [hc]), h, if_pos (by simp [Lib.indexByte])]
theorem pieceS_skip {s : List UInt8} {i : Nat} {b : UInt8} {t : List UInt8} (h : s.drop i = 60 :: b :: t) (h1 : b ≠ 33) (h2 : b ≠ 63) : (commentS s i).2.2 = false ∧ (instrS s i).2.2.2 = false := by
  constructor
  · unfold commentS
    rw [h, if_neg (by simp [Lib.hasPrefix, sCom, List.isPrefixOf, Ne.symm h1])]
  · unfold instrS
    rw [h, if_neg (by simp [Lib.hasPrefix, List.isPrefixOf, Ne.symm h2])]

theorem event_tag {s : List UInt8} {p : Pst} {b : UInt8} {t : List UInt8} (h : s.drop p.i = 60 :: b :: t) (h1 : b ≠ 33) (h2 : b ≠ 63) : eventS s p = match pieceS s p with
      | .error w => .error w
      | .ok (x, q) => .ok (some (x, p.i), q) := by
  have hd : ¬ (p.i = 0 ∧ declS s ≠ 0) := by
    rintro ⟨h0, hd⟩
    apply hd
    rw [h0, List.drop_zero] at h
    unfold declS
    rw [h, if_neg]
    simp [Lib.hasPrefix, sXml, List.isPrefixOf, Ne.symm h2]
  unfold eventS
  rw [if_neg hd]
  show eventL s p = _
  rw [eventL_step, if_pos (drop_one h).1, rowS_tag h h1]
  simp only [Bool.false_eq_true, if_false]
  cases pieceS s p <;> rfl

theorem event_open {s : List UInt8} {p : Pst} {t : List UInt8} (h : s.drop p.i = 60 :: 97 :: 62 :: t) (hp : p.opens = [] → p.any = false) :
    eventS s p = if 200 ≤ p.opens.length then .error ⟨p.i, 2⟩ else .ok (some (⟨0, [97], [], [], 0, 0⟩, p.i), { p with i := p.i + 3, any := true, opens := p.opens ++ [[97]] }) := by
  have hk := pieceS_skip h (by decide) (by decide)
  rw [event_tag h (by decide) (by decide)]
  unfold pieceS
  have d1 := (drop_one h).2.1
  have d2 := (drop_one d1).2.1
  have he : (endS s p.i).2.2 = false := by
    unfold endS
    rw [h, if_neg (by simp [Lib.hasPrefix, List.isPrefixOf])]
  have hu : untilN s (p.i + 1) [47, 62] = p.i + 2 := untilN_at d1 (by decide) (by decide)
  have hn := name_at d1
  have hs : startS s p.i = some ⟨[97], [], false, p.i + 3⟩ := by
    unfold startS
    simp only [hu, hn]
    rw [if_pos name_a]
    simp only [tagF, skipN_at d2 (by decide), d2]
    rw [if_pos (by simp [Lib.hasPrefix, List.isPrefixOf])]
    rfl
  simp only [hk.1, hk.2, he, hs, Bool.false_eq_true, if_false, pieceS.EvK]
  rw [if_neg (by rintro ⟨ha, hb⟩; rw [hp ha] at hb; cases hb)]
  simp only [twiceF, Bool.false_eq_true, if_false]
  by_cases h200 : 200 ≤ p.opens.length <;> simp only [h200, if_true, if_false]
theorem event_empty {s : List UInt8} {p : Pst} {t : List UInt8} (h : s.drop p.i = 60 :: 98 :: 47 :: 62 :: t) (hp : p.opens = [] → p.any = false) :
    eventS s p = if 200 ≤ p.opens.length then .error ⟨p.i, 2⟩ else .ok (some (⟨0, [98], [], [], 0, 0⟩, p.i), { p with i := p.i + 4, any := true, empty := some ⟨1, [98], [], [], 0, 0⟩ }) := by
  have hk := pieceS_skip h (by decide) (by decide)
  rw [event_tag h (by decide) (by decide)]
  unfold pieceS
  have d1 := (drop_one h).2.1
  have d2 := (drop_one d1).2.1
  have he : (endS s p.i).2.2 = false := by
    unfold endS
    rw [h, if_neg (by simp [Lib.hasPrefix, List.isPrefixOf])]
  have hu : untilN s (p.i + 1) [47, 62] = p.i + 2 := untilN_at d1 (by decide) (by decide)
  have hn := name_at d1
  have hs : startS s p.i = some ⟨[98], [], true, p.i + 4⟩ := by
    unfold startS
    simp only [hu, hn]
    rw [if_pos name_b]
    simp only [tagF, skipN_at d2 (by decide), d2]
    rw [if_neg (by simp [Lib.hasPrefix, List.isPrefixOf]), if_pos (by simp [Lib.hasPrefix, List.isPrefixOf])]
    rfl
  simp only [hk.1, hk.2, he, hs, Bool.false_eq_true, if_false, pieceS.EvK]
  rw [if_neg (by rintro ⟨ha, hb⟩; rw [hp ha] at hb; cases hb)]
  simp only [twiceF, Bool.false_eq_true, if_false]
  by_cases h200 : 200 ≤ p.opens.length <;> simp only [h200, if_true, if_false]
theorem event_close {s : List UInt8} {p : Pst} {t : List UInt8} {o : List (List UInt8)} (h : s.drop p.i = 60 :: 47 :: 97 :: 62 :: t) (hp : p.opens = o ++ [[97]]) :
    eventS s p = .ok (some (⟨1, [97], [], [], 0, 0⟩, p.i), { p with i := p.i + 4, opens := o }) := by
  have hk := pieceS_skip h (by decide) (by decide)
  rw [event_tag h (by decide) (by decide)]
  unfold pieceS
  have d1 := (drop_one h).2.1
  have d2 := (drop_one d1).2.1
  have d3 := (drop_one d2).2.1
  have hu : untilN s (p.i + 2) [62] = p.i + 3 := untilN_at d2 (by decide) (by decide)
  have hn := name_at d2
  have he : endS s p.i = ([97], p.i + 4, true) := by
    unfold endS
    rw [if_pos (by rw [h]; simp [Lib.hasPrefix, List.isPrefixOf])]
    simp only [hu, hn, skipN_at d3 (by decide), d3, name_a]
    simp [Lib.hasPrefix, List.isPrefixOf]
  simp only [hk.1, hk.2, he, Bool.false_eq_true, if_false, if_true, hp, pieceS.EvK]
  simp

/-- Bytes of one character each, without line ends. -/
def Flat (s : List UInt8) : Prop := ∀ c ∈ s, c.toNat < 128 ∧ c ≠ 10 ∧ c ≠ 13 ∧ isCharS c.toNat = true
theorem step1_flat {s : List UInt8} (hf : Flat s) {x : Pos} (hx : x.1 < s.length) : step1 s x = (x.1 + 1, x.2.1, x.2.2 + 1) := by
  have hm := hf s[x.1] (List.getElem_mem hx)
  unfold step1
  rw [List.drop_eq_getElem_cons hx, dec_ascii hm.1]
  simp only
  rw [if_neg]
  intro h
  exact hm.2.1 (UInt8.toNat_inj.1 h)
theorem findF_flat {s : List UInt8} (hf : Flat s) {at_ : Nat} (ha : at_ ≤ s.length) : ∀ (f : Nat) (x : Pos), at_ - x.1 ≤ f → x.1 ≤ at_ → findF s at_ f x = (at_, x.2.1, x.2.2 + (at_ - x.1))
  | 0, x, h, h2 => by
    obtain ⟨a, b, c⟩ := x
    simp only [findF] at *
    have : a = at_ := by omega
    subst this
    simp
  | f + 1, x, h, h2 => by
    simp only [findF]
    split
    · rename_i hl
      rw [step1_flat hf (by omega), findF_flat hf ha f _ (by simp only; omega) (by simp only; omega)]
      simp only [Prod.mk.injEq, true_and]
      omega
    · obtain ⟨a, b, c⟩ := x
      simp only at *
      have : a = at_ := by omega
      subst this
      simp
theorem findS_flat {s : List UInt8} (hf : Flat s) {at_ : Nat} (ha : at_ ≤ s.length) {x : Pos} (h : x.1 ≤ at_) : findS s at_ x = (at_, x.2.1, x.2.2 + (at_ - x.1)) := findF_flat hf ha _ x (Nat.le_refl _) h

theorem isTextS_flat : ∀ (s : List UInt8), Flat s → isTextS s = true
  | [], _ => rfl
  | b :: l, h => by
    have hb := h b (by simp)
    rw [isTextS_ascii l hb.1, hb.2.2.2, isTextS_flat l fun c hc => h c (by simp [hc])]
    rfl
theorem linesS_flat {s : List UInt8} (h : Flat s) : linesS s = s := by
  rw [linesS_ends]
  exact endsS_plain s fun c hc => (h c hc).2.2.1

/-- The parser at a place of such a text. -/
def flatPar (i : Nat) (o : List (List UInt8)) (any : Bool) (z : Option Ev) : Par := ⟨⟨i, o, any, z⟩, (i, 1, i + 1), (i, 1, i + 1), 0⟩
theorem next_flat {s : List UInt8} (hf : Flat s) {i j : Nat} {o o2 : List (List UInt8)} {any any2 : Bool} {z : Option Ev} {x : Ev} (hij : i ≤ j) (hj : j ≤ s.length)
    (h : eventS s ⟨i, o, any, none⟩ = .ok (some (x, i), ⟨j, o2, any2, z⟩)) : nextS s (flatPar i o any none) = (({ x with line := 1, col := i + 1 }, true, 0), flatPar j o2 any2 (z.map fun z => { z with line := 1, col := i + 1 })) := by
  unfold nextS flatPar
  simp only [ne_eq, not_true_eq_false, if_false, h]
  have a1 : findS s i (i, 1, i + 1) = (i, 1, i + 1) := by
    have := findS_flat hf (at_ := i) (x := (i, 1, i + 1)) (by omega) (Nat.le_refl _)
    simpa using this
  have a2 : findS s j (i, 1, i + 1) = (j, 1, j + 1) := by
    have := findS_flat hf (at_ := j) (x := (i, 1, i + 1)) hj hij
    rw [this]
    simp only [Prod.mk.injEq, true_and]
    omega
  rw [a1, a2]
theorem all_next {s : List UInt8} {q q' : Par} {x : Ev} (hi : q.p.i ≤ s.length) (h : nextS s q = ((x, true, 0), q')) (l : List Ev) : allL s q l = allL s q' (l ++ [x]) := by
  rw [allL_step l hi, h]
  simp
theorem all_empty {s : List UInt8} {i : Nat} {o : List (List UInt8)} {any : Bool} {z : Ev} (hi : i ≤ s.length) (l : List Ev) : allL s (flatPar i o any (some z)) l = allL s (flatPar i o any none) (l ++ [z]) := all_next hi rfl l
theorem all_wrong {s : List UInt8} (hf : Flat s) {i : Nat} {o : List (List UInt8)} {any : Bool} {e : Nat} (hi : i ≤ s.length) (he : e ≠ 0) (h : eventS s ⟨i, o, any, none⟩ = .error ⟨i, e⟩) (l : List Ev) : allL s (flatPar i o any none) l = ([], 1, i + 1, e) := by
  have : nextS s (flatPar i o any none) = ((noEv, false, e), { flatPar i o any none with e := e }) := by
    unfold nextS flatPar
    simp only [ne_eq, not_true_eq_false, if_false, h]
    rw [findS_flat hf (by simpa using hi) (by simp)]
    simp
  rw [allL_step l hi, this]
  simp [he, flatPar]
theorem all_done {s : List UInt8} (hf : Flat s) {i : Nat} (h0 : i ≠ 0) (hi : i = s.length) (l : List Ev) : allL s (flatPar i [] true none) l = (l, 0, 0, 0) := by
  have h : eventS s ⟨i, [], true, none⟩ = .ok (none, ⟨i, [], true, none⟩) := by
    unfold eventS
    rw [if_neg (by simp [h0])]
    show eventL s _ = _
    rw [eventL_step, if_neg (by simp only; omega), if_neg (by simp)]
  have : nextS s (flatPar i [] true none) = ((noEv, false, 0), flatPar i [] true none) := by
    unfold nextS flatPar
    simp only [ne_eq, not_true_eq_false, if_false, h]
    rw [findS_flat hf (by omega) (by simp)]
    simp
  rw [allL_step l (by simp [flatPar, hi]), this]
  simp

theorem repeatL_drop (l r : List UInt8) : ∀ (k n : Nat), k ≤ n → (Lib.repeatL l n ++ r).drop (k * l.length) = Lib.repeatL l (n - k) ++ r
  | 0, n, _ => by simp
  | k + 1, 0, h => absurd h (by omega)
  | k + 1, n + 1, h => by
    have := repeatL_drop l r k n (by omega)
    rw [show (k + 1) * l.length = l.length + k * l.length by rw [Nat.add_mul]; omega, ← List.drop_drop]
    simp only [Lib.repeatL, List.append_assoc]
    rw [List.drop_left, this]
    congr 2
    omega
theorem repeatL_succ (l : List UInt8) (n : Nat) (h : 0 < n) : Lib.repeatL l n = l ++ Lib.repeatL l (n - 1) := by
  cases n with
  | zero => cases h
  | succ n => rfl
theorem repeatL_len2 (l : List UInt8) : ∀ n, (Lib.repeatL l n).length = n * l.length
  | 0 => by simp [Lib.repeatL]
  | n + 1 => by
    simp only [Lib.repeatL, List.length_append, repeatL_len2 l n, Nat.add_mul]
    omega
theorem repeatL_mem {l : List UInt8} {c : UInt8} : ∀ {n : Nat}, c ∈ Lib.repeatL l n → c ∈ l
  | 0, h => by simp [Lib.repeatL] at h
  | n + 1, h => by
    simp only [Lib.repeatL, List.mem_append] at h
    rcases h with h | h
    · exact h
    · exact repeatL_mem h

theorem flat_open : Flat [60, 97, 62] := by unfold Flat; decide
theorem flat_close : Flat [60, 47, 97, 62] := by unfold Flat; decide
theorem flat_empty : Flat [60, 98, 47, 62] := by unfold Flat; decide

/-- Elements in one another. -/
def deepT (n : Nat) (mid : List UInt8) : List UInt8 := Lib.repeatL [60, 97, 62] n ++ (mid ++ Lib.repeatL [60, 47, 97, 62] n)
theorem deep_flat (n : Nat) {mid : List UInt8} (hm : Flat mid) : Flat (deepT n mid) := by
  intro c hc
  simp only [deepT, List.mem_append] at hc
  rcases hc with hc | hc | hc
  · exact flat_open c (repeatL_mem hc)
  · exact hm c hc
  · exact flat_close c (repeatL_mem hc)
theorem deep_len (n : Nat) (mid : List UInt8) : (deepT n mid).length = n * 3 + mid.length + n * 4 := by
  simp only [deepT, List.length_append, repeatL_len2, List.length_cons, List.length_nil]
  omega
theorem deep_opens {n : Nat} {mid : List UInt8} (hm : Flat mid) : ∀ (k : Nat), k ≤ n → k ≤ 200 → ∃ l, allL (deepT n mid) par0 [] = allL (deepT n mid) (flatPar (k * 3) (List.replicate k [97]) (decide (0 < k)) none) l
  | 0, _, _ => ⟨[], rfl⟩
  | k + 1, h, h2 => by
    obtain ⟨l, hl⟩ := deep_opens (n := n) hm k (by omega) (by omega)
    have hd : (deepT n mid).drop (k * 3) = 60 :: 97 :: 62 :: (Lib.repeatL [60, 97, 62] (n - k - 1) ++ (mid ++ Lib.repeatL [60, 47, 97, 62] n)) := by
      have := repeatL_drop [60, 97, 62] (mid ++ Lib.repeatL [60, 47, 97, 62] n) k n (by omega)
      rw [repeatL_succ _ (n - k) (by omega)] at this
      exact this
    have hlen := deep_len n mid
    have he := event_open (s := deepT n mid) (p := ⟨k * 3, List.replicate k [97], decide (0 < k), none⟩) hd (fun ho => by
      have : k = 0 := by simpa using congrArg List.length ho
      simp [this])
    rw [if_neg (by simp; omega)] at he
    dsimp only at he
    have hx := next_flat (deep_flat n hm) (by omega) (by omega) he
    refine ⟨l ++ [⟨0, [97], [], [], 1, k * 3 + 1⟩], hl.trans ((all_next (by simp only [flatPar]; omega) hx l).trans ?_)⟩
    rw [show (k + 1) * 3 = k * 3 + 3 by omega, List.replicate_succ', show decide (0 < k + 1) = true by simp]
    rfl
theorem deep_closes {n : Nat} {mid : List UInt8} (hm : Flat mid) (hn : 0 < n) : ∀ (k : Nat), k ≤ n → ∀ l, ∃ l', allL (deepT n mid) (flatPar (n * 3 + mid.length + (n - k) * 4) (List.replicate k [97]) true none) l = (l', 0, 0, 0)
  | 0, _, l => ⟨l, all_done (deep_flat n hm) (by omega) (by rw [deep_len]; omega) l⟩
  | k + 1, h, l => by
    have hd : (deepT n mid).drop (n * 3 + mid.length + (n - (k + 1)) * 4) = 60 :: 47 :: 97 :: 62 :: Lib.repeatL [60, 47, 97, 62] k := by
      unfold deepT
      rw [← List.append_assoc, show n * 3 + mid.length + (n - (k + 1)) * 4 = (Lib.repeatL [60, 97, 62] n ++ mid).length + (n - (k + 1)) * 4 by simp [repeatL_len2], ← List.drop_drop, List.drop_left]
      have := repeatL_drop [60, 47, 97, 62] [] (n - (k + 1)) n (by omega)
      simp only [List.append_nil, List.length_cons, List.length_nil] at this
      rw [this, show n - (n - (k + 1)) = k + 1 by omega]
      rfl
    have hlen := deep_len n mid
    have he := event_close (s := deepT n mid) (p := ⟨n * 3 + mid.length + (n - (k + 1)) * 4, List.replicate (k + 1) [97], true, none⟩) (o := List.replicate k [97]) hd (by rw [List.replicate_succ'])
    dsimp only at he
    have hx := next_flat (deep_flat n hm) (by omega) (by omega) he
    have ha := all_next (s := deepT n mid) (by simp only [flatPar]; omega) hx l
    obtain ⟨l', hl'⟩ := deep_closes hm hn k (by omega) (l ++ [⟨1, [97], [], [], 1, n * 3 + mid.length + (n - (k + 1)) * 4 + 1⟩])
    refine ⟨l', ha.trans ?_⟩
    rw [← hl', show n * 3 + mid.length + (n - (k + 1)) * 4 + 4 = n * 3 + mid.length + (n - k) * 4 by omega]
    rfl

def deepMid (empty : Bool) : List UInt8 := if empty = true then [60, 98, 47, 62] else []
theorem deepMid_flat (empty : Bool) : Flat (deepMid empty) := by
  cases empty
  · intro c hc
    simp [deepMid] at hc
  · exact flat_empty
theorem deep_head {n : Nat} {mid : List UInt8} (hm : Flat mid) (hl : (deepT n mid).length ≤ 1048576) : all2S (deepT n mid) = allL (deepT n mid) par0 [] := by
  have hf := deep_flat n hm
  have h0 : newErr (deepT n mid) = 0 := by
    unfold newErr
    rw [if_neg (by omega), if_pos (isTextS_flat _ hf)]
  unfold all2S
  rw [if_pos h0, linesS_flat hf]

theorem deep_law (n : Nat) (empty : Bool) (h1 : 1 ≤ n) (h2 : n ≤ 210) :
    if 200 < n ∨ (n = 200 ∧ empty = true) then all2S (deepT n (deepMid empty)) = ([], 1, 601, 2) else ∃ l, all2S (deepT n (deepMid empty)) = (l, 0, 0, 0) := by
  have hm := deepMid_flat empty
  have hlen := deep_len n (deepMid empty)
  have hml : (deepMid empty).length ≤ 4 := by cases empty <;> decide
  rw [deep_head hm (by omega)]
  obtain ⟨l, hl⟩ := deep_opens (n := n) hm (min n 200) (by omega) (by omega)
  rw [hl]
  split
  · rename_i hc
    have hk : min n 200 = 200 := by omega
    have hkn : min n 200 ≤ n := Nat.min_le_left _ _
    generalize min n 200 = k at hk hkn hl ⊢
    have e601 : 601 = k * 3 + 1 := by omega
    rw [e601]
    refine all_wrong (deep_flat n hm) (by omega) (by decide) ?_ l
    have hop : (List.replicate k ([97] : List UInt8)).length = k := List.length_replicate
    have hnil : List.replicate k ([97] : List UInt8) = [] → decide (0 < k) = false := fun ho => by
      rw [ho] at hop
      simp at hop
      omega
    by_cases hn : 200 < n
    · have hd : (deepT n (deepMid empty)).drop (k * 3) = 60 :: 97 :: 62 :: (Lib.repeatL [60, 97, 62] (n - k - 1) ++ (deepMid empty ++ Lib.repeatL [60, 47, 97, 62] n)) := by
        have := repeatL_drop [60, 97, 62] (deepMid empty ++ Lib.repeatL [60, 47, 97, 62] n) k n hkn
        rw [repeatL_succ _ (n - k) (by omega)] at this
        exact this
      rw [event_open (p := ⟨k * 3, List.replicate k [97], decide (0 < k), none⟩) hd hnil, if_pos (by dsimp only; omega)]
    · rcases hc with hc | ⟨hc, he⟩
      · exact absurd hc hn
      subst he
      have hkn2 : n - k = 0 := by omega
      have hd : (deepT n (deepMid true)).drop (k * 3) = 60 :: 98 :: 47 :: 62 :: Lib.repeatL [60, 47, 97, 62] n := by
        have := repeatL_drop [60, 97, 62] (deepMid true ++ Lib.repeatL [60, 47, 97, 62] n) k n hkn
        rw [hkn2] at this
        exact this
      rw [event_empty (p := ⟨k * 3, List.replicate k [97], decide (0 < k), none⟩) hd hnil, if_pos (by dsimp only; omega)]
  · rename_i hc
    have hk : min n 200 = n := by omega
    rw [hk] at hl ⊢
    have ha : decide (0 < n) = true := by simp; omega
    rw [ha]
    cases empty with
    | false =>
      have := deep_closes hm h1 n (Nat.le_refl _) l
      simpa [deepMid] using this
    | true =>
      have hn : n < 200 := by
        rcases Nat.lt_or_ge n 200 with h | h
        · exact h
        · exact absurd (by rcases Nat.eq_or_lt_of_le h with h | h; exact .inr ⟨h.symm, rfl⟩; exact .inl h) hc
      have hd : (deepT n (deepMid true)).drop (n * 3) = 60 :: 98 :: 47 :: 62 :: Lib.repeatL [60, 47, 97, 62] n := by
        have := repeatL_drop [60, 97, 62] (deepMid true ++ Lib.repeatL [60, 47, 97, 62] n) n n (by omega)
        simp only [Nat.sub_self] at this
        exact this
      have hml2 : (deepMid true).length = 4 := rfl
      have he := event_empty (s := deepT n (deepMid true)) (p := ⟨n * 3, List.replicate n [97], true, none⟩) hd (fun ho => by
        have : n = 0 := by simpa using congrArg List.length ho
        omega)
      rw [if_neg (by simp; omega)] at he
      dsimp only at he
      have hx := next_flat (deep_flat n hm) (by omega) (by omega) he
      rw [all_next (by simp only [flatPar]; omega) hx l, Option.map_some, all_empty (by omega)]
      have := deep_closes hm h1 n (Nat.le_refl _)
      simp only [Nat.sub_self, Nat.zero_mul, Nat.add_zero, hml2] at this
      exact this _

/-- A long text in one element. -/
def longT (m : Nat) : List UInt8 := 60 :: 97 :: 62 :: (List.replicate m 120 ++ [60, 47, 97, 62])
theorem long_len (m : Nat) : (longT m).length = m + 7 := by simp [longT]
theorem long_flat (m : Nat) : Flat (longT m) := by
  intro c hc
  simp only [longT, List.mem_cons, List.mem_append, List.mem_replicate] at hc
  rcases hc with rfl | rfl | rfl | ⟨_, rfl⟩ | rfl | rfl | rfl | rfl | hc
  all_goals first | (cases hc; done) | decide
theorem long_drop (m k : Nat) (h : k ≤ m) : (longT m).drop (3 + k) = List.replicate (m - k) 120 ++ [60, 47, 97, 62] := by
  unfold longT
  rw [Nat.add_comm]
  simp only [List.drop_succ_cons]
  rw [List.drop_append_of_le_length (by simpa using h), List.drop_replicate]
theorem indexByte_rep (t : List UInt8) : ∀ m : Nat, Lib.indexByte (List.replicate m 120 ++ 60 :: t) 60 = m
  | 0 => by simp [Lib.indexByte]
  | m + 1 => by
    have := indexByte_rep t m
    simp only [List.replicate_succ, List.cons_append, Lib.indexByte, this]
    have e : ((m : Int) == -1) = false := by rw [beq_eq_false_iff_ne]; omega
    simp [e]
theorem ptext_rep (s : List UInt8) (e : Nat) (he : e = s.length) : ∀ (m i : Nat) (acc : List UInt8), s.drop i = List.replicate m 120 → i + m = e → ptextS false s i acc = .ok (acc ++ List.replicate m 120)
  | 0, i, acc, hd, hi => by
    rw [ptextS_end false acc (by omega)]
    simp
  | m + 1, i, acc, hd, hi => by
    rw [List.replicate_succ] at hd
    have h1 := drop_one hd
    have ha : dec (120 :: List.replicate m (120 : UInt8)) = (120, 1) := dec_ascii (by decide)
    rw [ptextS_step false acc h1.1, hd, ha]
    simp only [Bool.false_eq_true, if_false]
    rw [if_neg (by decide), if_neg (by simp [Lib.hasPrefix, sCend, List.isPrefixOf]), name_at hd, ptext_rep s e he m (i + 1) _ h1.2.1 (by omega)]
    simp [List.replicate_succ]
theorem long_law (m : Nat) (h1 : 1 ≤ m) (h2 : m + 7 ≤ 1048576) : ∃ l, all2S (longT m) = (l, 0, 0, 0) := by
  have hf := long_flat m
  have hlen := long_len m
  have h0 : newErr (longT m) = 0 := by
    unfold newErr
    rw [if_neg (by omega), if_pos (isTextS_flat _ hf)]
  unfold all2S
  rw [if_pos h0, linesS_flat hf]
  have e1 := event_open (s := longT m) (p := ⟨0, [], false, none⟩) (t := List.replicate m 120 ++ [60, 47, 97, 62]) rfl (fun _ => rfl)
  rw [if_neg (by simp)] at e1
  dsimp only at e1
  have x1 := next_flat hf (by omega) (by omega) e1
  have s1 : allL (longT m) par0 [] = _ := all_next (s := longT m) (q := flatPar 0 [] false none) (by simp [flatPar]) x1 []
  rw [s1]
  have d3 := long_drop m 0 (by omega)
  have dm := long_drop m m (Nat.le_refl _)
  simp only [Nat.add_zero, Nat.sub_zero, Nat.sub_self, List.replicate_zero, List.nil_append] at d3 dm
  obtain ⟨m', rfl⟩ : ∃ k, m = k + 1 := ⟨m - 1, by omega⟩
  have d3' : (longT (m' + 1)).drop 3 = 120 :: (List.replicate m' 120 ++ [60, 47, 97, 62]) := by rw [d3, List.replicate_succ]; rfl
  have hi := (drop_one d3').1
  have hix := indexByte_rep [47, 97, 62] (m' + 1)
  rw [← d3] at hix
  have hre : rowEnd (longT (m' + 1)) 3 = 3 + (m' + 1) := by
    unfold rowEnd
    rw [hix, if_pos (by omega)]
    omega
  have htd : ((longT (m' + 1)).take (3 + (m' + 1))).drop 3 = List.replicate (m' + 1) 120 := by
    rw [List.drop_take, d3]
    simp
  have hr : rowS false (longT (m' + 1)) 3 = .ok (List.replicate (m' + 1) 120, true, 3 + (m' + 1)) := by
    show rowL false _ 3 [] false = _
    rw [rowL_step false [] false hi, if_neg (by rw [cdataS_no (by rw [d3']; simp [Lib.hasPrefix, sCdata, List.isPrefixOf])]; simp), if_neg (by rw [hix]; omega), hre,
      ptext_rep _ (3 + (m' + 1)) (by rw [List.length_take, hlen]; omega) (m' + 1) 3 [] htd rfl]
    simp only [List.nil_append]
    rw [rowL_step false _ true (by omega), if_neg (by rw [cdataS_no (by rw [dm]; simp [Lib.hasPrefix, sCdata, List.isPrefixOf])]; simp), dm, if_pos (by simp [Lib.indexByte])]
  have e2 : eventS (longT (m' + 1)) ⟨3, [[97]], true, none⟩ = .ok (some (⟨2, [], List.replicate (m' + 1) 120, [], 0, 0⟩, 3), ⟨3 + (m' + 1), [[97]], true, none⟩) := by
    unfold eventS
    rw [if_neg (by simp)]
    show eventL _ _ = _
    rw [eventL_step, if_pos (by simpa using hi)]
    have : ((([[97]] : List (List UInt8)) == []) : Bool) = false := rfl
    simp only [this, hr, if_true]
    rw [if_neg (by simp)]
  have x2 := next_flat hf (by omega) (by omega) e2
  have s2 := all_next (s := longT (m' + 1)) (by simp only [flatPar]; omega) x2 ([] ++ [{ (⟨0, [97], [], [], 0, 0⟩ : Ev) with line := 1, col := 0 + 1 }])
  refine Exists.imp (fun l hl => s2.trans hl) ?_
  have e3 := event_close (s := longT (m' + 1)) (p := ⟨3 + (m' + 1), [[97]], true, none⟩) (o := []) dm rfl
  dsimp only at e3
  have x3 := next_flat hf (by omega) (by omega) e3
  have s3 := all_next (s := longT (m' + 1)) (by simp only [flatPar]; omega) x3
  refine ⟨_, (s3 _).trans (all_done hf (by omega) (by omega) _)⟩
theorem long_wrong (m : Nat) (h : 1048576 < m + 7) : all2S (longT m) = ([], 0, 0, 2) := by
  have : newErr (longT m) = 2 := by
    unfold newErr
    rw [if_pos (by rw [long_len]; exact h)]
  unfold all2S
  rw [this]
  rfl
end Go.Ab
