/- In the events of a document tags match: the plain law. -/
import Derived.Test.YtebgjmoihhbjjaaGreatDoorW25
set_option linter.all false
namespace Go.Ab
open Go Go.Lib Go.Proofs

def lexLe (a b : Nat × Nat) : Prop := a.1 < b.1 ∨ a.1 = b.1 ∧ a.2 ≤ b.2
theorem lexLe.refl (a : Nat × Nat) : lexLe a a := .inr ⟨rfl, Nat.le_refl _⟩
theorem lexLe.trans {a b c : Nat × Nat} (h : lexLe a b) (h' : lexLe b c) : lexLe a c := by
  unfold lexLe at *
  omega

theorem step1_lex (s : List UInt8) (x : Pos) : lexLe x.2 (step1 s x).2 ∧ (1 ≤ x.2.1 ∧ 1 ≤ x.2.2 → 1 ≤ (step1 s x).2.1 ∧ 1 ≤ (step1 s x).2.2) := by
  unfold step1 lexLe
  simp only
  split
  · exact ⟨.inl (Nat.lt_succ_self _), fun h => ⟨Nat.le_succ_of_le h.1, Nat.le_refl _⟩⟩
  · exact ⟨.inr ⟨rfl, Nat.le_succ _⟩, fun h => ⟨h.1, Nat.le_succ_of_le h.2⟩⟩
theorem findF_lex (s : List UInt8) (at_ : Nat) : ∀ (f : Nat) (x : Pos), lexLe x.2 (findF s at_ f x).2 ∧ (1 ≤ x.2.1 ∧ 1 ≤ x.2.2 → 1 ≤ (findF s at_ f x).2.1 ∧ 1 ≤ (findF s at_ f x).2.2)
  | 0, x => ⟨lexLe.refl _, id⟩
  | f + 1, x => by
    simp only [findF]
    split
    · have h1 := step1_lex s x
      have h2 := findF_lex s at_ f (step1 s x)
      exact ⟨h1.1.trans h2.1, fun h => h2.2 (h1.2 h)⟩
    · exact ⟨lexLe.refl _, id⟩
theorem findS_lex (s : List UInt8) (at_ : Nat) (x : Pos) : lexLe x.2 (findS s at_ x).2 ∧ (1 ≤ x.2.1 ∧ 1 ≤ x.2.2 → 1 ≤ (findS s at_ x).2.1 ∧ 1 ≤ (findS s at_ x).2.2) := findF_lex s at_ _ x

/-- Neither text nor character data begins here. -/
def NoRow (s : List UInt8) (i : Nat) : Prop := i < s.length → ∀ top, rowS top s i = .ok ([], false, i)

theorem rowL_noRow {s : List UInt8} {i : Nat} {acc : List UInt8} {is top : Bool} (h : (cdataS s i).2.2 = false) (h0 : Lib.indexByte (s.drop i) 60 = 0) (hi : i < s.length) : rowL top s i acc is = .ok (acc, is, i) := by
  rw [rowL_step top acc is hi, if_neg (by simp [h]), if_pos h0]
theorem rowF_end {s : List UInt8} {top : Bool} : ∀ (f i : Nat) (acc : List UInt8) (is : Bool) (x), s.length - i ≤ f → i ≤ s.length → rowF f top s i acc is = .ok x → NoRow s x.2.2
  | 0, i, acc, is, x, hf, hi, h => by
    simp only [rowF, Except.ok.injEq] at h
    subst h
    intro h
    simp only at h
    omega
  | f + 1, i, acc, is, x, hf, hi, h => by
    simp only [rowF] at h
    split at h
    case isFalse hl => cases h; intro h; simp only at h; omega
    rename_i hl
    split at h
    · rename_i hc
      have := cdataS_bound hc
      split at h
      · cases h
      · exact rowF_end f _ _ _ _ (by omega) (by omega) h
    rename_i hc
    split at h
    · rename_i h0
      cases h
      intro _ top
      exact rowL_noRow (by simpa using hc) h0 hl
    · have hb : i < rowEnd s i ∧ rowEnd s i ≤ s.length := rowEnd_bound hl
      change (match ptextS top (s.take (rowEnd s i)) i acc with | .error w => Except.error w | .ok acc' => rowF f top s (rowEnd s i) acc' true) = .ok x at h
      split at h
      · cases h
      · exact rowF_end f _ _ _ _ (by omega) (by omega) h
theorem rowS_end {s : List UInt8} {top : Bool} {i : Nat} {x} (hi : i ≤ s.length) (h : rowS top s i = .ok x) : NoRow s x.2.2 := rowF_end _ _ _ _ _ (Nat.le_refl _) hi h

theorem ptextF_top {s : List UInt8} : ∀ (f i : Nat) (acc x : List UInt8), ptextF f true s i acc = .ok x → x = acc
  | 0, i, acc, x, h => by simpa [ptextF] using h.symm
  | f + 1, i, acc, x, h => by
    simp only [ptextF] at h
    split at h
    · simp only [if_true] at h
      split at h
      · exact ptextF_top f _ _ _ h
      · cases h
    · cases h; rfl
theorem rowF_top {s : List UInt8} : ∀ (f i : Nat) (acc : List UInt8) (is : Bool) (x), rowF f true s i acc is = .ok x → x.1 = acc
  | 0, i, acc, is, x, h => by
    simp only [rowF, Except.ok.injEq] at h
    subst h
    rfl
  | f + 1, i, acc, is, x, h => by
    simp only [rowF] at h
    split at h
    case isFalse => cases h; rfl
    split at h
    · simp at h
    split at h
    · cases h; rfl
    · split at h
      · cases h
      · rename_i acc' ha
        have h1 := rowF_top f _ _ _ _ h
        have h2 : acc' = acc := ptextF_top _ _ _ _ ha
        rw [h1, h2]

/-- The names of the open elements, that of an empty one among them. -/
def openP (p : Pst) : List (List UInt8) := match p.empty with | none => p.opens | some z => p.opens ++ [z.name]

/-- What an event is, and what comes of it. -/
structure EvIs (s : List UInt8) (p : Pst) (x : Ev) (p2 : Pst) : Prop where
  start : x.kind = 0 → openP p2 = p.opens ++ [x.name] ∧ p2.any = true ∧ ∀ z, p2.empty = some z → z.kind = 1
  fin : x.kind = 1 → p.opens.getLast? = some x.name ∧ openP p2 = p.opens.dropLast
  text : x.kind = 2 → p.opens ≠ [] ∧ x.text ≠ [] ∧ ¬ (0 < p.i ∧ NoRow s p.i) ∧ NoRow s p2.i
  other : 1 < x.kind → openP p2 = p.opens
  rest : x.kind ≠ 0 → p2.any = p.any ∧ p2.empty = none
  kind : x.kind ≤ 4

theorem pieceS_is {s : List UInt8} {p p2 : Pst} {x : Ev} (he : p.empty = none) (h : pieceS s p = .ok (x, p2)) : EvIs s p x p2 ∧ x.kind ≠ 2 := by
  unfold pieceS at h
  simp only [pieceS.EvK] at h
  split at h
  · cases h
    exact ⟨⟨by simp, by simp, by simp, fun _ => by simp [openP, he], fun _ => ⟨rfl, he⟩, by simp⟩, by simp⟩
  split at h
  · cases h
    exact ⟨⟨by simp, by simp, by simp, fun _ => by simp [openP, he], fun _ => ⟨rfl, he⟩, by simp⟩, by simp⟩
  split at h
  · split at h
    · rename_i hl
      cases h
      exact ⟨⟨by simp, fun _ => ⟨hl, by simp [openP, he]⟩, by simp, by simp, fun _ => ⟨rfl, he⟩, by simp⟩, by simp⟩
    · cases h
  split at h
  · cases h
  · rename_i t ht
    split at h
    · cases h
    split at h
    · cases h
    split at h
    · cases h
    cases h
    refine ⟨⟨fun _ => ?_, by simp, by simp, by simp, by simp, by simp⟩, by simp⟩
    split
    · refine ⟨by simp [openP], rfl, fun z hz => ?_⟩
      simp only [Option.some.injEq] at hz
      rw [← hz]
    · exact ⟨by simp [openP, he], rfl, fun z hz => by simp [he] at hz⟩

theorem eventF_is {s : List UInt8} : ∀ (f : Nat) (p : Pst) (x : Ev) (n : Nat) (p2 : Pst), p.i ≤ s.length → p.empty = none → eventF f s p = .ok (some (x, n), p2) → EvIs s p x p2
  | 0, p, x, n, p2, hi, he, h => by simp [eventF] at h
  | f + 1, p, x, n, p2, hi, he, h => by
    simp only [eventF] at h
    split at h
    case isFalse =>
      split at h
      · cases h
      · simp at h
    rename_i hl
    split at h
    · cases h
    rename_i row is j hr
    have hb := rowS_bound (Nat.le_of_lt hl) hr
    simp only at hb
    split at h
    · rename_i his
      subst his
      have hb2 := hb.2.2 rfl
      have hno : ¬ (0 < p.i ∧ NoRow s p.i) := fun hh => by
        have := hh.2 hl (p.opens == [])
        rw [hr] at this
        cases this
      split at h
      · have ih := eventF_is f { p with i := j } x n p2 hb.2.1 he h
        exact ⟨ih.start, ih.fin, fun hk => ⟨(ih.text hk).1, (ih.text hk).2.1, hno, (ih.text hk).2.2.2⟩, ih.other, ih.rest, ih.kind⟩
      · rename_i hrow
        cases h
        refine ⟨by simp, by simp, fun _ => ⟨fun ho => ?_, hrow, hno, rowS_end (Nat.le_of_lt hl) hr⟩, fun _ => by simp [openP, he], fun _ => ⟨rfl, he⟩, by simp⟩
        have ht : (p.opens == []) = true := by simp [ho]
        rw [ht] at hr
        exact hrow (rowF_top _ _ _ _ _ hr)
    · split at h
      · cases h
      · rename_i y q hp
        cases h
        exact (pieceS_is he hp).1

theorem eventS_is {s : List UInt8} {p : Pst} {x : Ev} {n : Nat} {p2 : Pst} (hi : p.i ≤ s.length) (he : p.empty = none) (h : eventS s p = .ok (some (x, n), p2)) : EvIs s p x p2 := by
  unfold eventS at h
  split at h
  · rename_i hd
    split at h
    · cases h
    · have hb := declS_bound (s := s) (by omega)
      have ih := eventF_is _ { p with i := (declS s).toNat } x n p2 hb he h
      exact ⟨ih.start, ih.fin, fun hk => ⟨(ih.text hk).1, (ih.text hk).2.1, fun hh => by have := hh.1; omega, (ih.text hk).2.2.2⟩, ih.other, ih.rest, ih.kind⟩
  · exact eventF_is _ p x n p2 hi he h

/-- At the end no element is open, and there was one. -/
theorem eventF_none {s : List UInt8} : ∀ (f : Nat) (p p2 : Pst), s.length - p.i < f → p.i ≤ s.length → eventF f s p = .ok (none, p2) → p.opens = [] ∧ p.any = true
  | 0, p, p2, hf, hi, h => absurd hf (by omega)
  | f + 1, p, p2, hf, hi, h => by
    simp only [eventF] at h
    split at h
    case isFalse =>
      split at h
      · cases h
      · rename_i hh
        simp only [ne_eq, not_or, Bool.not_eq_false, Classical.not_not] at hh
        exact hh
    rename_i hl
    split at h
    · cases h
    rename_i row is j hr
    have hb := rowS_bound (Nat.le_of_lt hl) hr
    simp only at hb
    split at h
    · rename_i his
      have hb2 := hb.2.2 his
      split at h
      · exact eventF_none f { p with i := j } p2 (by simp only; omega) (by simp only; omega) h
      · simp at h
    · split at h
      · cases h
      · simp at h
theorem eventS_none {s : List UInt8} {p p2 : Pst} (hi : p.i ≤ s.length) (h : eventS s p = .ok (none, p2)) : p.opens = [] ∧ p.any = true := by
  unfold eventS at h
  split at h
  · split at h
    · cases h
    · have hb := declS_bound (s := s) (by omega)
      have := eventF_none _ { p with i := (declS s).toNat } p2 (by simp only; omega) hb h
      exact this
  · exact eventF_none _ p p2 (by omega) hi h

/-- One event, by the law. -/
structure TagOk (o : List (List UInt8)) (prev : Option Ev) (x : Ev) (o' : List (List UInt8)) : Prop where
  start : x.kind = 0 → o' = o ++ [x.name]
  fin : x.kind = 1 → o.getLast? = some x.name ∧ o' = o.dropLast
  text : x.kind = 2 → o ≠ [] ∧ x.text ≠ [] ∧ ∀ p, prev = some p → p.kind ≠ 2
  other : 1 < x.kind → o' = o
  kind : x.kind ≤ 4
  pos : 1 ≤ x.line ∧ 1 ≤ x.col
  asc : ∀ p, prev = some p → lexLe (p.line, p.col) (x.line, x.col)
inductive TagsOk : List (List UInt8) → Option Ev → List Ev → Prop where
  | nil (prev) : TagsOk [] prev []
  | cons {o o' prev x xs} (h : TagOk o prev x o') (hs : TagsOk o' (some x) xs) : TagsOk o prev (x :: xs)

/-- What holds between events; k of them are behind. -/
structure TagInv (s : List UInt8) (q : Par) (pv : Option Ev) (k : Nat) : Prop where
  i : q.p.i ≤ s.length
  seen : 1 ≤ q.seen.2.1 ∧ 1 ≤ q.seen.2.2
  prev : ∀ p, pv = some p → lexLe (p.line, p.col) q.seen.2 ∧ (p.kind = 2 → 0 < q.p.i ∧ NoRow s q.p.i ∧ q.p.empty = none)
  empty : ∀ z, q.p.empty = some z → z.kind = 1 ∧ ∃ p, pv = some p ∧ z.line = p.line ∧ z.col = p.col ∧ 1 ≤ p.line ∧ 1 ≤ p.col
  any : q.p.any = true → 1 ≤ k ∧ (openP q.p = [] → 2 ≤ k)

theorem nextS_tag {s : List UInt8} {q : Par} {prev : Option Ev} {k : Nat} (I : TagInv s q prev k) (h : (nextS s q).1.2.1 = true) :
    TagOk (openP q.p) prev (nextS s q).1.1 (openP (nextS s q).2.p) ∧ TagInv s (nextS s q).2 (some (nextS s q).1.1) (k + 1) := by
  unfold nextS at h ⊢
  split at h
  · simp at h
  rename_i hq
  rw [if_neg hq]
  split at h
  · rename_i z hz
    obtain ⟨z1, p, hp, zl, zc, pl, pc⟩ := I.empty z hz
    have hpp := I.prev p hp
    have ho : openP q.p = q.p.opens ++ [z.name] := by simp [openP, hz]
    have ho2 : openP { q.p with empty := none } = q.p.opens := rfl
    show TagOk (openP q.p) prev z (openP { q.p with empty := none }) ∧ TagInv s { q with p := { q.p with empty := none } } (some z) (k + 1)
    rw [ho, ho2]
    refine ⟨⟨by simp [z1], fun _ => ⟨by simp, by simp⟩, by simp [z1], by simp [z1], by simp [z1], ⟨by omega, by omega⟩, fun p' hp' => ?_⟩, ⟨I.i, I.seen, fun p' hp' => ?_, by simp, fun ha => ?_⟩⟩
    · rw [hp] at hp'
      cases hp'
      rw [zl, zc]
      exact lexLe.refl _
    · cases hp'
      rw [zl, zc]
      exact ⟨hpp.1, by simp [z1]⟩
    · have := I.any ha
      exact ⟨by omega, fun _ => by omega⟩
  · rename_i hz
    split at h
    · simp at h
    · simp at h
    · rename_i x from_ p hp
      obtain ⟨a, b, c, d⟩ := eventS_bound I.i hp
      have hd := d _ rfl
      simp only at a b hd
      have is := eventS_is I.i hz hp
      have ho : openP q.p = q.p.opens := by simp [openP, hz]
      have l1 := findS_lex s from_ q.seen
      have l2 := findS_lex s p.i (findS s from_ q.seen)
      have hpos := l1.2 I.seen
      have hoe : openP { p with empty := p.empty.map fun z => { z with line := (findS s from_ q.seen).2.1, col := (findS s from_ q.seen).2.2 } } = openP p := by
        unfold openP
        cases p.empty <;> rfl
      simp only
      rw [hoe, ho]
      refine ⟨⟨fun hk => (is.start hk).1, is.fin, fun hk => ⟨(is.text hk).1, (is.text hk).2.1, fun p' hp' hk2 => ?_⟩, is.other, is.kind, hpos, fun p' hp' => (I.prev p' hp').1.trans l1.1⟩, ⟨b, l2.2 hpos, fun p' hp' => ?_, fun z hz2 => ?_, fun ha => ?_⟩⟩
      · have := (I.prev p' hp').2 hk2
        exact (is.text hk).2.2.1 ⟨this.1, this.2.1⟩
      · cases hp'
        refine ⟨l2.1, fun hk => ⟨by simp only; omega, (is.text hk).2.2.2, ?_⟩⟩
        simp only at hk ⊢
        rw [(is.rest (by omega)).2]
        rfl
      · simp only at hz2
        cases hpe : p.empty with
        | none => rw [hpe] at hz2; cases hz2
        | some z' =>
          rw [hpe] at hz2
          cases hz2
          have hk : x.kind = 0 := by
            rcases Nat.eq_zero_or_pos x.kind with h0 | h0
            · exact h0
            · have := (is.rest (by omega)).2
              rw [hpe] at this
              cases this
          exact ⟨(is.start hk).2.2 z' hpe, _, rfl, rfl, rfl, hpos⟩
      · simp only at ha
        refine ⟨by omega, fun hoo => ?_⟩
        rw [hoe] at hoo
        rcases Nat.eq_zero_or_pos x.kind with h0 | h0
        · rw [(is.start h0).1] at hoo
          simp at hoo
        · have := I.any (by rw [← (is.rest (by omega)).1]; exact ha)
          omega

theorem run_tags {s : List UInt8} {q q' : Par} {xs : List Ev} (hr : Run s q xs q') : ∀ {prev : Option Ev} {k : Nat}, TagInv s q prev k → (nextS s q').1.2.1 = false → (nextS s q').1.2.2 = 0 → TagsOk (openP q.p) prev xs ∧ 2 ≤ k + xs.length := by
  induction hr with
  | nil q =>
    intro prev k I h1 h2
    unfold nextS at h1 h2
    split at h1
    · rename_i hq
      rw [if_pos hq] at h2
      exact absurd h2 hq
    rename_i hq
    rw [if_neg hq] at h2
    split at h1
    · simp at h1
    rename_i hz
    split at h1
    · rename_i w hw
      simp only [hz, hw] at h2
      exfalso
      exact absurd h2 (eventS_ne hw)
    · rename_i p hp
      have := eventS_none I.i hp
      have ho : openP q.p = [] := by simp [openP, hz, this.1]
      rw [ho]
      exact ⟨.nil _, by have := (I.any this.2).2 ho; simpa using this⟩
    · simp at h1
  | cons h hr ih =>
    intro prev k I h1 h2
    obtain ⟨t, I2⟩ := nextS_tag I h
    obtain ⟨h3, h4⟩ := ih I2 h1 h2
    exact ⟨.cons t h3, by simp only [List.length_cons]; omega⟩

theorem par0_tag (s : List UInt8) : TagInv s par0 none 0 := ⟨Nat.zero_le _, ⟨by simp [par0], by simp [par0]⟩, by simp, by simp [par0], by simp [par0]⟩

/-- Lines and columns are counted from 1. -/
structure PosInv (q : Par) : Prop where
  seen : 1 ≤ q.seen.2.1 ∧ 1 ≤ q.seen.2.2
  last : 1 ≤ q.last.2.1 ∧ 1 ≤ q.last.2.2
theorem PosInv.next {s : List UInt8} {q : Par} (h : PosInv q) : PosInv (nextS s q).2 := by
  unfold nextS
  split
  · exact h
  split
  · exact ⟨h.seen, h.last⟩
  split
  · rename_i w _
    have := (findS_lex s w.at_ q.seen).2 h.seen
    exact ⟨this, this⟩
  · rename_i p _
    have := (findS_lex s p.i q.seen).2 h.seen
    exact ⟨this, this⟩
  · rename_i x from_ p _
    have := (findS_lex s p.i (findS s from_ q.seen)).2 ((findS_lex s from_ q.seen).2 h.seen)
    exact ⟨this, this⟩
theorem PosInv.run {s : List UInt8} {q q' : Par} {xs : List Ev} (hr : Run s q xs q') (h : PosInv q) : PosInv q' := by
  induction hr with
  | nil q => exact h
  | cons _ _ ih => exact ih h.next

/-- PullTags' law. -/
theorem tags_law (text : List UInt8) (hl : text.length ≤ 5000) :
    ((all2S text).2.2.2 = 0 ∧ TagsOk [] none (all2S text).1 ∧ 2 ≤ (all2S text).1.length ∧ (all2S text).2.1 = 0 ∧ (all2S text).2.2.1 = 0) ∨
    ((all2S text).2.2.2 ≠ 0 ∧ (all2S text).1 = [] ∧ ((0 < (all2S text).2.1 ∧ 0 < (all2S text).2.2.1) ∨ ((all2S text).2.1 = 0 ∧ (all2S text).2.2.1 = 0 ∧ (all2S text).2.2.2 = 10))) := by
  by_cases hE : newErr text = 0
  · obtain ⟨xs, q', hrun, hlast, hxl, hall⟩ := all2_run hE
    by_cases he : (nextS (linesS text) q').1.2.2 = 0
    · rw [if_pos he] at hall
      have := run_tags hrun (par0_tag _) hlast he
      rw [hall]
      exact .inl ⟨rfl, this.1, by simpa using this.2, rfl, rfl⟩
    · rw [if_neg he] at hall
      rw [hall]
      exact .inr ⟨he, rfl, .inl (PosInv.run hrun ⟨⟨Nat.le_refl _, Nat.le_refl _⟩, ⟨Nat.le_refl _, Nat.le_refl _⟩⟩).next.last⟩
  · right
    have h10 : newErr text = 10 := by
      unfold newErr at hE ⊢
      rw [if_neg (by omega)] at hE ⊢
      split at hE
      · exact absurd rfl hE
      · rename_i h
        rw [if_neg h]
    unfold all2S
    rw [if_neg hE, h10]
    exact ⟨by simp, rfl, .inr ⟨rfl, rfl, rfl⟩⟩
end Go.Ab
