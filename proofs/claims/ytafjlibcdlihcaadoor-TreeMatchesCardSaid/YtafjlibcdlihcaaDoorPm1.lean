import Derived.Test.YtafjlibcdlihcaaDoorPt1
import Derived.Test.YtafjlibcdlihcaaDoorG0
namespace Go.Proofs.YtafjlibcdlihcaaDoor.G
open Go.RowKit Go.Proofs.YtafjlibcdlihcaaDoorW.PrintWords Go.Proofs.YtafjlibcdlihcaaDoorW.PrintLast Go.Proofs.YtafjlibcdlihcaaDoorW.PrintMore
set_option linter.unusedVariables false
set_option linter.unusedSimpArgs false

/-! ### Patterns: from behind and from ahead -/
/-- Does what is behind place n - a of a pattern fit what is behind place m - b of a text? -/
def bw (st : Nat → Bool) (ft : Nat → Nat → Bool) (n m : Nat) : Nat → Nat → Bool
  | 0, b => b == 0
  | a + 1, 0 => st (n - (a + 1)) && bw st ft n m a 0
  | a + 1, b + 1 => if st (n - (a + 1)) then bw st ft n m a (b + 1) || bw st ft n m (a + 1) b else ft (n - (a + 1)) (m - (b + 1)) && bw st ft n m a b
/-- Do a pattern's first j fit a text's first i? -/
def fw (st : Nat → Bool) (ft : Nat → Nat → Bool) : Nat → Nat → Bool
  | 0, i => i == 0
  | j + 1, 0 => st j && fw st ft j 0
  | j + 1, i + 1 => if st j then fw st ft j (i + 1) || fw st ft (j + 1) i else ft j i && fw st ft j i
theorem bw_star (st : Nat → Bool) (ft : Nat → Nat → Bool) (n m a : Nat) (h : st (n - (a + 1)) = true) : ∀ b, bw st ft n m (a + 1) b = true ↔ ∃ c, c ≤ b ∧ bw st ft n m a c = true := by
  intro b
  induction b with
  | zero =>
    rw [bw, h, Bool.true_and]
    exact ⟨fun g => ⟨0, Nat.le_refl _, g⟩, fun ⟨c, hc, g⟩ => (show c = 0 by omega) ▸ g⟩
  | succ b ih =>
    rw [bw, h, if_pos rfl, Bool.or_eq_true, ih]
    constructor
    · rintro (g | ⟨c, hc, g⟩)
      · exact ⟨b + 1, Nat.le_refl _, g⟩
      · exact ⟨c, by omega, g⟩
    · rintro ⟨c, hc, g⟩
      by_cases e : c = b + 1
      · rw [e] at g; exact Or.inl g
      · exact Or.inr ⟨c, by omega, g⟩
theorem fw_star (st : Nat → Bool) (ft : Nat → Nat → Bool) (j : Nat) (h : st j = true) : ∀ i, fw st ft (j + 1) i = true ↔ ∃ c, c ≤ i ∧ fw st ft j c = true := by
  intro i
  induction i with
  | zero =>
    rw [fw, h, Bool.true_and]
    exact ⟨fun g => ⟨0, Nat.le_refl _, g⟩, fun ⟨c, hc, g⟩ => (show c = 0 by omega) ▸ g⟩
  | succ b ih =>
    rw [fw, h, if_pos rfl, Bool.or_eq_true, ih]
    constructor
    · rintro (g | ⟨c, hc, g⟩)
      · exact ⟨b + 1, Nat.le_refl _, g⟩
      · exact ⟨c, by omega, g⟩
    · rintro ⟨c, hc, g⟩
      by_cases e : c = b + 1
      · rw [e] at g; exact Or.inl g
      · exact Or.inr ⟨c, by omega, g⟩
theorem cut_ (st : Nat → Bool) (ft : Nat → Nat → Bool) (n m : Nat) : ∀ j, j ≤ n → (bw st ft n m n m = true ↔ ∃ i, i ≤ m ∧ fw st ft j i = true ∧ bw st ft n m (n - j) (m - i) = true) := by
  intro j
  induction j with
  | zero =>
    intro _
    constructor
    · intro g
      exact ⟨0, Nat.zero_le _, by simp [fw], by simpa using g⟩
    · rintro ⟨i, hi, h1, h2⟩
      have e : i = 0 := by simpa [fw] using h1
      subst e
      simpa using h2
  | succ j ih =>
    intro hj
    rw [ih (by omega)]
    have hn : n - j = (n - (j + 1)) + 1 := by omega
    have hnj : n - (n - (j + 1) + 1) = j := by omega
    by_cases hs : st j = true
    · have hs' : st (n - (n - (j + 1) + 1)) = true := by rw [hnj]; exact hs
      constructor
      · rintro ⟨i, hi, h1, h2⟩
        rw [hn, bw_star _ _ _ _ _ hs'] at h2
        obtain ⟨c, hc, h3⟩ := h2
        refine ⟨m - c, by omega, (fw_star _ _ _ hs _).2 ⟨i, by omega, h1⟩, ?_⟩
        rw [show m - (m - c) = c by omega]
        exact h3
      · rintro ⟨i, hi, h1, h2⟩
        obtain ⟨c, hc, h3⟩ := (fw_star _ _ _ hs _).1 h1
        refine ⟨c, by omega, h3, ?_⟩
        rw [hn, bw_star _ _ _ _ _ hs']
        exact ⟨m - i, by omega, h2⟩
    · have hs0 : st j = false := by simpa using hs
      have hs' : st (n - (n - (j + 1) + 1)) = false := by rw [hnj]; exact hs0
      constructor
      · rintro ⟨i, hi, h1, h2⟩
        rw [hn] at h2
        by_cases him : i = m
        · subst him
          rw [Nat.sub_self, bw, hs'] at h2
          simp at h2
        · rw [show m - i = (m - (i + 1)) + 1 by omega, bw, hs', if_neg (by simp), Bool.and_eq_true, hnj, show m - (m - (i + 1) + 1) = i by omega] at h2
          refine ⟨i + 1, by omega, ?_, h2.2⟩
          rw [fw, hs0, if_neg (by simp), h2.1, h1]
          rfl
      · rintro ⟨i, hi, h1, h2⟩
        cases i with
        | zero =>
          rw [fw, hs0] at h1
          simp at h1
        | succ i =>
          rw [fw, hs0, if_neg (by simp), Bool.and_eq_true] at h1
          refine ⟨i, by omega, h1.2, ?_⟩
          rw [hn, show m - i = (m - (i + 1)) + 1 by omega, bw, hs', if_neg (by simp), Bool.and_eq_true, hnj, show m - (m - (i + 1) + 1) = i by omega]
          exact ⟨h1.1, h2⟩
theorem fw_bw (st : Nat → Bool) (ft : Nat → Nat → Bool) (n m : Nat) : fw st ft n m = bw st ft n m n m := by
  rw [Bool.eq_iff_iff, cut_ st ft n m n (Nat.le_refl _)]
  constructor
  · intro h
    exact ⟨m, Nat.le_refl _, h, by simp [bw]⟩
  · rintro ⟨i, hi, h1, h2⟩
    rw [Nat.sub_self, bw] at h2
    have e : i = m := by have := eq_of_beq h2; omega
    rw [e] at h1
    exact h1

/-! ### A row of bools that is set -/
theorem rdB_set (l : List Bool) (i t : Nat) (v : Bool) (h : i < l.length) : rdOf false (l.set i v) (t : Int) = if t = i then v else rdOf false l (t : Int) := by
  simp only [rdOf, Int.toNat_natCast, List.getD_eq_getElem?_getD, List.getElem?_set]
  by_cases e : t = i
  · subst e
    simp [h]
  · have e' : ¬ i = t := fun g => e g.symm
    simp [e, e']
theorem rdB_rep (n t : Nat) : rdOf false (List.replicate n false) (t : Int) = false := by
  simp only [rdOf, Int.toNat_natCast, List.getD_eq_getElem?_getD, List.getElem?_replicate]
  by_cases h : t < n <;> simp [h]
end Go.Proofs.YtafjlibcdlihcaaDoor.G
