import Derived.Test.YtafjlibcdlihcaaDoorPm2
import Derived.Test.YtafjlibcdlihcaaDoorPm1
import Derived.Test.YtafjlibcdlihcaaDoorPt1
import Derived.Test.YtafjlibcdlihcaaDoorG0
import Derived.Test.YtafjlibcdlihcaaDoorG29
namespace Go.Proofs.YtafjlibcdlihcaaDoor.G
open Go.RowKit Go.Proofs.YtafjlibcdlihcaaDoorW.PrintWords Go.Proofs.YtafjlibcdlihcaaDoorW.PrintLast Go.Proofs.YtafjlibcdlihcaaDoorW.PrintMore
set_option linter.unusedVariables false
set_option linter.unusedSimpArgs false

/-! ### Does a name fit: a table from behind -/
def tb (st : Nat → Bool) (ft : Nat → Nat → Bool) (n m i k : Nat) : Bool := bw st ft n m (n - i) (m - k)
theorem tb_end (st : Nat → Bool) (ft : Nat → Nat → Bool) (n m k : Nat) (hk : k ≤ m) : tb st ft n m n k = ((k : Int) == (m : Int)) := by
  unfold tb
  rw [Nat.sub_self, bw, Bool.eq_iff_iff, beq_iff_eq, beq_iff_eq]
  omega
theorem tb_step (st : Nat → Bool) (ft : Nat → Nat → Bool) (n m i k : Nat) (hi : i < n) (hk : k ≤ m) :
    tb st ft n m i k = if st i = true then (tb st ft n m (i + 1) k || (decide (k < m) && tb st ft n m i (k + 1))) else (decide (k < m) && (ft i k && tb st ft n m (i + 1) (k + 1))) := by
  unfold tb
  have h1 : n - i = (n - (i + 1)) + 1 := by omega
  have h2 : n - (n - (i + 1) + 1) = i := by omega
  by_cases g : k < m
  · have h3 : m - k = (m - (k + 1)) + 1 := by omega
    have h4 : m - (m - (k + 1) + 1) = k := by omega
    rw [h1, h3, bw, h2, h4]
    simp [g]
  · have h3 : m - k = 0 := by omega
    rw [h1, h3, bw, h2]
    cases st i <;> simp [g]
@[irreducible] def ix (m a b : Nat) : Nat := a * (m + 1) + b
@[irreducible] def sq (n m : Nat) : Nat := (n + 1) * (m + 1)
theorem ix_inj {m a b i k : Nat} (hb : b ≤ m) (hk : k ≤ m) (h : ix m a b = ix m i k) : a = i ∧ b = k := by
  unfold ix at h
  rcases Nat.lt_trichotomy a i with g | g | g
  · have := Nat.mul_le_mul_right (m + 1) (show a + 1 ≤ i from g)
    rw [Nat.add_mul] at this
    omega
  · subst g
    exact ⟨rfl, by omega⟩
  · have := Nat.mul_le_mul_right (m + 1) (show i + 1 ≤ a from g)
    rw [Nat.add_mul] at this
    omega
theorem ix_lt {n m i k : Nat} (hi : i ≤ n) (hk : k ≤ m) : ix m i k < sq n m := by
  unfold ix sq
  have h1 := Nat.mul_le_mul_right (m + 1) hi
  rw [Nat.add_mul n 1]
  omega
theorem ix_w {n m i k : Nat} (hn : n ≤ 1000) (hm : m ≤ 1000) (hi : i ≤ n) (hk : k ≤ m) : wrap64 (wrap64 ((i : Int) * ((m + 1 : Nat) : Int)) + (k : Int)) = ((ix m i k : Nat) : Int) := by
  unfold ix
  have h1 : i * (m + 1) ≤ 1000 * 1001 := Nat.mul_le_mul (by omega) (by omega)
  have h2 : ((i : Int) * ((m + 1 : Nat) : Int)) = ((i * (m + 1) : Nat) : Int) := by rw [Int.natCast_mul]
  have h3 : wrap64 ((i * (m + 1) : Nat) : Int) = ((i * (m + 1) : Nat) : Int) := w64_ (by omega) (by omega)
  rw [h2, h3, w64_ (by omega) (by omega)]
  omega
theorem sq_le {n m : Nat} (hn : n ≤ 1000) (hm : m ≤ 1000) : sq n m ≤ 1002001 := by
  unfold sq
  have h1 : n + 1 ≤ 1001 := by omega
  have h2 : m + 1 ≤ 1001 := by omega
  exact Nat.mul_le_mul h1 h2
theorem ix_w1 {n m i k : Nat} (hn : n ≤ 1000) (hm : m ≤ 1000) (hi : i ≤ n) (hk : k ≤ m) : wrap64 (((ix m i k : Nat) : Int) + 1) = ((ix m i (k + 1) : Nat) : Int) := by
  have h1 := ix_lt hi hk
  have h2 := sq_le hn hm
  have h3 : ix m i (k + 1) = ix m i k + 1 := by unfold ix; rfl
  rw [h3, w64_ (by omega) (by omega)]
  omega
theorem ri_l1 (p s : ByteArray) (hp : p.size ≤ 1000) (hs : s.size ≤ 1000) (i : Nat) (hi : i ≤ p.size) (r : Bool)
    (hc : ∀ T : List Bool, T.length = sq p.size s.size → (∀ a b : Nat, i ≤ a → a ≤ p.size → b ≤ s.size → rdOf false T ((ix s.size a b : Nat) : Int) = tb (stN p) (ftN p s) p.size s.size a b) →
      Ev (fun k => barqueref09_inName.l0 k p s T ((s.size + 1 : Nat) : Int) ((i : Int) - 1)) r) :
    ∀ (k1 : Nat) (T : List Bool), k1 ≤ s.size + 1 → T.length = sq p.size s.size →
      (∀ a b : Nat, (i < a ∨ (a = i ∧ k1 ≤ b)) → a ≤ p.size → b ≤ s.size → rdOf false T ((ix s.size a b : Nat) : Int) = tb (stN p) (ftN p s) p.size s.size a b) →
      Ev (fun k => barqueref09_inName.l1 k p s T ((s.size + 1 : Nat) : Int) i ((k1 : Int) - 1)) r := by
  intro k1
  induction k1 with
  | zero =>
    intro T hk hT hn
    apply Ev.step
    · intro k; rw [barqueref09_inName.l1]
    have c1 : ¬ (((0 : Nat) : Int) - 1 ≥ 0) := by omega
    have hw : wrap64 ((i : Int) - 1) = (i : Int) - 1 := w64_ (by omega) (by omega)
    simp only [c1, ↓reduceIte, hw]
    exact hc T hT (fun a b h1 h2 h3 => hn a b (by omega) h2 h3)
  | succ k ih =>
    intro T hk hT hn
    have hk' : k ≤ s.size := by omega
    have hlt : ix s.size i k < T.length := by rw [hT]; exact ix_lt hi hk'
    have hset : ∀ v : Bool, v = tb (stN p) (ftN p s) p.size s.size i k → Ev (fun k0 => barqueref09_inName.l1 k0 p s (T.set (ix s.size i k) v) ((s.size + 1 : Nat) : Int) i ((k : Int) - 1)) r := fun v hv =>
      ih _ (by omega) (by rw [List.length_set]; exact hT) (fun a b h1 h2 h3 => by
        rw [rdB_set _ _ _ _ hlt]
        by_cases e : ix s.size a b = ix s.size i k
        · obtain ⟨rfl, rfl⟩ := ix_inj h3 hk' e
          rw [if_pos rfl]; exact hv
        · rw [if_neg e]
          refine hn a b ?_ h2 h3
          rcases h1 with h1 | ⟨h1, h4⟩
          · exact Or.inl h1
          · subst h1
            by_cases g : b = k
            · subst g; exact absurd rfl e
            · exact Or.inr ⟨rfl, by omega⟩)
    have e0 : (((k + 1 : Nat) : Int) - 1) = (k : Int) := by omega
    rw [e0]
    apply Ev.step
    · intro k; rw [barqueref09_inName.l1]
    have c1 : ((k : Int) ≥ 0) := by omega
    have hw : wrap64 ((k : Int) - 1) = (k : Int) - 1 := w64_ (by omega) (by omega)
    have hx := ix_w hp hs hi hk'
    have c2 : (0 : Int) ≤ ((ix s.size i k : Nat) : Int) := Int.natCast_nonneg _
    have c3 : ((ix s.size i k : Nat) : Int) < (T.length : Int) := Int.ofNat_lt.2 hlt
    simp only [c1, hw, hx, c2, c3, ↓reduceIte, Int.toNat_natCast]
    by_cases h1 : i = p.size
    · have c4 : ((i : Int) = (p.size : Int)) := by omega
      simp only [c4, ↓reduceIte]
      rw [← c4]
      refine hset _ ?_
      subst h1
      rw [tb_end _ _ _ _ _ hk']
    · have hip : i < p.size := by omega
      have c4 : ¬ ((i : Int) = (p.size : Int)) := by omega
      have c5 : (0 : Int) ≤ (i : Int) := by omega
      have c6 : (i : Int) < (p.size : Int) := by omega
      have hw1 : wrap64 ((i : Int) + 1) = ((i + 1 : Nat) : Int) := by rw [w64_ (by omega) (by omega)]; omega
      have hw0 : True := trivial
      have hx1 := ix_w hp hs (show i + 1 ≤ p.size from hip) hk'
      have hlt1 : ix s.size (i + 1) k < T.length := by rw [hT]; exact ix_lt hip hk'
      have c7 : (0 : Int) ≤ ((ix s.size (i + 1) k : Nat) : Int) := Int.natCast_nonneg _
      have c8 : ((ix s.size (i + 1) k : Nat) : Int) < (T.length : Int) := Int.ofNat_lt.2 hlt1
      simp only [c4, c5, c6, hw1, hx1, ↓reduceIte]
      have hst := tb_step (stN p) (ftN p s) p.size s.size i k hip hk'
      by_cases h42 : bt p i = 42
      · have hs1 : stN p i = true := by simp [stN, h42]
        rw [hs1, if_pos rfl] at hst
        have h3 := hn (i + 1) k (Or.inl (by omega)) hip hk'
        simp only [h42, c7, c8, ↓reduceIte, h3]
        cases hv : tb (stN p) (ftN p s) p.size s.size (i + 1) k with
        | true =>
          simp only [↓reduceIte]
          exact hset true (by rw [hst, hv]; rfl)
        | false =>
          simp only [↓reduceIte, Bool.false_eq_true]
          by_cases g : k < s.size
          · have g' : (k : Int) < (s.size : Int) := by omega
            have hx2 : wrap64 (((ix s.size i k : Nat) : Int) + 1) = ((ix s.size i (k + 1) : Nat) : Int) := ix_w1 hp hs hi hk'
            have hlt2 : ix s.size i (k + 1) < T.length := by rw [hT]; exact ix_lt hi g
            have c9 : (0 : Int) ≤ ((ix s.size i (k + 1) : Nat) : Int) := Int.natCast_nonneg _
            have c10 : ((ix s.size i (k + 1) : Nat) : Int) < (T.length : Int) := Int.ofNat_lt.2 hlt2
            have h4 := hn i (k + 1) (Or.inr ⟨rfl, Nat.le_refl _⟩) hi g
            simp only [g', hx2, c9, c10, ↓reduceIte, h4]
            exact hset _ (by rw [hst, hv]; simp [g])
          · have g' : ¬ ((k : Int) < (s.size : Int)) := by omega
            simp only [g', ↓reduceIte]
            exact hset false (by rw [hst, hv]; simp [g])
      · have hs1 : ¬ stN p i = true := by simp [stN, h42]
        rw [if_neg hs1] at hst
        simp only [h42, ↓reduceIte]
        by_cases g : k < s.size
        · have g' : (k : Int) < (s.size : Int) := by omega
          have hx2 : wrap64 (((ix s.size (i + 1) k : Nat) : Int) + 1) = ((ix s.size (i + 1) (k + 1) : Nat) : Int) := ix_w1 hp hs hip hk'
          have hlt2 : ix s.size (i + 1) (k + 1) < T.length := by rw [hT]; exact ix_lt hip g
          have c9 : (0 : Int) ≤ ((ix s.size (i + 1) (k + 1) : Nat) : Int) := Int.natCast_nonneg _
          have c10 : ((ix s.size (i + 1) (k + 1) : Nat) : Int) < (T.length : Int) := Int.ofNat_lt.2 hlt2
          have c11 : (0 : Int) ≤ (k : Int) := by omega
          have h4 := hn (i + 1) (k + 1) (Or.inl (by omega)) hip g
          simp only [g', hx2, c9, c10, c11, ↓reduceIte, h4]
          by_cases h63 : bt p i = 63
          · simp only [h63, ↓reduceIte]
            exact hset _ (by rw [hst]; simp [g, ftN, h63])
          · simp only [h63, ↓reduceIte]
            by_cases he : bt p i = bt s k
            · have hf : ftN p s i k = true := by simp [ftN, he]
              simp only [eq_true he, ↓reduceIte]
              exact hset _ (by rw [hst, hf]; simp [g])
            · have hf : ftN p s i k = false := by simp [ftN, he, h63]
              simp only [eq_false he, ↓reduceIte]
              exact hset _ (by rw [hst, hf]; simp)
        · have g' : ¬ ((k : Int) < (s.size : Int)) := by omega
          simp only [g', ↓reduceIte]
          exact hset false (by rw [hst]; simp [g])
theorem ri_l0 (p s : ByteArray) (hp : p.size ≤ 1000) (hs : s.size ≤ 1000) : ∀ (i1 : Nat) (T : List Bool), i1 ≤ p.size + 1 → T.length = sq p.size s.size →
      (∀ a b : Nat, i1 ≤ a → a ≤ p.size → b ≤ s.size → rdOf false T ((ix s.size a b : Nat) : Int) = tb (stN p) (ftN p s) p.size s.size a b) →
      Ev (fun k => barqueref09_inName.l0 k p s T ((s.size + 1 : Nat) : Int) ((i1 : Int) - 1)) (inNameE p s) := by
  intro i1
  induction i1 with
  | zero =>
    intro T hi hT hn
    apply Ev.step
    · intro k; rw [barqueref09_inName.l0]
    have c1 : ¬ (((0 : Nat) : Int) - 1 ≥ 0) := by omega
    have hlt : ix s.size 0 0 < T.length := by rw [hT]; exact ix_lt (Nat.zero_le _) (Nat.zero_le _)
    have c2 : (0 : Int) < (T.length : Int) := by omega
    have h := hn 0 0 (Nat.le_refl _) (Nat.zero_le _) (Nat.zero_le _)
    have e : ((ix s.size 0 0 : Nat) : Int) = 0 := by unfold ix; rw [Nat.zero_mul]; rfl
    rw [e] at h
    simp only [c1, c2, ↓reduceIte, h]
    exact Ev.now _
  | succ i ih =>
    intro T hi hT hn
    have e0 : (((i + 1 : Nat) : Int) - 1) = (i : Int) := by omega
    rw [e0]
    apply Ev.step
    · intro k; rw [barqueref09_inName.l0]
    have c1 : ((i : Int) ≥ 0) := by omega
    simp only [c1, ↓reduceIte]
    have h := ri_l1 p s hp hs i (by omega) (inNameE p s) (fun T' h1 h2 => ih T' (by omega) h1 h2) (s.size + 1) T (Nat.le_refl _) hT (fun a b h1 h2 h3 => hn a b (by omega) h2 h3)
    have e1 : (((s.size + 1 : Nat) : Int) - 1) = (s.size : Int) := by omega
    rw [e1] at h
    exact h
theorem refinName_ev (p s : ByteArray) (hp : p.size ≤ 1000) (hs : s.size ≤ 1000) : Ev (fun k => barqueref09_inName.f k p s) (inNameE p s) := by
  unfold barqueref09_inName.f
  have hw : wrap64 ((s.size : Int) + 1) = ((s.size + 1 : Nat) : Int) := by rw [w64_ (by omega) (by omega)]; omega
  have hw1 : wrap64 ((p.size : Int) + 1) = ((p.size + 1 : Nat) : Int) := by rw [w64_ (by omega) (by omega)]; omega
  have hb := sq_le hp hs
  have hw2 : wrap64 (((p.size + 1 : Nat) : Int) * ((s.size + 1 : Nat) : Int)) = ((sq p.size s.size : Nat) : Int) := by
    rw [← Int.natCast_mul, show (p.size + 1) * (s.size + 1) = sq p.size s.size by unfold sq; rfl, w64_ (by omega) (by omega)]
  have c1 : (0 : Int) ≤ ((sq p.size s.size : Nat) : Int) := by omega
  have c2 : sq p.size s.size ≤ 281474976710656 := by omega
  simp only [hw, hw1, hw2, c1, c2, ↓reduceIte, Int.toNat_natCast]
  have h := ri_l0 p s hp hs (p.size + 1) (List.replicate (sq p.size s.size) false) (Nat.le_refl _) (by rw [List.length_replicate]) (fun a b h1 h2 h3 => by omega)
  have e1 : (((p.size + 1 : Nat) : Int) - 1) = (p.size : Int) := by omega
  rw [e1] at h
  exact h
end Go.Proofs.YtafjlibcdlihcaaDoor.G
