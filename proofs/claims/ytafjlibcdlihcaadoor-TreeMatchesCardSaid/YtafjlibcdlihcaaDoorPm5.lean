import Derived.Test.YtafjlibcdlihcaaDoorPm4
import Derived.Test.YtafjlibcdlihcaaDoorPm3
import Derived.Test.YtafjlibcdlihcaaDoorPm2
import Derived.Test.YtafjlibcdlihcaaDoorPm1
import Derived.Test.YtafjlibcdlihcaaDoorPt1
import Derived.Test.YtafjlibcdlihcaaDoorG0
import Derived.Test.YtafjlibcdlihcaaDoorG30
import Derived.Test.YtafjlibcdlihcaaDoorG4
import Derived.Test.YtafjlibcdlihcaaDoorG7
namespace Go.Proofs.YtafjlibcdlihcaaDoor.G
open Go.RowKit Go.Proofs.YtafjlibcdlihcaaDoorW.PrintWords Go.Proofs.YtafjlibcdlihcaaDoorW.PrintLast Go.Proofs.YtafjlibcdlihcaaDoorW.PrintMore
set_option linter.unusedVariables false
set_option linter.unusedSimpArgs false

/-! ### Does a path fit: a table from behind -/
theorem rm_l1 (P L : List ByteArray) (hp : P.length ≤ 1000) (hs : L.length ≤ 1000) (hP : ∀ n ∈ P, n.size ≤ 1000) (hL : ∀ n ∈ L, n.size ≤ 1000) (i : Nat) (hi : i ≤ P.length) (r : Bool)
    (hc : ∀ T : List Bool, T.length = sq P.length L.length → (∀ a b : Nat, i ≤ a → a ≤ P.length → b ≤ L.length → rdOf false T ((ix L.length a b : Nat) : Int) = tb (stM P) (ftM P L) P.length L.length a b) →
      Ev (fun k => barqueref09_Match.l0 k P L T ((L.length + 1 : Nat) : Int) ((i : Int) - 1)) r) :
    ∀ (k1 : Nat) (T : List Bool), k1 ≤ L.length + 1 → T.length = sq P.length L.length →
      (∀ a b : Nat, (i < a ∨ (a = i ∧ k1 ≤ b)) → a ≤ P.length → b ≤ L.length → rdOf false T ((ix L.length a b : Nat) : Int) = tb (stM P) (ftM P L) P.length L.length a b) →
      Ev (fun k => barqueref09_Match.l1 k P L T ((L.length + 1 : Nat) : Int) i ((k1 : Int) - 1)) r := by
  intro k1
  induction k1 with
  | zero =>
    intro T hk hT hn
    apply Ev.step
    · intro k; rw [barqueref09_Match.l1]
    have c1 : ¬ (((0 : Nat) : Int) - 1 ≥ 0) := by omega
    have hw : wrap64 ((i : Int) - 1) = (i : Int) - 1 := w64_ (by omega) (by omega)
    simp only [c1, ↓reduceIte, hw]
    exact hc T hT (fun a b h1 h2 h3 => hn a b (by omega) h2 h3)
  | succ k ih =>
    intro T hk hT hn
    have hk' : k ≤ L.length := by omega
    have hlt : ix L.length i k < T.length := by rw [hT]; exact ix_lt hi hk'
    have hset : ∀ v : Bool, v = tb (stM P) (ftM P L) P.length L.length i k → Ev (fun k0 => barqueref09_Match.l1 k0 P L (T.set (ix L.length i k) v) ((L.length + 1 : Nat) : Int) i ((k : Int) - 1)) r := fun v hv =>
      ih _ (by omega) (by rw [List.length_set]; exact hT) (fun a b h1 h2 h3 => by
        rw [rdB_set _ _ _ _ hlt]
        by_cases e : ix L.length a b = ix L.length i k
        · obtain ⟨rfl, rfl⟩ := ix_inj h3 hk' e
          rw [if_pos rfl]; exact hv
        · rw [if_neg e]
          refine hn a b ?_ h2 h3
          rcases h1 with h1 | ⟨h1, h4⟩
          · exact Or.inl h1
          · subst h1
            by_cases g : b = k
            · subst g; exact absurd rfl e
            · exact Or.inr ⟨rfl, by omega⟩)
    have e0 : (((k + 1 : Nat) : Int) - 1) = (k : Int) := by omega
    rw [e0]
    apply Ev.step
    · intro k; rw [barqueref09_Match.l1]
    have c1 : ((k : Int) ≥ 0) := by omega
    have hw : wrap64 ((k : Int) - 1) = (k : Int) - 1 := w64_ (by omega) (by omega)
    have hx := ix_w hp hs hi hk'
    have c2 : (0 : Int) ≤ ((ix L.length i k : Nat) : Int) := Int.natCast_nonneg _
    have c3 : ((ix L.length i k : Nat) : Int) < (T.length : Int) := Int.ofNat_lt.2 hlt
    simp only [c1, hw, hx, c2, c3, ↓reduceIte, Int.toNat_natCast]
    by_cases h1 : i = P.length
    · have c4 : ((i : Int) = (P.length : Int)) := by omega
      simp only [c4, ↓reduceIte]
      rw [← c4]
      refine hset _ ?_
      subst h1
      rw [tb_end _ _ _ _ _ hk']
    · have hip : i < P.length := by omega
      have c4 : ¬ ((i : Int) = (P.length : Int)) := by omega
      have c5 : (0 : Int) ≤ (i : Int) := by omega
      have c6 : (i : Int) < (P.length : Int) := by omega
      have hw1 : wrap64 ((i : Int) + 1) = ((i + 1 : Nat) : Int) := by rw [w64_ (by omega) (by omega)]; omega
      have hw0 : True := trivial
      have hx1 := ix_w hp hs (show i + 1 ≤ P.length from hip) hk'
      have hlt1 : ix L.length (i + 1) k < T.length := by rw [hT]; exact ix_lt hip hk'
      have c7 : (0 : Int) ≤ ((ix L.length (i + 1) k : Nat) : Int) := Int.natCast_nonneg _
      have c8 : ((ix L.length (i + 1) k : Nat) : Int) < (T.length : Int) := Int.ofNat_lt.2 hlt1
      simp only [c4, c5, c6, hw1, hx1, ↓reduceIte]
      have hst := tb_step (stM P) (ftM P L) P.length L.length i k hip hk'
      by_cases h42 : (rdOf ByteArray.empty P (i : Int)).toList = ([42, 42] : List UInt8)
      · have hs1 : stM P i = true := by simp [stM, h42]
        rw [hs1, if_pos rfl] at hst
        have h3 := hn (i + 1) k (Or.inl (by omega)) hip hk'
        simp only [h42, c7, c8, ↓reduceIte, h3]
        cases hv : tb (stM P) (ftM P L) P.length L.length (i + 1) k with
        | true =>
          simp only [↓reduceIte]
          exact hset true (by rw [hst, hv]; rfl)
        | false =>
          simp only [↓reduceIte, Bool.false_eq_true]
          by_cases g : k < L.length
          · have g' : (k : Int) < (L.length : Int) := by omega
            have hx2 : wrap64 (((ix L.length i k : Nat) : Int) + 1) = ((ix L.length i (k + 1) : Nat) : Int) := ix_w1 hp hs hi hk'
            have hlt2 : ix L.length i (k + 1) < T.length := by rw [hT]; exact ix_lt hi g
            have c9 : (0 : Int) ≤ ((ix L.length i (k + 1) : Nat) : Int) := Int.natCast_nonneg _
            have c10 : ((ix L.length i (k + 1) : Nat) : Int) < (T.length : Int) := Int.ofNat_lt.2 hlt2
            have h4 := hn i (k + 1) (Or.inr ⟨rfl, Nat.le_refl _⟩) hi g
            simp only [g', hx2, c9, c10, ↓reduceIte, h4]
            exact hset _ (by rw [hst, hv]; simp [g])
          · have g' : ¬ ((k : Int) < (L.length : Int)) := by omega
            simp only [g', ↓reduceIte]
            exact hset false (by rw [hst, hv]; simp [g])
      · have hs1 : ¬ stM P i = true := by simp [stM, h42]
        rw [if_neg hs1] at hst
        simp only [h42, ↓reduceIte]
        by_cases g : k < L.length
        · have g' : (k : Int) < (L.length : Int) := by omega
          have hx2 : wrap64 (((ix L.length (i + 1) k : Nat) : Int) + 1) = ((ix L.length (i + 1) (k + 1) : Nat) : Int) := ix_w1 hp hs hip hk'
          have hlt2 : ix L.length (i + 1) (k + 1) < T.length := by rw [hT]; exact ix_lt hip g
          have c9 : (0 : Int) ≤ ((ix L.length (i + 1) (k + 1) : Nat) : Int) := Int.natCast_nonneg _
          have c10 : ((ix L.length (i + 1) (k + 1) : Nat) : Int) < (T.length : Int) := Int.ofNat_lt.2 hlt2
          have c11 : (0 : Int) ≤ (k : Int) := by omega
          have h4 := hn (i + 1) (k + 1) (Or.inl (by omega)) hip g
          have hrp : rdOf ByteArray.empty P (i : Int) = P[i]'hip := rdOf_nat _ P i hip
          have hrl : rdOf ByteArray.empty L (k : Int) = L[k]'g := rdOf_nat _ L k g
          have hft : ftM P L i k = inNameE (P[i]'hip) (L[k]'g) := by unfold ftM; rw [hrp, hrl]
          simp only [g', hx2, c9, c10, c11, ↓reduceIte, h4, hrp, hrl]
          refine Ev.bind (refinName_ev _ _ (hP _ (List.getElem_mem hip)) (hL _ (List.getElem_mem g))) ?_
          cases hf : inNameE (P[i]'hip) (L[k]'g) with
          | true =>
            simp only [↓reduceIte]
            exact hset _ (by rw [hst, hft, hf]; simp [g])
          | false =>
            simp only [↓reduceIte, Bool.false_eq_true]
            exact hset false (by rw [hst, hft, hf]; simp)
        · have g' : ¬ ((k : Int) < (L.length : Int)) := by omega
          simp only [g', ↓reduceIte]
          exact hset false (by rw [hst]; simp [g])
theorem rm_l0 (P L : List ByteArray) (hp : P.length ≤ 1000) (hs : L.length ≤ 1000) (hP : ∀ n ∈ P, n.size ≤ 1000) (hL : ∀ n ∈ L, n.size ≤ 1000) : ∀ (i1 : Nat) (T : List Bool), i1 ≤ P.length + 1 → T.length = sq P.length L.length →
      (∀ a b : Nat, i1 ≤ a → a ≤ P.length → b ≤ L.length → rdOf false T ((ix L.length a b : Nat) : Int) = tb (stM P) (ftM P L) P.length L.length a b) →
      Ev (fun k => barqueref09_Match.l0 k P L T ((L.length + 1 : Nat) : Int) ((i1 : Int) - 1)) (fitE P L) := by
  intro i1
  induction i1 with
  | zero =>
    intro T hi hT hn
    apply Ev.step
    · intro k; rw [barqueref09_Match.l0]
    have c1 : ¬ (((0 : Nat) : Int) - 1 ≥ 0) := by omega
    have hlt : ix L.length 0 0 < T.length := by rw [hT]; exact ix_lt (Nat.zero_le _) (Nat.zero_le _)
    have c2 : (0 : Int) < (T.length : Int) := by omega
    have h := hn 0 0 (Nat.le_refl _) (Nat.zero_le _) (Nat.zero_le _)
    have e : ((ix L.length 0 0 : Nat) : Int) = 0 := by unfold ix; rw [Nat.zero_mul]; rfl
    rw [e] at h
    simp only [c1, c2, ↓reduceIte, h]
    exact Ev.now _
  | succ i ih =>
    intro T hi hT hn
    have e0 : (((i + 1 : Nat) : Int) - 1) = (i : Int) := by omega
    rw [e0]
    apply Ev.step
    · intro k; rw [barqueref09_Match.l0]
    have c1 : ((i : Int) ≥ 0) := by omega
    simp only [c1, ↓reduceIte]
    have h := rm_l1 P L hp hs hP hL i (by omega) (fitE P L) (fun T' h1 h2 => ih T' (by omega) h1 h2) (L.length + 1) T (Nat.le_refl _) hT (fun a b h1 h2 h3 => hn a b (by omega) h2 h3)
    have e1 : (((L.length + 1 : Nat) : Int) - 1) = (L.length : Int) := by omega
    rw [e1] at h
    exact h
theorem rm_j1 (p s : ByteArray) (P L : List ByteArray) (cp : Ev (fun k => barqueref09_Names.f k p) P) (cs : Ev (fun k => barqueref09_Names.f k s) L)
    (hp : P.length ≤ 1000) (hs : L.length ≤ 1000) (hP : ∀ n ∈ P, n.size ≤ 1000) (hL : ∀ n ∈ L, n.size ≤ 1000) : Ev (fun k => barqueref09_Match.j0 k p s false) (fitE P L) := by
  apply Ev.step
  · intro k; rw [barqueref09_Match.j0]
  simp only [Bool.false_eq_true, ↓reduceIte]
  refine Ev.bind cp (Ev.bind cs ?_)
  have hw : wrap64 ((L.length : Int) + 1) = ((L.length + 1 : Nat) : Int) := by rw [w64_ (by omega) (by omega)]; omega
  have hw1 : wrap64 ((P.length : Int) + 1) = ((P.length + 1 : Nat) : Int) := by rw [w64_ (by omega) (by omega)]; omega
  have hb := sq_le hp hs
  have hw2 : wrap64 (((P.length + 1 : Nat) : Int) * ((L.length + 1 : Nat) : Int)) = ((sq P.length L.length : Nat) : Int) := by
    rw [← Int.natCast_mul, show (P.length + 1) * (L.length + 1) = sq P.length L.length by unfold sq; rfl, w64_ (by omega) (by omega)]
  have c1 : (0 : Int) ≤ ((sq P.length L.length : Nat) : Int) := by omega
  have c2 : sq P.length L.length ≤ 281474976710656 := by omega
  simp only [hw, hw1, hw2, c1, c2, ↓reduceIte, Int.toNat_natCast]
  have h := rm_l0 P L hp hs hP hL (P.length + 1) (List.replicate (sq P.length L.length) false) (Nat.le_refl _) (by rw [List.length_replicate]) (fun a b h1 h2 h3 => by omega)
  have e1 : (((P.length + 1 : Nat) : Int) - 1) = (P.length : Int) := by omega
  rw [e1] at h
  exact h
theorem rm_j0 (p s : ByteArray) (hp : p.size ≤ 200) (hs : s.size ≤ 200) : Ev (fun k => barqueref09_Match.j0 k p s false) (fitE (names_ p) (names_ s)) := by
  have hlp := names_length_ p
  have hls := names_length_ s
  exact rm_j1 p s _ _ (refnames_ev p (by omega)) (refnames_ev s (by omega)) (by omega) (by omega) (names_small p hp) (names_small s hs)
theorem refmatch_ev (p s : ByteArray) : Ev (fun k => barqueref09_Match.f k p s) (matchE p s) := by
  unfold barqueref09_Match.f matchE
  refine Ev.bind (refpat_ev p) ?_
  by_cases h1 : patE p = 0
  · simp only [h1, ↓reduceIte, true_and]
    refine Ev.bind (refpath_ev s) ?_
    by_cases h2 : pathE s = 0
    · simp only [h2, ↓reduceIte, bne_self_eq_false]
      exact rm_j0 p s (patE_size p h1) (pathE_size s h2)
    · have h2' : (pathE s != 0) = true := by simpa using h2
      simp only [h2, h2', ↓reduceIte]
      apply Ev.step
      · intro k; rw [barqueref09_Match.j0]
      simp only [↓reduceIte]
      exact Ev.now _
  · simp only [h1, ↓reduceIte, false_and]
    apply Ev.step
    · intro k; rw [barqueref09_Match.j0]
    simp only [↓reduceIte]
    exact Ev.now _
end Go.Proofs.YtafjlibcdlihcaaDoor.G
