import Derived.Test.YtafjlibcdlihcaaDoorPm1
import Derived.Test.YtafjlibcdlihcaaDoorPt1
import Derived.Test.YtafjlibcdlihcaaDoorG0
import Derived.Test.YtafjlibcdlihcaaDoorG17
namespace Go.Proofs.YtafjlibcdlihcaaDoor.G
open Go.RowKit Go.Proofs.YtafjlibcdlihcaaDoorW.PrintWords Go.Proofs.YtafjlibcdlihcaaDoorW.PrintLast Go.Proofs.YtafjlibcdlihcaaDoorW.PrintMore
set_option linter.unusedVariables false
set_option linter.unusedSimpArgs false

/-! ### Does a name fit: row by row -/
def stN (p : ByteArray) (j : Nat) : Bool := decide (bt p (j : Int) = 42)
def ftN (p s : ByteArray) (j i : Nat) : Bool := decide (bt p (j : Int) = 63) || (bt p (j : Int) == bt s (i : Int))
def inNameE (p s : ByteArray) : Bool := bw (stN p) (ftN p s) p.size s.size p.size s.size
theorem ti_l1 (p s : ByteArray) (hp : p.size ≤ 4294967296) (hs : s.size ≤ 4294967296) (j : Nat) (hj : j < p.size) (row : List Bool) (hrl : row.length = s.size + 1)
    (hr : ∀ t : Nat, t ≤ s.size → rdOf false row (t : Int) = fw (stN p) (ftN p s) j t) (r : Bool)
    (hc : ∀ next : List Bool, next.length = s.size + 1 → (∀ t : Nat, t ≤ s.size → rdOf false next (t : Int) = fw (stN p) (ftN p s) (j + 1) t) →
      Ev (fun k => tree_inName.l0 k s next (bytesOf p) p.size ((j + 1 : Nat) : Int)) r) :
    ∀ (d i : Nat) (next : List Bool), s.size + 1 - i = d → i ≤ s.size + 1 → next.length = s.size + 1 →
      (∀ t : Nat, t ≤ s.size → rdOf false next (t : Int) = if t < i then fw (stN p) (ftN p s) (j + 1) t else false) →
      Ev (fun k => tree_inName.l1 k s row (bt p j) next (bytesOf p) p.size j ((s.size + 1 : Nat) : Int) i) r := by
  intro d
  induction d with
  | zero =>
    intro i next hd hi hnl hn
    apply Ev.step
    · intro k; rw [tree_inName.l1]
    have c1 : ¬ ((i : Int) < ((s.size + 1 : Nat) : Int)) := by omega
    have hw : wrap64 ((j : Int) + 1) = ((j + 1 : Nat) : Int) := by rw [w64_ (by omega) (by omega)]; omega
    simp only [c1, ↓reduceIte, hw]
    exact hc next hnl (fun t ht => by rw [hn t ht, if_pos (by omega)])
  | succ d ih =>
    intro i next hd hi hnl hn
    have hset : ∀ v : Bool, v = fw (stN p) (ftN p s) (j + 1) i → Ev (fun k => tree_inName.l1 k s row (bt p j) (next.set i v) (bytesOf p) p.size j ((s.size + 1 : Nat) : Int) ((i + 1 : Nat) : Int)) r := fun v hv =>
      ih (i + 1) _ (by omega) (by omega) (by rw [List.length_set]; exact hnl) (fun t ht => by
        rw [rdB_set _ _ _ _ (by omega)]
        by_cases e : t = i
        · rw [if_pos e, if_pos (by omega), e]; exact hv
        · rw [if_neg e, hn t ht]
          by_cases g : t < i
          · rw [if_pos g, if_pos (by omega)]
          · rw [if_neg g, if_neg (by omega)])
    have hri := hr i (by omega)
    have c1 : ((i : Int) < ((s.size + 1 : Nat) : Int)) := by omega
    have c2 : (0 : Int) ≤ (i : Int) := by omega
    have c3 : (i : Int) < (row.length : Int) := by omega
    have c4 : (i : Int) < (next.length : Int) := by omega
    have hw : wrap64 ((i : Int) + 1) = ((i + 1 : Nat) : Int) := by rw [w64_ (by omega) (by omega)]; omega
    apply Ev.step
    · intro k; rw [tree_inName.l1]
    simp only [c1, c2, c3, c4, hw, ↓reduceIte, Int.toNat_natCast]
    by_cases h42 : bt p j = 42
    · have hst : stN p j = true := by simp [stN, h42]
      simp only [h42, ↓reduceIte]
      rw [← h42]
      cases hv : rdOf false row (i : Int) with
      | true =>
        simp only [↓reduceIte]
        refine hset true ?_
        rw [hv] at hri
        cases i with
        | zero => rw [fw, hst, ← hri]; rfl
        | succ i => rw [fw, hst, ← hri]; rfl
      | false =>
        rw [hv] at hri
        cases i with
        | zero =>
          have c5 : ¬ (((0 : Nat) : Int) > 0) := by omega
          simp only [c5, ↓reduceIte, Bool.false_eq_true]
          refine hset false ?_
          rw [fw, hst, ← hri]; rfl
        | succ i =>
          have c5 : (((i + 1 : Nat) : Int) > 0) := by omega
          have hw1 : wrap64 (((i + 1 : Nat) : Int) - 1) = (i : Int) := by rw [w64_ (by omega) (by omega)]; omega
          have c6 : (0 : Int) ≤ (i : Int) := by omega
          have c7 : (i : Int) < (next.length : Int) := by omega
          simp only [c5, hw1, c6, c7, ↓reduceIte, Bool.false_eq_true]
          refine hset _ ?_
          rw [hn i (by omega), if_pos (by omega), fw, hst, ← hri]
          simp
    · have hst : stN p j = false := by simp [stN, h42]
      simp only [h42, ↓reduceIte]
      cases i with
      | zero =>
        have c5 : ¬ (((0 : Nat) : Int) > 0) := by omega
        simp only [c5, ↓reduceIte]
        refine ih (0 + 1) next (by omega) (by omega) hnl (fun t ht => ?_)
        rw [hn t ht, if_neg (by omega)]
        by_cases e : t = 0
        · subst e
          rw [if_pos (by omega), fw, hst]; rfl
        · rw [if_neg (by omega)]
      | succ i =>
        have c5 : (((i + 1 : Nat) : Int) > 0) := by omega
        have hw1 : wrap64 (((i + 1 : Nat) : Int) - 1) = (i : Int) := by rw [w64_ (by omega) (by omega)]; omega
        have c6 : (0 : Int) ≤ (i : Int) := by omega
        have c7 : (i : Int) < (row.length : Int) := by omega
        have c8 : (i : Int) < (s.size : Int) := by omega
        have hr1 := hr i (by omega)
        simp only [c5, hw1, c6, c7, c8, ↓reduceIte]
        cases hv : rdOf false row (i : Int) with
        | true =>
          rw [hv] at hr1
          simp only [↓reduceIte]
          by_cases h63 : bt p j = 63
          · simp only [h63, ↓reduceIte]
            rw [← h63]
            refine hset true ?_
            rw [fw, hst, ← hr1]
            simp [ftN, h63]
          · simp only [h63, ↓reduceIte]
            refine hset _ ?_
            rw [fw, hst, ← hr1]
            simp [ftN, h63]
        | false =>
          rw [hv] at hr1
          simp only [↓reduceIte, Bool.false_eq_true]
          refine hset false ?_
          rw [fw, hst, ← hr1]
          simp
theorem ti_l0 (p s : ByteArray) (hp : p.size ≤ 4294967296) (hs : s.size ≤ 4294967296) : ∀ (d j : Nat) (row : List Bool), p.size - j = d → j ≤ p.size → row.length = s.size + 1 →
    (∀ t : Nat, t ≤ s.size → rdOf false row (t : Int) = fw (stN p) (ftN p s) j t) →
    Ev (fun k => tree_inName.l0 k s row (bytesOf p) p.size j) (fw (stN p) (ftN p s) p.size s.size) := by
  intro d
  induction d with
  | zero =>
    intro j row hd hj hrl hr
    have e : j = p.size := by omega
    subst e
    apply Ev.step
    · intro k; rw [tree_inName.l0]
    have c1 : ¬ ((p.size : Int) < (p.size : Int)) := by omega
    have c2 : (0 : Int) ≤ (s.size : Int) := by omega
    have c3 : (s.size : Int) < (row.length : Int) := by omega
    simp only [c1, c2, c3, ↓reduceIte, hr s.size (Nat.le_refl _)]
    exact Ev.now _
  | succ d ih =>
    intro j row hd hj hrl hr
    apply Ev.step
    · intro k; rw [tree_inName.l0]
    have c1 : ((j : Int) < (p.size : Int)) := by omega
    have c2 : (0 : Int) ≤ (j : Int) := by omega
    have c3 : (j : Int) < ((bytesOf p).length : Int) := by rw [bytesOf_length]; omega
    have hw : wrap64 ((s.size : Int) + 1) = ((s.size + 1 : Nat) : Int) := by rw [w64_ (by omega) (by omega)]; omega
    have c4 : (0 : Int) ≤ ((s.size + 1 : Nat) : Int) := by omega
    have c5 : s.size + 1 ≤ 281474976710656 := by omega
    simp only [c1, c2, c3, c4, c5, hw, ↓reduceIte, Int.toNat_natCast, Option.bind_some, List.length_replicate, rd_bytesOf]
    exact ti_l1 p s hp hs j (by omega) row hrl hr _ (fun next h1 h2 => ih (j + 1) next (by omega) (by omega) h1 h2) (s.size + 1) 0 _ (by omega) (by omega) (List.length_replicate) (fun t ht => by rw [rdB_rep, if_neg (by omega)])
theorem inName_ev (p s : ByteArray) (hp : p.size ≤ 1000) (hs : s.size ≤ 1000) : Ev (fun k => tree_inName.f k p s) (inNameE p s) := by
  unfold tree_inName.f inNameE
  rw [← fw_bw]
  have hw : wrap64 ((s.size : Int) + 1) = ((s.size + 1 : Nat) : Int) := by rw [w64_ (by omega) (by omega)]; omega
  have c4 : (0 : Int) ≤ ((s.size + 1 : Nat) : Int) := by omega
  have c5 : s.size + 1 ≤ 281474976710656 := by omega
  have c6 : (0 : Int) < ((s.size + 1 : Nat) : Int) := by omega
  have c7 : p.size ≤ 140737488351232 := by omega
  simp only [c4, c5, c6, c7, hw, ↓reduceIte, Int.toNat_natCast, Option.bind_some, List.length_replicate, conv_bytes.f, bytesOf_length]
  refine ti_l0 p s (by omega) (by omega) p.size 0 _ (by omega) (by omega) (by rw [List.length_set, List.length_replicate]) (fun t ht => ?_)
  have e : ((0 : Int).toNat) = 0 := rfl
  rw [e, rdB_set _ _ _ _ (by rw [List.length_replicate]; omega), rdB_rep, fw]
  by_cases g : t = 0
  · subst g; rfl
  · rw [if_neg g]; simpa using g
end Go.Proofs.YtafjlibcdlihcaaDoor.G
