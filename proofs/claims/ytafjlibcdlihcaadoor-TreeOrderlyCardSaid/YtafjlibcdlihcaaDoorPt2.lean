import Derived.Test.YtafjlibcdlihcaaDoorPt1
import Derived.Test.YtafjlibcdlihcaaDoorG0
import Derived.Test.YtafjlibcdlihcaaDoorG10
namespace Go.Proofs.YtafjlibcdlihcaaDoor.G
open Go.RowKit Go.Proofs.YtafjlibcdlihcaaDoorW.PrintWords Go.Proofs.YtafjlibcdlihcaaDoorW.PrintLast Go.Proofs.YtafjlibcdlihcaaDoorW.PrintMore
set_option linter.unusedVariables false
set_option linter.unusedSimpArgs false

/-! ### The order of texts -/
def keyB (c : UInt8) : Nat := if c = 47 then 0 else c.toNat + 1
def cmpL : List UInt8 → List UInt8 → Int
  | [], [] => 0
  | [], _ :: _ => -1
  | _ :: _, [] => 1
  | a :: x, b :: y => if a = b then cmpL x y else if keyB a < keyB b then -1 else 1
/-- What the program's Order gives. -/
def ordV : List UInt8 → List UInt8 → Int
  | [], y => -(y.length : Int)
  | x, [] => (x.length : Int)
  | a :: x, b :: y => if a = b then ordV x y else if a = 47 then -1 else if b = 47 then 1 else (a.toNat : Int) - (b.toNat : Int)
theorem keyB_inj {a b : UInt8} (h : keyB a = keyB b) : a = b := by
  unfold keyB at h
  split at h <;> split at h <;> rename_i h1 h2
  · rw [h1, h2]
  · omega
  · omega
  · exact UInt8.toNat_inj.1 (by omega)
theorem ordV_cmp : ∀ x y : List UInt8, (ordV x y < 0 ↔ cmpL x y < 0) ∧ (ordV x y = 0 ↔ cmpL x y = 0) ∧ (0 < ordV x y ↔ 0 < cmpL x y)
  | [], [] => by simp [ordV, cmpL]
  | [], b :: y => by simp [ordV, cmpL]; omega
  | a :: x, [] => by simp [ordV, cmpL]; omega
  | a :: x, b :: y => by
    unfold ordV cmpL
    by_cases h : a = b
    · rw [if_pos h, if_pos h]; exact ordV_cmp x y
    · rw [if_neg h, if_neg h]
      have hn : a.toNat ≠ b.toNat := fun e => h (UInt8.toNat_inj.1 e)
      unfold keyB
      by_cases h1 : a = 47
      · have h2 : ¬ b = 47 := fun e => h (by rw [h1, e])
        rw [if_pos h1, if_pos h1, if_neg h2, if_pos (by omega)]; decide
      · by_cases h2 : b = 47
        · rw [if_neg h1, if_neg h1, if_pos h2, if_pos h2, if_neg (by omega)]; decide
        · rw [if_neg h1, if_neg h1, if_neg h2, if_neg h2]
          by_cases h3 : a.toNat < b.toNat
          · rw [if_pos (by omega)]; omega
          · rw [if_neg (by omega)]; omega
theorem cmpL_range : ∀ x y : List UInt8, cmpL x y = -1 ∨ cmpL x y = 0 ∨ cmpL x y = 1
  | [], [] => by simp [cmpL]
  | [], b :: y => by simp [cmpL]
  | a :: x, [] => by simp [cmpL]
  | a :: x, b :: y => by
    unfold cmpL
    split
    · exact cmpL_range x y
    · split <;> simp
theorem cmpL_eq : ∀ x y : List UInt8, cmpL x y = 0 ↔ x = y
  | [], [] => by simp [cmpL]
  | [], b :: y => by simp [cmpL]
  | a :: x, [] => by simp [cmpL]
  | a :: x, b :: y => by
    unfold cmpL
    by_cases h : a = b
    · rw [if_pos h, cmpL_eq x y, h]; simp
    · rw [if_neg h]
      split <;> simp [h]
theorem cmpL_neg : ∀ x y : List UInt8, cmpL y x = - cmpL x y
  | [], [] => rfl
  | [], b :: y => rfl
  | a :: x, [] => rfl
  | a :: x, b :: y => by
    unfold cmpL
    by_cases h : a = b
    · rw [if_pos h, if_pos h.symm, cmpL_neg x y]
    · rw [if_neg h, if_neg (fun e => h e.symm)]
      have hk : keyB a ≠ keyB b := fun e => h (keyB_inj e)
      by_cases h1 : keyB a < keyB b
      · rw [if_pos h1, if_neg (by omega)]; rfl
      · rw [if_neg h1, if_pos (by omega)]
theorem cmpL_trans : ∀ x y z : List UInt8, cmpL x y ≤ 0 → cmpL y z ≤ 0 → cmpL x z ≤ 0 ∧ (cmpL x z = 0 → cmpL x y = 0 ∧ cmpL y z = 0)
  | [], [], z, _, h => ⟨h, fun e => ⟨rfl, e⟩⟩
  | [], b :: y, [], _, h => by simp [cmpL] at h
  | [], b :: y, c :: z, _, _ => by simp [cmpL]
  | a :: x, [], z, h, _ => by simp [cmpL] at h
  | a :: x, b :: y, [], _, h => by simp [cmpL] at h
  | a :: x, b :: y, c :: z, h, k => by
    unfold cmpL at h k ⊢
    by_cases h1 : a = b
    · subst h1
      rw [if_pos rfl] at h ⊢
      by_cases h2 : a = c
      · subst h2
        rw [if_pos rfl] at k ⊢
        rw [if_pos rfl]
        exact cmpL_trans x y z h k
      · rw [if_neg h2] at k ⊢
        rw [if_neg h2]
        refine ⟨k, fun e => ?_⟩
        split at e <;> cases e
    · rw [if_neg h1] at h ⊢
      have h3 : keyB a < keyB b := by
        by_cases h4 : keyB a < keyB b
        · exact h4
        · rw [if_neg h4] at h; exact absurd h (by decide)
      by_cases h2 : b = c
      · subst h2
        rw [if_neg h1, if_pos h3]
        exact ⟨by decide, fun e => by cases e⟩
      · rw [if_neg h2] at k ⊢
        have h5 : keyB b < keyB c := by
          by_cases h4 : keyB b < keyB c
          · exact h4
          · rw [if_neg h4] at k; exact absurd k (by decide)
        have h6 : ¬ a = c := fun e => by subst e; omega
        rw [if_neg h6, if_pos (by omega)]
        exact ⟨by decide, fun e => by cases e⟩
theorem order_l0 (a b : ByteArray) (ha : a.size ≤ 140737488351232) (hb : b.size ≤ 140737488351232) (m : Nat) (hm : m = min a.size b.size) : ∀ (d i : Nat), m - i = d → i ≤ m →
    a.data.toList.take i = b.data.toList.take i →
    Ev (fun k => tree_Order.l0 k a b m i) (ordV (a.data.toList.drop i) (b.data.toList.drop i)) := by
  intro d
  induction d with
  | zero =>
    intro i hd hi hp
    have e : i = m := by omega
    clear hd hi hp
    subst e
    apply Ev.step
    · intro k; rw [tree_Order.l0]
    have c1 : ¬ ((i : Int) < (i : Int)) := by omega
    simp only [c1, ↓reduceIte]
    rw [w64_ (by omega) (by omega)]
    have hv : ordV (a.data.toList.drop i) (b.data.toList.drop i) = (a.size : Int) - (b.size : Int) := by
      by_cases h : a.size ≤ b.size
      · have e2 : i = a.size := by omega
        rw [show a.data.toList.drop i = [] from List.drop_eq_nil_of_le (by rw [sz_]; omega), ordV, List.length_drop, sz_]
        omega
      · have e2 : i = b.size := by omega
        rw [show b.data.toList.drop i = [] from List.drop_eq_nil_of_le (by rw [sz_]; omega)]
        have hl : (a.data.toList.drop i).length = a.size - i := by rw [List.length_drop, sz_]
        cases hx : a.data.toList.drop i with
        | nil => rw [hx] at hl; simp at hl; omega
        | cons c x =>
          rw [hx] at hl
          rw [ordV, hl]
          · omega
          · simp
    rw [hv]
    exact Ev.now _
  | succ d ih =>
    intro i hd hi hp
    have hlt : i < m := by omega
    have hia : i < a.size := by omega
    have hib : i < b.size := by omega
    have hla : i < a.data.toList.length := by rw [sz_]; exact hia
    have hlb : i < b.data.toList.length := by rw [sz_]; exact hib
    apply Ev.step
    · intro k; rw [tree_Order.l0]
    have c1 : ((i : Int) < (m : Int)) := by omega
    have c2 : (0 : Int) ≤ (i : Int) := by omega
    have c3 : ((i : Int) < (a.size : Int)) := by omega
    have c4 : ((i : Int) < (b.size : Int)) := by omega
    have hw : wrap64 ((i : Int) + 1) = ((i + 1 : Nat) : Int) := by rw [w64_ (by omega) (by omega)]; omega
    simp only [c1, c2, c3, c4, ↓reduceIte, hw, bt_nat a i hia, bt_nat b i hib]
    rw [List.drop_eq_getElem_cons hla, List.drop_eq_getElem_cons hlb]
    obtain ⟨x, hx⟩ : ∃ x, a.data.toList[i]'hla = x := ⟨_, rfl⟩
    obtain ⟨y, hy⟩ : ∃ y, b.data.toList[i]'hlb = y := ⟨_, rfl⟩
    simp only [hx, hy]
    have bx := x.toNat_lt
    have by_ := y.toNat_lt
    rw [w64_ (i := (x.toNat : Int)) (by omega) (by omega), w64_ (i := (y.toNat : Int)) (by omega) (by omega)]
    unfold ordV
    by_cases h : x = y
    · subst h
      simp only [↓reduceIte]
      refine ih (i + 1) (by omega) (by omega) ?_
      rw [List.take_succ_eq_append_getElem hla, List.take_succ_eq_append_getElem hlb, hp, hx, hy]
    · have h' : ¬ ((x.toNat : Int) = (y.toNat : Int)) := fun e => h (UInt8.toNat_inj.1 (Int.ofNat.inj e))
      simp only [h, h', ↓reduceIte]
      have e47 : ∀ c : UInt8, ((c.toNat : Int) = 47) ↔ c = 47 := fun c => ⟨fun e => UInt8.toNat_inj.1 (Int.ofNat.inj e), fun e => by rw [e]; rfl⟩
      simp only [e47]
      by_cases h1 : x = 47
      · simp only [h1, ↓reduceIte]; exact Ev.now _
      · by_cases h2 : y = 47
        · simp only [h1, h2, ↓reduceIte]; exact Ev.now _
        · simp only [h1, h2, ↓reduceIte]
          rw [w64_ (by omega) (by omega)]
          exact Ev.now _
theorem order_ev (a b : ByteArray) (ha : a.size ≤ 140737488351232) (hb : b.size ≤ 140737488351232) : Ev (fun k => tree_Order.f k a b) (ordV a.data.toList b.data.toList) := by
  unfold tree_Order.f
  have hm : mn (a.size : Int) (b.size : Int) = ((min a.size b.size : Nat) : Int) := by
    unfold mn
    split <;> omega
  rw [hm]
  have h := order_l0 a b ha hb (min a.size b.size) rfl (min a.size b.size) 0 (by omega) (by omega) rfl
  simpa using h
end Go.Proofs.YtafjlibcdlihcaaDoor.G
