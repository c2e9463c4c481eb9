import Derived.Test.YtafjlibcdlihcaaDoorPt2
import Derived.Test.YtafjlibcdlihcaaDoorG0
import Derived.Test.YtafjlibcdlihcaaDoorG11
import Derived.Test.YtafjlibcdlihcaaDoorG23
import Derived.Test.YtafjlibcdlihcaaDoorG24
namespace Go.Proofs.YtafjlibcdlihcaaDoor.G
open Go.RowKit Go.Proofs.YtafjlibcdlihcaaDoorW.PrintWords Go.Proofs.YtafjlibcdlihcaaDoorW.PrintLast Go.Proofs.YtafjlibcdlihcaaDoorW.PrintMore
set_option linter.unusedVariables false
set_option linter.unusedSimpArgs false

/-! ### The reference's order -/
def keyI (s : ByteArray) (i : Nat) : Int := if h : i < s.size then (keyB (s.data.toList[i]'(by rw [sz_]; exact h)) : Int) else -1
theorem keyI_in (s : ByteArray) (i : Nat) (h : i < s.size) : keyI s i = (keyB (s.data.toList[i]'(by rw [sz_]; exact h)) : Int) := by unfold keyI; rw [dif_pos h]
theorem keyI_out (s : ByteArray) (i : Nat) (h : ¬ i < s.size) : keyI s i = -1 := by unfold keyI; rw [dif_neg h]
theorem e47_ (c : UInt8) : ((c.toNat : Int) = 47) ↔ c = 47 := ⟨fun e => UInt8.toNat_inj.1 (Int.ofNat.inj e), fun e => by rw [e]; rfl⟩
theorem keyB_num (c : UInt8) (h : ¬ c = 47) : wrap64 (wrap64 (c.toNat : Int) + 1) = (keyB c : Int) := by
  have := c.toNat_lt
  rw [w64_ (i := (c.toNat : Int)) (by omega) (by omega), w64_ (by omega) (by omega)]
  unfold keyB
  rw [if_neg h]
  omega
theorem reforder_j2 (a b : ByteArray) (i : Nat) (x r : Int) (h : Ev (fun k => barqueref09_Order.j3 k a b i x (keyI b i)) r) : Ev (fun k => barqueref09_Order.j2 k a b i x (-1)) r := by
  apply Ev.step
  · intro k; rw [barqueref09_Order.j2]
  by_cases hb : i < b.size
  · have c1 : ((i : Int) < (b.size : Int)) := by omega
    have c2 : (0 : Int) ≤ (i : Int) := by omega
    rw [keyI_in b i hb] at h
    simp only [c1, c2, ↓reduceIte, bt_nat b i hb, e47_]
    by_cases h47 : b.data.toList[i]'(by rw [sz_]; exact hb) = 47
    · simp only [h47, ↓reduceIte]
      rw [h47] at h
      exact h
    · simp only [h47, ↓reduceIte]
      rw [keyB_num _ h47]
      exact h
  · have c1 : ¬ ((i : Int) < (b.size : Int)) := by omega
    rw [keyI_out b i hb] at h
    simp only [c1, ↓reduceIte]
    exact h
theorem reforder_j1 (a b : ByteArray) (i : Nat) (r : Int) (h : Ev (fun k => barqueref09_Order.j3 k a b i (keyI a i) (keyI b i)) r) : Ev (fun k => barqueref09_Order.j1 k a b i true) r := by
  apply Ev.step
  · intro k; rw [barqueref09_Order.j1]
  simp only [↓reduceIte]
  by_cases ha : i < a.size
  · have c1 : ((i : Int) < (a.size : Int)) := by omega
    have c2 : (0 : Int) ≤ (i : Int) := by omega
    rw [keyI_in a i ha] at h
    simp only [c1, c2, ↓reduceIte, bt_nat a i ha, e47_]
    by_cases h47 : a.data.toList[i]'(by rw [sz_]; exact ha) = 47
    · simp only [h47, ↓reduceIte]
      rw [h47] at h
      exact reforder_j2 a b i _ r h
    · simp only [h47, ↓reduceIte]
      rw [keyB_num _ h47]
      exact reforder_j2 a b i _ r h
  · have c1 : ¬ ((i : Int) < (a.size : Int)) := by omega
    rw [keyI_out a i ha] at h
    simp only [c1, ↓reduceIte]
    exact reforder_j2 a b i _ r h
theorem reforder_l0 (a b : ByteArray) (ha : a.size ≤ 140737488351232) (hb : b.size ≤ 140737488351232) : ∀ (d i : Nat), max a.size b.size - i = d →
    i ≤ 140737488351232 → Ev (fun k => barqueref09_Order.l0 k a b i) (cmpL (a.data.toList.drop i) (b.data.toList.drop i)) := by
  intro d
  induction d with
  | zero =>
    intro i hd hi
    apply Ev.step
    · intro k; rw [barqueref09_Order.l0]
    have c1 : ¬ ((i : Int) < (a.size : Int)) := by omega
    have c2 : decide ((i : Int) < (b.size : Int)) = false := by simp; omega
    simp only [c1, c2, ↓reduceIte]
    rw [show a.data.toList.drop i = [] from List.drop_eq_nil_of_le (by rw [sz_]; omega), show b.data.toList.drop i = [] from List.drop_eq_nil_of_le (by rw [sz_]; omega)]
    apply Ev.step
    · intro k; rw [barqueref09_Order.j1]
    simp only [Bool.false_eq_true, ↓reduceIte]
    exact Ev.now _
  | succ d ih =>
    intro i hd hi
    have main : Ev (fun k => barqueref09_Order.j1 k a b i true) (cmpL (a.data.toList.drop i) (b.data.toList.drop i)) := by
      apply reforder_j1
      apply Ev.step
      · intro k; rw [barqueref09_Order.j3]
      have hw : wrap64 ((i : Int) + 1) = ((i + 1 : Nat) : Int) := by rw [w64_ (by omega) (by omega)]; omega
      rw [hw]
      by_cases h1 : i < a.size <;> by_cases h2 : i < b.size
      · have hla : i < a.data.toList.length := by rw [sz_]; exact h1
        have hlb : i < b.data.toList.length := by rw [sz_]; exact h2
        rw [keyI_in a i h1, keyI_in b i h2]
        have hih := ih (i + 1) (by omega) (by omega)
        rw [List.drop_eq_getElem_cons hla, List.drop_eq_getElem_cons hlb]
        obtain ⟨x, hx⟩ : ∃ x, a.data.toList[i]'hla = x := ⟨_, rfl⟩
        obtain ⟨y, hy⟩ : ∃ y, b.data.toList[i]'hlb = y := ⟨_, rfl⟩
        rw [hx, hy]
        unfold cmpL
        by_cases he : x = y
        · subst he
          have c1 : ¬ ((keyB x : Int) < (keyB x : Int)) := by omega
          have c2 : ¬ ((keyB x : Int) > (keyB x : Int)) := by omega
          simp only [c1, c2, ↓reduceIte]
          exact hih
        · have hk : keyB x ≠ keyB y := fun e => he (keyB_inj e)
          by_cases h3 : keyB x < keyB y
          · have c1 : ((keyB x : Int) < (keyB y : Int)) := by omega
            simp only [c1, he, h3, ↓reduceIte]
            exact Ev.now _
          · have c1 : ¬ ((keyB x : Int) < (keyB y : Int)) := by omega
            have c2 : ((keyB x : Int) > (keyB y : Int)) := by omega
            simp only [c1, c2, he, h3, ↓reduceIte]
            exact Ev.now _
      · have hla : i < a.data.toList.length := by rw [sz_]; exact h1
        rw [keyI_in a i h1, keyI_out b i h2, List.drop_eq_getElem_cons hla, show b.data.toList.drop i = [] from List.drop_eq_nil_of_le (by rw [sz_]; omega), cmpL]
        have c1 : ¬ ((keyB (a.data.toList[i]'hla) : Int) < -1) := by omega
        have c2 : ((keyB (a.data.toList[i]'hla) : Int) > -1) := by omega
        simp only [c1, c2, ↓reduceIte]
        exact Ev.now _
      · have hlb : i < b.data.toList.length := by rw [sz_]; exact h2
        rw [keyI_out a i h1, keyI_in b i h2, List.drop_eq_getElem_cons hlb, show a.data.toList.drop i = [] from List.drop_eq_nil_of_le (by rw [sz_]; omega), cmpL]
        have c1 : ((-1 : Int) < (keyB (b.data.toList[i]'hlb) : Int)) := by omega
        simp only [c1, ↓reduceIte]
        exact Ev.now _
      · omega
    apply Ev.step
    · intro k; rw [barqueref09_Order.l0]
    by_cases h1 : i < a.size
    · have c1 : ((i : Int) < (a.size : Int)) := by omega
      simp only [c1, ↓reduceIte]
      exact main
    · have c1 : ¬ ((i : Int) < (a.size : Int)) := by omega
      have c2 : decide ((i : Int) < (b.size : Int)) = true := by simp; omega
      simp only [c1, c2, ↓reduceIte]
      exact main
theorem reforder_ev (a b : ByteArray) (ha : a.size ≤ 140737488351232) (hb : b.size ≤ 140737488351232) : Ev (fun k => barqueref09_Order.f k a b) (cmpL a.data.toList b.data.toList) := by
  unfold barqueref09_Order.f
  have h := reforder_l0 a b ha hb _ 0 rfl (by omega)
  simpa using h

/-! ### Does a path lie in another one -/
def withinB (s i : List UInt8) : Bool := decide (i.length < s.length) && (s.take (i.length + 1) == i ++ [47])
theorem within_f (a b : ByteArray) : tree_Within.f a b = some (withinB a.data.toList b.data.toList) := by
  unfold tree_Within.f withinB
  rw [sz_, sz_]
  by_cases h : b.size < a.size
  · have c1 : (a.size : Int) > (b.size : Int) := by omega
    have c2 : (0 : Int) ≤ (b.size : Int) := by omega
    have c3 : (b.size : Int) ≤ (a.size : Int) := by omega
    have c4 : (b.size : Int) < (a.size : Int) := by omega
    have hl : b.size < a.data.toList.length := by rw [sz_]; exact h
    simp only [c1, c2, c3, c4, ↓reduceIte, bt_nat a b.size h, decide_eq_true h, Bool.true_and]
    rw [toList_data_, toList_data_, Go.Lib.extract_data, List.drop_zero, Nat.sub_zero, List.take_succ_eq_append_getElem hl]
    have hlen : (a.data.toList.take b.size).length = b.data.toList.length := by rw [List.length_take, sz_, sz_]; omega
    by_cases he : a.data.toList.take b.size = b.data.toList
    · simp only [he, ↓reduceIte]
      congr 1
      rw [Bool.eq_iff_iff]
      simp only [beq_iff_eq, e47_, List.append_cancel_left_eq, List.cons.injEq, and_true]
    · simp only [he, ↓reduceIte]
      congr 1
      symm
      rw [beq_eq_false_iff_ne]
      intro e
      exact he (List.append_inj e hlen).1
  · have c1 : ¬ ((a.size : Int) > (b.size : Int)) := by omega
    simp only [c1, ↓reduceIte, decide_eq_false h, Bool.false_and]
theorem refwithin_f (a b : ByteArray) (hb : b.size ≤ 140737488351232) : barqueref09_Within.f a b = some (withinB a.data.toList b.data.toList) := by
  unfold barqueref09_Within.f withinB
  rw [sz_, sz_]
  by_cases h : b.size < a.size
  · have c1 : (a.size : Int) > (b.size : Int) := by omega
    have hw : wrap64 ((b.size : Int) + 1) = ((b.size + 1 : Nat) : Int) := by rw [w64_ (by omega) (by omega)]; omega
    rw [hw]
    have c2 : (0 : Int) ≤ ((b.size + 1 : Nat) : Int) := by omega
    have c3 : ((b.size + 1 : Nat) : Int) ≤ (a.size : Int) := by omega
    have c4 : b.size + 1 ≤ 9223372036854775807 := by omega
    simp only [c1, c2, c3, c4, ↓reduceIte, decide_eq_true h, Bool.true_and, Int.toNat_natCast]
    rw [toList_data_, toList_data_, Go.Lib.extract_data, List.drop_zero, Nat.sub_zero]
    congr 2
  · have c1 : ¬ ((a.size : Int) > (b.size : Int)) := by omega
    simp only [c1, ↓reduceIte, decide_eq_false h, Bool.false_and]
end Go.Proofs.YtafjlibcdlihcaaDoor.G
