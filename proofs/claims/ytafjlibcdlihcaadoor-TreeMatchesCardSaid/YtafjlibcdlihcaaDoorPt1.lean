import Derived.Test.YtafjlibcdlihcaaDoorG0
import Derived.Test.YtafjlibcdlihcaaDoorG4
import Derived.Test.YtafjlibcdlihcaaDoorG5
import Derived.Test.YtafjlibcdlihcaaDoorG6
import Derived.Test.YtafjlibcdlihcaaDoorG7
import Derived.Test.YtafjlibcdlihcaaDoorG8
import Derived.Test.YtafjlibcdlihcaaDoorG9
namespace Go.Proofs.YtafjlibcdlihcaaDoor.G
open Go.RowKit Go.Proofs.YtafjlibcdlihcaaDoorW.PrintWords Go.Proofs.YtafjlibcdlihcaaDoorW.PrintLast Go.Proofs.YtafjlibcdlihcaaDoorW.PrintMore
set_option linter.unusedVariables false
set_option linter.unusedSimpArgs false

theorem w64_ {i : Int} (h : -9223372036854775808 ≤ i) (h2 : i ≤ 9223372036854775807) : wrap64 i = i := by
  unfold wrap64
  omega
theorem bt_nat (s : ByteArray) (i : Nat) (h : i < s.size) : bt s (i : Int) = ((s.data.toList[i]'(by simpa using h)).toNat : Int) := by
  simp [bt, h]
  rfl
theorem rdOf_nat {α : Type} (d : α) (l : List α) (i : Nat) (h : i < l.length) : rdOf d l (i : Int) = l[i] := by
  simp [rdOf, List.getD_eq_getElem?_getD, h]
theorem sz_ (s : ByteArray) : s.data.toList.length = s.size := by simp

/-! ### May a name be -/
theorem refname_l0 (s : ByteArray) (hs : s.size ≤ 4611686018427387904) : ∀ (d i : Nat), s.size - i = d → i ≤ s.size →
    Ev (fun k => barqueref09_name.l0 k s i) ((s.data.toList.drop i).all (fun c => decide (33 ≤ c.toNat) && decide (c.toNat ≤ 126))) := by
  intro d
  induction d with
  | zero =>
    intro i hd hi
    have e : i = s.size := by omega
    subst e
    apply Ev.step
    · intro k; rw [barqueref09_name.l0]
    have c1 : ¬ ((s.size : Int) < (s.size : Int)) := by omega
    simp only [c1, ↓reduceIte]
    rw [List.drop_eq_nil_of_le (by rw [sz_]; exact Nat.le_refl _)]
    exact Ev.now _
  | succ d ih =>
    intro i hd hi
    apply Ev.step
    · intro k; rw [barqueref09_name.l0]
    have hlt : i < s.size := by omega
    have hll : i < s.data.toList.length := by rw [sz_]; exact hlt
    have c1 : ((i : Int) < (s.size : Int)) := by omega
    have c2 : (0 : Int) ≤ (i : Int) := by omega
    simp only [c1, c2, ↓reduceIte, bt_nat s i hlt]
    rw [List.drop_eq_getElem_cons hll, List.all_cons]
    obtain ⟨c, hc⟩ : ∃ c, s.data.toList[i]'hll = c := ⟨_, rfl⟩
    rw [hc]
    by_cases g1 : c.toNat < 33
    · have g1' : ((c.toNat : Int) < 33) := by omega
      simp only [g1', ↓reduceIte]
      rw [show decide (33 ≤ c.toNat) = false by simp; omega]
      exact Ev.now _
    · have g1' : ¬ ((c.toNat : Int) < 33) := by omega
      by_cases g2 : 126 < c.toNat
      · have g2' : ((c.toNat : Int) > 126) := by omega
        simp only [g1', g2', ↓reduceIte]
        rw [show decide (c.toNat ≤ 126) = false by simp; omega, Bool.and_false]
        exact Ev.now _
      · have g2' : ¬ ((c.toNat : Int) > 126) := by omega
        simp only [g1', g2', ↓reduceIte]
        rw [show decide (c.toNat ≤ 126) = true by simp; omega, show decide (33 ≤ c.toNat) = true by simp; omega]
        have hw : wrap64 ((i : Int) + 1) = ((i + 1 : Nat) : Int) := by rw [w64_ (by omega) (by omega)]; omega
        simp only [hw, Bool.and_self, Bool.true_and]
        exact ih (i + 1) (by omega) (by omega)
theorem refname_ev (s : ByteArray) (hs : s.size ≤ 4611686018427387904) : Ev (fun k => barqueref09_name.f k s) (nameB s.data.toList) := by
  unfold barqueref09_name.f nameB
  rw [toList_data_, sz_]
  have step1 : ∀ b : Bool, b = true → Ev (fun k => barqueref09_name.j0 k s b) false := fun b hb => by
    subst hb
    apply Ev.step
    · intro k; rw [barqueref09_name.j0]
    simp only [↓reduceIte]
    exact Ev.now _
  by_cases c1 : s.data.toList = []
  · simp only [c1, ↓reduceIte]
    exact step1 _ rfl
  by_cases c2 : s.data.toList = [46]
  · simp only [c2, ↓reduceIte, reduceCtorEq]
    exact step1 _ rfl
  by_cases c3 : s.data.toList = [46, 46]
  · simp only [c3, ↓reduceIte, reduceCtorEq, List.cons.injEq, and_false]
    exact step1 _ rfl
  simp only [c1, c2, c3, ↓reduceIte]
  have e1 : s.data.toList.isEmpty = false := by simpa using c1
  have e2 : (s.data.toList == [46]) = false := by simpa using c2
  have e3 : (s.data.toList == [46, 46]) = false := by simpa using c3
  rw [e1, e2, e3]
  by_cases c4 : s.size ≤ 32
  · have c4' : decide ((s.size : Int) > 32) = false := by simp; omega
    rw [c4', show decide (s.size ≤ 32) = true by simpa using c4]
    apply Ev.step
    · intro k; rw [barqueref09_name.j0]
    simp only [Bool.false_eq_true, ↓reduceIte]
    have h := refname_l0 s hs s.size 0 (by omega) (by omega)
    simpa using h
  · have c4' : decide ((s.size : Int) > 32) = true := by simp; omega
    rw [c4', show decide (s.size ≤ 32) = false by simpa using c4]
    exact step1 _ rfl

/-! ### Names -/
theorem extract_ba (s : ByteArray) (a b : Nat) : s.extract a b = ⟨((s.data.toList.take b).drop a).toArray⟩ := by
  have h := Go.Lib.extract_data s a b
  have e : (s.extract a b).data = ((s.data.toList.take b).drop a).toArray := by
    apply Array.toList_inj.1
    rw [h, List.drop_take]
  cases hx : s.extract a b
  rw [hx] at e
  exact congrArg ByteArray.mk e
theorem refnames_l0 (s : ByteArray) (hs : s.size ≤ 4294967296) : ∀ (d i j : Nat) (acc : List ByteArray), s.size - i = d → i ≤ s.size → j ≤ i → acc.length ≤ i →
    Ev (fun k => barqueref09_Names.l0 k s acc j i) (acc ++ (splitSlash ((s.data.toList.take i).drop j) (s.data.toList.drop i)).map fun l => ⟨l.toArray⟩) := by
  intro d
  induction d with
  | zero =>
    intro i j acc hd hi hj ha
    have e : i = s.size := by omega
    subst e
    apply Ev.step
    · intro k; rw [barqueref09_Names.l0]
    have c1 : (s.size : Int) ≤ (s.size : Int) := Int.le_refl _
    have c2 : (0 : Int) ≤ (j : Int) := by omega
    have c3 : (j : Int) ≤ (s.size : Int) := by omega
    have c4 : acc.length < 8796093022208 := by omega
    have hw : wrap64 ((s.size : Int) + 1) = (s.size : Int) + 1 := w64_ (by omega) (by omega)
    simp only [c1, c2, c3, c4, ↓reduceIte, hw]
    apply Ev.step
    · intro k; rw [barqueref09_Names.l0]
    have c5 : ¬ ((s.size : Int) + 1 ≤ (s.size : Int)) := by omega
    simp only [c5, ↓reduceIte]
    rw [show s.data.toList.drop s.size = [] from List.drop_eq_nil_of_le (by rw [sz_]; exact Nat.le_refl _), splitSlash]
    rw [extract_ba]
    simp only [Int.toNat_natCast]
    exact Ev.now _
  | succ d ih =>
    intro i j acc hd hi hj ha
    have hlt : i < s.size := by omega
    have hll : i < s.data.toList.length := by rw [sz_]; exact hlt
    apply Ev.step
    · intro k; rw [barqueref09_Names.l0]
    have c1 : (i : Int) ≤ (s.size : Int) := by omega
    have c1' : ¬ ((i : Int) = (s.size : Int)) := by omega
    have c1'' : (i : Int) < (s.size : Int) := by omega
    have c2 : (0 : Int) ≤ (j : Int) := by omega
    have c2' : (0 : Int) ≤ (i : Int) := by omega
    have c3 : (j : Int) ≤ (i : Int) := by omega
    have c4 : acc.length < 8796093022208 := by omega
    have hw : wrap64 ((i : Int) + 1) = ((i + 1 : Nat) : Int) := by rw [w64_ (by omega) (by omega)]; omega
    simp only [c1, c1', c1'', c2, c2', c3, c4, ↓reduceIte, hw, bt_nat s i hlt]
    rw [List.drop_eq_getElem_cons hll]
    by_cases hc : s.data.toList[i]'hll = 47
    · have hc' : (((s.data.toList[i]'hll).toNat : Int) = 47) := by rw [hc]; rfl
      simp only [hc', ↓reduceIte]
      rw [splitSlash, if_pos hc, List.map_cons, extract_ba]
      simp only [Int.toNat_natCast]
      have h := ih (i + 1) (i + 1) (acc ++ [⟨((s.data.toList.take i).drop j).toArray⟩]) (by omega) (by omega) (Nat.le_refl _) (by rw [List.length_append, List.length_singleton]; omega)
      rw [show (s.data.toList.take (i + 1)).drop (i + 1) = [] from List.drop_eq_nil_of_le (by rw [List.length_take]; omega), List.append_assoc] at h
      exact h
    · have hc' : ¬ (((s.data.toList[i]'hll).toNat : Int) = 47) := by
        intro e
        apply hc
        apply UInt8.toNat_inj.1
        exact Int.ofNat.inj e
      simp only [hc', ↓reduceIte]
      rw [splitSlash, if_neg hc]
      have h := ih (i + 1) j acc (by omega) (by omega) (by omega) (by omega)
      rw [List.take_succ_eq_append_getElem hll, List.drop_append_of_le_length (by rw [List.length_take, sz_]; omega)] at h
      exact h
theorem refnames_ev (s : ByteArray) (hs : s.size ≤ 4294967296) : Ev (fun k => barqueref09_Names.f k s) (names_ s) := by
  unfold barqueref09_Names.f names_
  have h := refnames_l0 s hs s.size 0 0 [] (by omega) (by omega) (Nat.le_refl _) (Nat.zero_le _)
  simpa using h
theorem splitSlash_mem : ∀ (l acc x : List UInt8), x ∈ splitSlash acc l → x.length ≤ acc.length + l.length
  | [], acc, x, h => by
    rw [splitSlash, List.mem_singleton] at h
    rw [h]; omega
  | c :: l, acc, x, h => by
    unfold splitSlash at h
    split at h
    · rcases List.mem_cons.1 h with h | h
      · rw [h]; omega
      · have h1 : x.length ≤ l.length := by simpa using splitSlash_mem l [] x h
        simp only [List.length_cons]
        omega
    · have h1 : x.length ≤ acc.length + 1 + l.length := by simpa using splitSlash_mem l (acc ++ [c]) x h
      simp only [List.length_cons]
      omega
theorem names_mem (s n : ByteArray) (h : n ∈ names_ s) : n.size ≤ s.size := by
  unfold names_ at h
  obtain ⟨l, hl, rfl⟩ := List.mem_map.1 h
  have h1 : l.length ≤ s.data.toList.length := by simpa using splitSlash_mem _ _ _ hl
  rw [sz_] at h1
  show l.toArray.size ≤ s.size
  simpa using h1

/-! ### May a path be -/
def pathE (s : ByteArray) : Int := if 200 < s.size then 4 else if (names_ s).all (fun n => nameB n.data.toList) then 0 else 10
theorem path_l0 (l : List ByteArray) (hl : l.length ≤ 4294967296) : ∀ (d i : Nat), l.length - i = d → i ≤ l.length →
    Ev (fun k => tree_Path.l0 k l l.length i) (if (l.drop i).all (fun n => nameB n.data.toList) then 0 else 10) := by
  intro d
  induction d with
  | zero =>
    intro i hd hi
    have e : i = l.length := by omega
    subst e
    apply Ev.step
    · intro k; rw [tree_Path.l0]
    have c1 : ¬ ((l.length : Int) < (l.length : Int)) := by omega
    simp only [c1, ↓reduceIte]
    rw [List.drop_eq_nil_of_le (Nat.le_refl _)]
    exact Ev.now _
  | succ d ih =>
    intro i hd hi
    have hlt : i < l.length := by omega
    apply Ev.step
    · intro k; rw [tree_Path.l0]
    have c1 : ((i : Int) < (l.length : Int)) := by omega
    have c2 : (0 : Int) ≤ (i : Int) := by omega
    have hw : wrap64 ((i : Int) + 1) = ((i + 1 : Nat) : Int) := by rw [w64_ (by omega) (by omega)]; omega
    simp only [c1, c2, ↓reduceIte, rdOf_nat _ l i hlt, hw, tree_name.f, Option.bind_some]
    rw [List.drop_eq_getElem_cons hlt, List.all_cons]
    cases nameB (l[i]'hlt).data.toList with
    | false => exact Ev.now _
    | true => exact ih (i + 1) (by omega) (by omega)
theorem path_ev (s : ByteArray) : Ev (fun k => tree_Path.f k s) (pathE s) := by
  unfold tree_Path.f pathE
  by_cases h : 200 < s.size
  · have c1 : ((s.size : Int) > 200) := by omega
    simp only [c1, h, ↓reduceIte]
    exact Ev.now _
  · have c1 : ¬ ((s.size : Int) > 200) := by omega
    have c2 : s.size < 4294967281 := by omega
    simp only [c1, h, ↓reduceIte, strings_Split.f, c2, and_self, Option.bind_some]
    have := names_length_ s
    have h := path_l0 (names_ s) (by omega) (names_ s).length 0 (by omega) (by omega)
    simpa using h
theorem refpath_l0 (l : List ByteArray) (hl : l.length ≤ 4294967296) (hm : ∀ n ∈ l, n.size ≤ 4611686018427387904) : ∀ (d i : Nat), l.length - i = d → i ≤ l.length →
    Ev (fun k => barqueref09_Path.l0 k l i) (if (l.drop i).all (fun n => nameB n.data.toList) then 0 else 10) := by
  intro d
  induction d with
  | zero =>
    intro i hd hi
    have e : i = l.length := by omega
    subst e
    apply Ev.step
    · intro k; rw [barqueref09_Path.l0]
    have c1 : ¬ ((l.length : Int) < (l.length : Int)) := by omega
    simp only [c1, ↓reduceIte]
    rw [List.drop_eq_nil_of_le (Nat.le_refl _)]
    exact Ev.now _
  | succ d ih =>
    intro i hd hi
    have hlt : i < l.length := by omega
    apply Ev.step
    · intro k; rw [barqueref09_Path.l0]
    have c1 : ((i : Int) < (l.length : Int)) := by omega
    have c2 : (0 : Int) ≤ (i : Int) := by omega
    have hw : wrap64 ((i : Int) + 1) = ((i + 1 : Nat) : Int) := by rw [w64_ (by omega) (by omega)]; omega
    simp only [c1, c2, ↓reduceIte, rdOf_nat _ l i hlt, hw]
    refine Ev.bind (refname_ev _ (hm _ (List.getElem_mem _))) ?_
    rw [List.drop_eq_getElem_cons hlt, List.all_cons]
    cases nameB (l[i]'hlt).data.toList with
    | false => exact Ev.now _
    | true => exact ih (i + 1) (by omega) (by omega)
theorem refpath_ev (s : ByteArray) : Ev (fun k => barqueref09_Path.f k s) (pathE s) := by
  unfold barqueref09_Path.f pathE
  by_cases h : 200 < s.size
  · have c1 : ((s.size : Int) > 200) := by omega
    simp only [c1, h, ↓reduceIte]
    exact Ev.now _
  · have c1 : ¬ ((s.size : Int) > 200) := by omega
    simp only [c1, h, ↓reduceIte]
    refine Ev.bind (refnames_ev s (by omega)) ?_
    have := names_length_ s
    have h := refpath_l0 (names_ s) (by omega) (fun n hn => by have := names_mem s n hn; omega) (names_ s).length 0 (by omega) (by omega)
    simpa using h
theorem pathE_size (s : ByteArray) (h : pathE s = 0) : s.size ≤ 200 := by
  unfold pathE at h
  split at h
  · cases h
  · omega
end Go.Proofs.YtafjlibcdlihcaaDoor.G
