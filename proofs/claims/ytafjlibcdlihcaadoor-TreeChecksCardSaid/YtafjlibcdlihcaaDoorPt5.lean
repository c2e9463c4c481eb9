import Derived.Test.YtafjlibcdlihcaaDoorPt4
import Derived.Test.YtafjlibcdlihcaaDoorG0
import Derived.Test.YtafjlibcdlihcaaDoorG13
import Derived.Test.YtafjlibcdlihcaaDoorG14
import Derived.Test.YtafjlibcdlihcaaDoorG26
namespace Go.Proofs.YtafjlibcdlihcaaDoor.G
open Go.RowKit Go.Proofs.YtafjlibcdlihcaaDoorW.PrintWords Go.Proofs.YtafjlibcdlihcaaDoorW.PrintLast Go.Proofs.YtafjlibcdlihcaaDoorW.PrintMore
set_option linter.unusedVariables false
set_option linter.unusedSimpArgs false

/-! ### Are files a tree -/
theorem rdF_nat (l : List S58) (i : Nat) (h : i < l.length) : rd_T58 l (i : Int) = l[i] := by
  simp [rd_T58, List.getD_eq_getElem?_getD, h]
def modesE : List S58 → Int
  | [] => 0
  | x :: l => if x.f1 < 0 ∨ 511 < x.f1 then 11 else if 65536 < x.f2.size then 4 else modesE l
def checkE (l : List S58) : Int := if pathsE (l.map (·.f0)) = 0 then modesE l else pathsE (l.map (·.f0))
theorem check_l1 (l : List S58) (hl : l.length ≤ 4294967296) : ∀ (d i : Nat), l.length - i = d → i ≤ l.length →
    Ev (fun k => tree_Check.l1 k l l.length i) (modesE (l.drop i)) := by
  intro d
  induction d with
  | zero =>
    intro i hd hi
    have e : i = l.length := by omega
    subst e
    apply Ev.step
    · intro k; rw [tree_Check.l1]
    have c1 : ¬ ((l.length : Int) < (l.length : Int)) := by omega
    simp only [c1, ↓reduceIte]
    rw [List.drop_eq_nil_of_le (Nat.le_refl _)]
    exact Ev.now _
  | succ d ih =>
    intro i hd hi
    have hlt : i < l.length := by omega
    apply Ev.step
    · intro k; rw [tree_Check.l1]
    have c1 : ((i : Int) < (l.length : Int)) := by omega
    have c2 : (0 : Int) ≤ (i : Int) := by omega
    have hw : wrap64 ((i : Int) + 1) = ((i + 1 : Nat) : Int) := by rw [w64_ (by omega) (by omega)]; omega
    simp only [c1, c2, ↓reduceIte, rdF_nat l i hlt, hw, tree_mode.f]
    rw [List.drop_eq_getElem_cons hlt, modesE]
    obtain ⟨x, hx⟩ : ∃ x, l[i]'hlt = x := ⟨_, rfl⟩
    rw [hx]
    by_cases h1 : x.f1 < 0
    · have g1 : ¬ x.f1 ≥ 0 := by omega
      simp only [g1, h1, true_or, ↓reduceIte, Option.bind_some, Bool.false_eq_true]
      exact Ev.now _
    · have g1 : x.f1 ≥ 0 := by omega
      by_cases h2 : 511 < x.f1
      · have g2 : decide (x.f1 ≤ 511) = false := by simp; omega
        simp only [g1, g2, h1, h2, or_true, ↓reduceIte, Option.bind_some, Bool.false_eq_true]
        exact Ev.now _
      · have g2 : decide (x.f1 ≤ 511) = true := by simp; omega
        simp only [g1, g2, h1, h2, or_self, ↓reduceIte, Option.bind_some]
        by_cases h3 : 65536 < x.f2.size
        · have g3 : (x.f2.size : Int) > 65536 := by omega
          simp only [g3, h3, ↓reduceIte]
          exact Ev.now _
        · have g3 : ¬ (x.f2.size : Int) > 65536 := by omega
          simp only [g3, h3, ↓reduceIte]
          exact ih (i + 1) (by omega) (by omega)
theorem check_l0 (l : List S58) (hl : l.length ≤ 4294967296) : ∀ (d i : Nat) (acc : List ByteArray), l.length - i = d → i ≤ l.length → acc = (l.take i).map (·.f0) →
    Ev (fun k => tree_Check.l0 k l acc l l.length i) (checkE l) := by
  intro d
  induction d with
  | zero =>
    intro i acc hd hi ha
    have e : i = l.length := by omega
    subst e
    apply Ev.step
    · intro k; rw [tree_Check.l0]
    have c1 : ¬ ((l.length : Int) < (l.length : Int)) := by omega
    simp only [c1, ↓reduceIte]
    rw [List.take_length] at ha
    subst ha
    refine Ev.bind (paths_ev _ (by rw [List.length_map]; exact hl)) ?_
    unfold checkE
    by_cases h : pathsE (l.map (·.f0)) = 0
    · simp only [h, ↓reduceIte]
      have h1 := check_l1 l hl l.length 0 (by omega) (by omega)
      simpa using h1
    · simp only [h, ↓reduceIte]
      exact Ev.now _
  | succ d ih =>
    intro i acc hd hi ha
    have hlt : i < l.length := by omega
    apply Ev.step
    · intro k; rw [tree_Check.l0]
    have c1 : ((i : Int) < (l.length : Int)) := by omega
    have c2 : (0 : Int) ≤ (i : Int) := by omega
    have c3 : acc.length < 8796093022208 := by rw [ha, List.length_map, List.length_take]; omega
    have hw : wrap64 ((i : Int) + 1) = ((i + 1 : Nat) : Int) := by rw [w64_ (by omega) (by omega)]; omega
    simp only [c1, c2, c3, ↓reduceIte, rdF_nat l i hlt, hw]
    refine ih (i + 1) _ (by omega) (by omega) ?_
    rw [ha, List.take_succ_eq_append_getElem hlt, List.map_append]
    rfl
theorem check_ev (l : List S58) (hl : l.length ≤ 4294967296) : Ev (fun k => tree_Check.f k l) (checkE l) := by
  unfold tree_Check.f
  have h := check_l0 l hl l.length 0 [] (by omega) (by omega) rfl
  simpa using h
theorem refcheck_l1 (l : List S58) (hl : l.length ≤ 4294967296) : ∀ (d i : Nat), l.length - i = d → i ≤ l.length →
    Ev (fun k => barqueref09_Check.l1 k l i) (modesE (l.drop i)) := by
  intro d
  induction d with
  | zero =>
    intro i hd hi
    have e : i = l.length := by omega
    subst e
    apply Ev.step
    · intro k; rw [barqueref09_Check.l1]
    have c1 : ¬ ((l.length : Int) < (l.length : Int)) := by omega
    simp only [c1, ↓reduceIte]
    rw [List.drop_eq_nil_of_le (Nat.le_refl _)]
    exact Ev.now _
  | succ d ih =>
    intro i hd hi
    have hlt : i < l.length := by omega
    apply Ev.step
    · intro k; rw [barqueref09_Check.l1]
    have c1 : ((i : Int) < (l.length : Int)) := by omega
    have c2 : (0 : Int) ≤ (i : Int) := by omega
    have hw : wrap64 ((i : Int) + 1) = ((i + 1 : Nat) : Int) := by rw [w64_ (by omega) (by omega)]; omega
    have hj : ∀ b : Bool, b = decide ((l[i]'hlt).f1 < 0 ∨ 511 < (l[i]'hlt).f1) → Ev (fun k => barqueref09_Check.j2 k l i b) (modesE (l.drop i)) := by
      intro b hb
      apply Ev.step
      · intro k; rw [barqueref09_Check.j2]
      rw [List.drop_eq_getElem_cons hlt, modesE]
      simp only [c1, c2, hw, ↓reduceIte, rdF_nat l i hlt]
      cases b with
      | true =>
        have h1 : (l[i]'hlt).f1 < 0 ∨ 511 < (l[i]'hlt).f1 := of_decide_eq_true hb.symm
        simp only [h1, ↓reduceIte]
        exact Ev.now _
      | false =>
        have h1 : ¬ ((l[i]'hlt).f1 < 0 ∨ 511 < (l[i]'hlt).f1) := of_decide_eq_false hb.symm
        simp only [h1, Bool.false_eq_true, ↓reduceIte]
        by_cases h3 : 65536 < (l[i]'hlt).f2.size
        · have g3 : ((l[i]'hlt).f2.size : Int) > 65536 := by omega
          simp only [g3, h3, ↓reduceIte]
          exact Ev.now _
        · have g3 : ¬ ((l[i]'hlt).f2.size : Int) > 65536 := by omega
          simp only [g3, h3, ↓reduceIte]
          exact ih (i + 1) (by omega) (by omega)
    simp only [c1, c2, ↓reduceIte, rdF_nat l i hlt]
    by_cases h1 : (l[i]'hlt).f1 < 0
    · simp only [h1, ↓reduceIte]
      exact hj true (by simp [h1])
    · simp only [h1, ↓reduceIte]
      exact hj _ (by simp [h1])
theorem refcheck_l0 (l : List S58) (hl : l.length ≤ 4294967296) : ∀ (d i : Nat) (acc : List ByteArray), l.length - i = d → i ≤ l.length → acc = (l.take i).map (·.f0) →
    Ev (fun k => barqueref09_Check.l0 k l acc i) (checkE l) := by
  intro d
  induction d with
  | zero =>
    intro i acc hd hi ha
    have e : i = l.length := by omega
    subst e
    apply Ev.step
    · intro k; rw [barqueref09_Check.l0]
    have c1 : ¬ ((l.length : Int) < (l.length : Int)) := by omega
    simp only [c1, ↓reduceIte]
    rw [List.take_length] at ha
    subst ha
    refine Ev.bind (together_ev _ (by rw [List.length_map]; exact hl)) ?_
    unfold checkE
    by_cases h : pathsE (l.map (·.f0)) = 0
    · simp only [h, ↓reduceIte]
      have h1 := refcheck_l1 l hl l.length 0 (by omega) (by omega)
      simpa using h1
    · simp only [h, ↓reduceIte]
      exact Ev.now _
  | succ d ih =>
    intro i acc hd hi ha
    have hlt : i < l.length := by omega
    apply Ev.step
    · intro k; rw [barqueref09_Check.l0]
    have c1 : ((i : Int) < (l.length : Int)) := by omega
    have c2 : (0 : Int) ≤ (i : Int) := by omega
    have c3 : acc.length < 8796093022208 := by rw [ha, List.length_map, List.length_take]; omega
    have hw : wrap64 ((i : Int) + 1) = ((i + 1 : Nat) : Int) := by rw [w64_ (by omega) (by omega)]; omega
    simp only [c1, c2, c3, ↓reduceIte, rdF_nat l i hlt, hw]
    refine ih (i + 1) _ (by omega) (by omega) ?_
    rw [ha, List.take_succ_eq_append_getElem hlt, List.map_append]
    rfl
theorem refcheck_ev (l : List S58) (hl : l.length ≤ 4294967296) : Ev (fun k => barqueref09_Check.f k l) (checkE l) := by
  unfold barqueref09_Check.f
  have h := refcheck_l0 l hl l.length 0 [] (by omega) (by omega) rfl
  simpa using h
end Go.Proofs.YtafjlibcdlihcaaDoor.G
