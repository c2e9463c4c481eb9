import Derived.Test.YtafjlibcdlihcaaDoorPt3
import Derived.Test.YtafjlibcdlihcaaDoorG0
import Derived.Test.YtafjlibcdlihcaaDoorG12
import Derived.Test.YtafjlibcdlihcaaDoorG25
namespace Go.Proofs.YtafjlibcdlihcaaDoor.G
open Go.RowKit Go.Proofs.YtafjlibcdlihcaaDoorW.PrintWords Go.Proofs.YtafjlibcdlihcaaDoorW.PrintLast Go.Proofs.YtafjlibcdlihcaaDoorW.PrintMore
set_option linter.unusedVariables false
set_option linter.unusedSimpArgs false

/-! ### May paths stand together -/
def togE : Option ByteArray → List ByteArray → Int
  | _, [] => 0
  | p, s :: l => if pathE s = 0 then match p with
      | none => togE (some s) l
      | some q => if 0 < cmpL q.data.toList s.data.toList then 12 else if q = s then 9 else if withinB s.data.toList q.data.toList then 9 else togE (some s) l
    else pathE s
theorem togE_cons (p : Option ByteArray) (s : ByteArray) (l : List ByteArray) : togE p (s :: l) = if pathE s = 0 then (match p with
      | none => togE (some s) l
      | some q => if 0 < cmpL q.data.toList s.data.toList then 12 else if q = s then 9 else if withinB s.data.toList q.data.toList then 9 else togE (some s) l)
    else pathE s := by
  cases p <;> simp only [togE]
def pathsE (l : List ByteArray) : Int := if 256 < l.length then 7 else togE none l
def prevO (l : List ByteArray) (i : Nat) : Option ByteArray := if i = 0 then none else l[i - 1]?
theorem ba_ext {a b : ByteArray} (h : a.data.toList = b.data.toList) : a = b := by
  obtain ⟨a⟩ := a
  obtain ⟨b⟩ := b
  exact congrArg ByteArray.mk (Array.toList_inj.1 h)
theorem prevO_succ (l : List ByteArray) (i : Nat) (h : i < l.length) : prevO l (i + 1) = some (l[i]'h) := by
  simp [prevO, h]
theorem paths_l0 (l : List ByteArray) (hl : l.length ≤ 4294967296) : ∀ (d i : Nat), l.length - i = d → i ≤ l.length → (∀ q, prevO l i = some q → pathE q = 0) →
    Ev (fun k => tree_paths.l0 k l l l.length i) (togE (prevO l i) (l.drop i)) := by
  intro d
  induction d with
  | zero =>
    intro i hd hi hq
    have e : i = l.length := by omega
    subst e
    apply Ev.step
    · intro k; rw [tree_paths.l0]
    have c1 : ¬ ((l.length : Int) < (l.length : Int)) := by omega
    simp only [c1, ↓reduceIte]
    rw [List.drop_eq_nil_of_le (Nat.le_refl _)]
    cases prevO l l.length <;> exact Ev.now _
  | succ d ih =>
    intro i hd hi hq
    have hlt : i < l.length := by omega
    apply Ev.step
    · intro k; rw [tree_paths.l0]
    have c1 : ((i : Int) < (l.length : Int)) := by omega
    have c2 : (0 : Int) ≤ (i : Int) := by omega
    have hw : wrap64 ((i : Int) + 1) = ((i + 1 : Nat) : Int) := by rw [w64_ (by omega) (by omega)]; omega
    have hnext := ih (i + 1) (by omega) (by omega)
    rw [prevO_succ l i hlt] at hnext
    simp only [c1, c2, ↓reduceIte, rdOf_nat _ l i hlt, hw]
    refine Ev.bind (path_ev _) ?_
    rw [List.drop_eq_getElem_cons hlt, togE_cons]
    by_cases hp : pathE (l[i]'hlt) = 0
    · have hsz := pathE_size _ hp
      have hn := hnext (fun q e => by cases e; exact hp)
      simp only [hp, ↓reduceIte]
      by_cases h0 : i = 0
      · have c3 : ((i : Int) = 0) := by omega
        have hpr : prevO l i = none := by unfold prevO; rw [if_pos h0]
        simp only [c3, hpr, ↓reduceIte]
        exact hn
      · have c3 : ¬ ((i : Int) = 0) := by omega
        have hi1 : i - 1 < l.length := by omega
        have hpr : prevO l i = some (l[i - 1]'hi1) := by unfold prevO; rw [if_neg h0, List.getElem?_eq_getElem hi1]
        have hqsz := pathE_size _ (hq _ hpr)
        have hw1 : wrap64 ((i : Int) - 1) = ((i - 1 : Nat) : Int) := by rw [w64_ (by omega) (by omega)]; omega
        have c4 : (0 : Int) ≤ ((i - 1 : Nat) : Int) := by omega
        have c5 : ((i - 1 : Nat) : Int) < (l.length : Int) := by omega
        rw [hw1]
        simp only [c3, c4, c5, hpr, ↓reduceIte, rdOf_nat _ l (i - 1) hi1, within_f, Option.bind_some]
        refine Ev.bind (order_ev _ _ (by omega) (by omega)) ?_
        obtain ⟨h1, h2, h3⟩ := ordV_cmp (l[i - 1]'hi1).data.toList (l[i]'hlt).data.toList
        by_cases g1 : 0 < cmpL (l[i - 1]'hi1).data.toList (l[i]'hlt).data.toList
        · have g1' : ordV (l[i - 1]'hi1).data.toList (l[i]'hlt).data.toList > 0 := h3.2 g1
          simp only [g1, g1', ↓reduceIte]
          exact Ev.now _
        · have g1' : ¬ ordV (l[i - 1]'hi1).data.toList (l[i]'hlt).data.toList > 0 := fun e => g1 (h3.1 e)
          simp only [g1, g1', ↓reduceIte]
          by_cases g2 : l[i - 1]'hi1 = l[i]'hlt
          · have g2' : ordV (l[i - 1]'hi1).data.toList (l[i]'hlt).data.toList = 0 := h2.2 ((cmpL_eq _ _).2 (by rw [g2]))
            simp only [g2', ↓reduceIte]
            rw [if_pos g2]
            exact Ev.now _
          · have g2' : ¬ ordV (l[i - 1]'hi1).data.toList (l[i]'hlt).data.toList = 0 := fun e => g2 (ba_ext ((cmpL_eq _ _).1 (h2.1 e)))
            simp only [g2', ↓reduceIte]
            rw [if_neg g2]
            cases withinB (l[i]'hlt).data.toList (l[i - 1]'hi1).data.toList with
            | true => exact Ev.now _
            | false => exact hn
    · simp only [hp, ↓reduceIte]
      exact Ev.now _
theorem paths_ev (l : List ByteArray) (hl : l.length ≤ 4294967296) : Ev (fun k => tree_paths.f k l) (pathsE l) := by
  unfold tree_paths.f pathsE
  by_cases h : 256 < l.length
  · have c1 : (l.length : Int) > 256 := by omega
    simp only [c1, h, ↓reduceIte]
    exact Ev.now _
  · have c1 : ¬ ((l.length : Int) > 256) := by omega
    simp only [c1, h, ↓reduceIte]
    have h := paths_l0 l hl l.length 0 (by omega) (by omega) (fun q e => by cases e)
    simpa [prevO] using h
theorem together_l0 (l : List ByteArray) (hl : l.length ≤ 4294967296) : ∀ (d i : Nat), l.length - i = d → i ≤ l.length → (∀ q, prevO l i = some q → pathE q = 0) →
    Ev (fun k => barqueref09_together.l0 k l i) (togE (prevO l i) (l.drop i)) := by
  intro d
  induction d with
  | zero =>
    intro i hd hi hq
    have e : i = l.length := by omega
    subst e
    apply Ev.step
    · intro k; rw [barqueref09_together.l0]
    have c1 : ¬ ((l.length : Int) < (l.length : Int)) := by omega
    simp only [c1, ↓reduceIte]
    rw [List.drop_eq_nil_of_le (Nat.le_refl _)]
    cases prevO l l.length <;> exact Ev.now _
  | succ d ih =>
    intro i hd hi hq
    have hlt : i < l.length := by omega
    apply Ev.step
    · intro k; rw [barqueref09_together.l0]
    have c1 : ((i : Int) < (l.length : Int)) := by omega
    have c2 : (0 : Int) ≤ (i : Int) := by omega
    have hw : wrap64 ((i : Int) + 1) = ((i + 1 : Nat) : Int) := by rw [w64_ (by omega) (by omega)]; omega
    have hnext := ih (i + 1) (by omega) (by omega)
    rw [prevO_succ l i hlt] at hnext
    simp only [c1, c2, ↓reduceIte, rdOf_nat _ l i hlt]
    refine Ev.bind (refpath_ev _) ?_
    rw [List.drop_eq_getElem_cons hlt, togE_cons]
    by_cases hp : pathE (l[i]'hlt) = 0
    · have hsz := pathE_size _ hp
      have hn := hnext (fun q e => by cases e; exact hp)
      simp only [hp, ↓reduceIte]
      by_cases h0 : i = 0
      · have c3 : ¬ ((i : Int) > 0) := by omega
        have hpr : prevO l i = none := by unfold prevO; rw [if_pos h0]
        simp only [c3, hpr, ↓reduceIte]
        apply Ev.step
        · intro k; rw [barqueref09_together.j1]
        simp only [Bool.false_eq_true, c3, ↓reduceIte, hw]
        exact hn
      · have c3 : ((i : Int) > 0) := by omega
        have hi1 : i - 1 < l.length := by omega
        have hpr : prevO l i = some (l[i - 1]'hi1) := by unfold prevO; rw [if_neg h0, List.getElem?_eq_getElem hi1]
        have hqsz := pathE_size _ (hq _ hpr)
        have hw1 : wrap64 ((i : Int) - 1) = ((i - 1 : Nat) : Int) := by rw [w64_ (by omega) (by omega)]; omega
        have c4 : (0 : Int) ≤ ((i - 1 : Nat) : Int) := by omega
        have c5 : ((i - 1 : Nat) : Int) < (l.length : Int) := by omega
        simp only [c3, hw1, c4, c5, hpr, ↓reduceIte, rdOf_nat _ l (i - 1) hi1]
        refine Ev.bind (reforder_ev _ _ (by omega) (by omega)) ?_
        apply Ev.step
        · intro k; rw [barqueref09_together.j1]
        have hneg := cmpL_neg (l[i - 1]'hi1).data.toList (l[i]'hlt).data.toList
        by_cases g1 : 0 < cmpL (l[i - 1]'hi1).data.toList (l[i]'hlt).data.toList
        · have g1' : decide (cmpL (l[i]'hlt).data.toList (l[i - 1]'hi1).data.toList < 0) = true := by rw [decide_eq_true_eq, hneg]; omega
          simp only [g1, g1', ↓reduceIte]
          exact Ev.now _
        · have g1' : decide (cmpL (l[i]'hlt).data.toList (l[i - 1]'hi1).data.toList < 0) = false := by rw [decide_eq_false_iff_not, hneg]; omega
          simp only [g1, g1', Bool.false_eq_true, c1, c2, c3, hw1, c4, c5, ↓reduceIte, rdOf_nat _ l i hlt, rdOf_nat _ l (i - 1) hi1, toList_data_]
          rw [refwithin_f _ _ (by omega)]
          simp only [Option.bind_some, hw]
          by_cases g2 : l[i - 1]'hi1 = l[i]'hlt
          · have g2' : (l[i]'hlt).data.toList = (l[i - 1]'hi1).data.toList := by rw [g2]
            simp only [g2', ↓reduceIte]
            rw [if_pos g2]
            exact Ev.now _
          · have g2' : ¬ (l[i]'hlt).data.toList = (l[i - 1]'hi1).data.toList := fun e => g2 (ba_ext e.symm)
            simp only [g2', ↓reduceIte]
            rw [if_neg g2]
            cases withinB (l[i]'hlt).data.toList (l[i - 1]'hi1).data.toList with
            | true => exact Ev.now _
            | false => exact hn
    · simp only [hp, ↓reduceIte]
      exact Ev.now _
theorem together_ev (l : List ByteArray) (hl : l.length ≤ 4294967296) : Ev (fun k => barqueref09_together.f k l) (pathsE l) := by
  unfold barqueref09_together.f pathsE
  by_cases h : 256 < l.length
  · have c1 : (l.length : Int) > 256 := by omega
    simp only [c1, h, ↓reduceIte]
    exact Ev.now _
  · have c1 : ¬ ((l.length : Int) > 256) := by omega
    simp only [c1, h, ↓reduceIte]
    have h := together_l0 l hl l.length 0 (by omega) (by omega) (fun q e => by cases e)
    simpa [prevO] using h
end Go.Proofs.YtafjlibcdlihcaaDoor.G
