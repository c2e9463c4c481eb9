/- Texts of this session's claim of TreeFilters, less what its theorem does not reach. No condition. -/
import Derived.ChangeArms
import Derived.ChangeOld
import Derived.DataReads
import Derived.Deep.Slices
import Derived.OpenShut
import Derived.ProofKit
import Derived.SizedLaws
import Derived.SliceStrings
import Derived.Test.YtafjlibcdlihcaaDoorTF14
import Derived.Test.YtafjlibcdlihcaaDoorTF16
import Derived.Test.YtafjlibcdlihcaaDoorTF19
import Derived.Test.YtafjlibcdlihcaaDoorTF20
import Derived.Test.YtafjlibcdlihcaaDoorTF21
section
namespace Go.Proofs.YtafjlibcdlihcaaDoor.G
open Go.RowKit Go.Proofs.YtafjlibcdlihcaaDoorW.PrintWords Go.Proofs.YtafjlibcdlihcaaDoorW.PrintLast Go.Proofs.YtafjlibcdlihcaaDoorW.PrintMore
attribute [local go_sem] max2_int min2_int max_two min_two max_three min_three max_four min_four   -- for this text's walks alone
set_option linter.unusedVariables false
set_option linter.unusedSimpArgs false
attribute [local go_sem high] eqA58
def barqueref09_Files.l0 : Nat → List (S58) → List (S58) → Int → Option (Bool)
  | 0, _, _, _ => none
  | k + 1, x0, x1, x5 => if x5 < (x0.length : Int) then (if 0 ≤ x5 then (if x5 < (x1.length : Int) then (if (!((((rd_T58 x0 x5).f0).toList) == (((rd_T58 x1 x5).f0).toList)) || (!(((rd_T58 x0 x5).f1) == ((rd_T58 x1 x5).f1)) || (!((((rd_T58 x0 x5).f2).toList) == (((rd_T58 x1 x5).f2).toList))))) = true then (some false) else (barqueref09_Files.l0 k x0 x1 (wrap64 (x5 + 1)))) else (none)) else (none)) else (some true)
def barqueref09_Files.f (k : Nat) (l0 : List (S58)) (l1 : List (S58)) : Option (Bool) := if (l0.length : Int) = (l1.length : Int) then (barqueref09_Files.l0 k l0 l1 0) else (some false)
theorem barqueref09_Files.mono_l : ∀ k, (∀ y0 y1 y2, LeO (barqueref09_Files.l0 k y0 y1 y2) (barqueref09_Files.l0 (k + 1) y0 y1 y2))
  | 0 => fun _ _ _ r h => by simp [barqueref09_Files.l0] at h
  | k + 1 => by
    have ih0 := barqueref09_Files.mono_l k
    · intro y0 y1 y2
      unfold barqueref09_Files.l0
      repeat' first
      | (with_reducible exact ih0 _ _ _)
      | (with_reducible exact LeO.refl _)
      | (with_reducible exact LeO.none _)
      | (with_reducible refine LeO.ite ?_ ?_)
      | (with_reducible refine LeO.bind ?_ (fun _ => ?_))
      | exact ih0 _ _ _
      | exact LeO.none _
      | refine LeO.ite ?_ ?_
      | refine LeO.bind ?_ (fun _ => ?_)
theorem barqueref09_Files.mono : ∀ a0 a1 k, LeO (barqueref09_Files.f k a0 a1) (barqueref09_Files.f (k + 1) a0 a1) := by
  intro a0 a1 k
  have ih0 := barqueref09_Files.mono_l k
  unfold barqueref09_Files.f
  repeat' first
      | (with_reducible exact ih0 _ _ _)
      | (with_reducible exact LeO.refl _)
      | (with_reducible exact LeO.none _)
      | (with_reducible refine LeO.ite ?_ ?_)
      | (with_reducible refine LeO.bind ?_ (fun _ => ?_))
      | exact ih0 _ _ _
      | exact LeO.none _
      | refine LeO.ite ?_ ?_
      | refine LeO.bind ?_ (fun _ => ?_)
set_option maxHeartbeats 8000000 in
set_option maxRecDepth 100000 in
theorem barqueref09_Files.calls (k : Nat) (A0 : Option Addr) (c0 : Nat) (l0 : List (S58)) (A1 : Option Addr) (c1 : Nat) (l1 : List (S58)) (r : Bool) (w : World) (hr0 : Kd.C k58 w A0 l0.length l0) (hc0 : l0.length ≤ c0) (hr1 : Kd.C k58 w A1 l1.length l1) (hc1 : l1.length ≤ c1) (h : barqueref09_Files.f k l0 l1 = some r) :
    Calls Tryd.prog 28 #[.slice A0 l0.length c0, .slice A1 l1.length c1] w fun e w' => e = .returned (.bool r) ∧ Drawn0 w w' := by
  have hu58 := Tryd.underlying58
  have HR0 := Aside0.mk hr0
  have HC0 := Aside0.mk hc0
  clear hr0 hc0
  have HR1 := Aside0.mk hr1
  have HC1 := Aside0.mk hc1
  clear hr1 hc1
  have H : (if (l0.length : Int) = (l1.length : Int) then (barqueref09_Files.l0 k l0 l1 0) else (some false)) = some r := h
  clear h
  by_cases c3 : (l0.length : Int) = (l1.length : Int)
  · rw [if_pos c3] at H
    have c3b0 : ((l0.length : Int) == (l1.length : Int)) = true := beq_iff_eq.mpr c3
    have c3b1 : ((l0.length : Int) != (l1.length : Int)) = false := bne_eq_false_iff_eq.mpr c3
    have c3b2 : (l0.length == l1.length) = true := by first | simpa using c3 | (simp at c3 ⊢; omega)
    clear c3
    have H' := Aside0.mk H
    clear H
    go_enter Tryd.func28, Tryd.ntmps28
    go_wp2
    repeat (go_quiet (fail); try go_wp2)
    go_loopg [5] k (fun kq v5 w' => ∃ (x5_1 : Int), v5 = .int .i64 x5_1 ∧ Aside0 (barqueref09_Files.l0 kq l0 l1 x5_1 = some r) ∧ Aside0 (kq ≤ k) ∧ Drawn0 w w')
    case atStart => exact ⟨(0), (by first | rfl | (simp; done) | (simp [*]; done)), H', ⟨Nat.le_refl _⟩, by repeat (first | exact Drawn0.refl _ | apply Drawn0.step)⟩
    case round =>
      clear H'
      try clear c1
      try clear c2
      try clear p2
      try clear c3
      try clear c3b0
      try clear c3b1
      try clear c3b2
      obtain ⟨x5_1, rfl, HA, HK1, ⟨m1, rfl⟩⟩ := hrel
      cases gk with
      | zero => exact absurd HA.out (by simp [barqueref09_Files.l0])
      | succ k1 =>
        have H := HA.out
        clear HA
        simp only [barqueref09_Files.l0] at H
        by_cases c4 : x5_1 < (l0.length : Int)
        · rw [if_pos c4] at H
          have c4b0 : decide (x5_1 < (l0.length : Int)) = true := decide_eq_true c4
          clear c4
          by_cases c5 : 0 ≤ x5_1
          · rw [if_pos c5] at H
            have c5b0 : decide (0 ≤ x5_1) = true := decide_eq_true c5
            clear c5
            by_cases c6 : x5_1 < (l1.length : Int)
            · rw [if_pos c6] at H
              have c6b0 : decide (x5_1 < (l1.length : Int)) = true := decide_eq_true c6
              clear c6
              by_cases c7 : (!((((rd_T58 l0 x5_1).f0).toList) == (((rd_T58 l1 x5_1).f0).toList)) || (!(((rd_T58 l0 x5_1).f1) == ((rd_T58 l1 x5_1).f1)) || (!((((rd_T58 l0 x5_1).f2).toList) == (((rd_T58 l1 x5_1).f2).toList))))) = true
              · rw [if_pos c7] at H
                have c7b0 : (!((((rd_T58 l0 x5_1).f0).toList) == (((rd_T58 l1 x5_1).f0).toList)) || (!(((rd_T58 l0 x5_1).f1) == ((rd_T58 l1 x5_1).f1)) || (!((((rd_T58 l0 x5_1).f2).toList) == (((rd_T58 l1 x5_1).f2).toList))))) = true := c7
                clear c7
                obtain rfl := Option.some.inj H
                have p334 : 0 ≤ (x5_1 : Int) := of_decide_eq_true (by first | (with_reducible assumption) | assumption)
                have q334 : x5_1 < (l0.length : Int) := of_decide_eq_true (by first | (with_reducible assumption) | assumption)
                obtain ⟨ad334, e334, hx334_0, hx334_1, hx334_2⟩ := at_T58 HR0.out x5_1 p334 q334
                cases e334
                replace p334 := eq_true p334
                replace q334 := eq_true q334
                have p335 : 0 ≤ (x5_1 : Int) := of_decide_eq_true (by first | (with_reducible assumption) | assumption)
                have q335 : x5_1 < (l1.length : Int) := of_decide_eq_true (by first | (with_reducible assumption) | assumption)
                obtain ⟨ad335, e335, hx335_0, hx335_1, hx335_2⟩ := at_T58 HR1.out x5_1 p335 q335
                cases e335
                replace p335 := eq_true p335
                replace q335 := eq_true q335
                go_wp2
                repeat (go_quiet (fail); try go_wp2)
                go_ret
                exact ⟨by first | rfl | (simp; done) | (simp [*]; done), by repeat (first | exact Drawn0.refl _ | apply Drawn0.step)⟩
              · rw [if_neg c7] at H
                have c7b0 : (!((((rd_T58 l0 x5_1).f0).toList) == (((rd_T58 l1 x5_1).f0).toList)) || (!(((rd_T58 l0 x5_1).f1) == ((rd_T58 l1 x5_1).f1)) || (!((((rd_T58 l0 x5_1).f2).toList) == (((rd_T58 l1 x5_1).f2).toList))))) = false := by simpa using c7
                clear c7
                have H' := Aside0.mk H
                clear H
                have p334 : 0 ≤ (x5_1 : Int) := of_decide_eq_true (by first | (with_reducible assumption) | assumption)
                have q334 : x5_1 < (l0.length : Int) := of_decide_eq_true (by first | (with_reducible assumption) | assumption)
                obtain ⟨ad334, e334, hx334_0, hx334_1, hx334_2⟩ := at_T58 HR0.out x5_1 p334 q334
                cases e334
                replace p334 := eq_true p334
                replace q334 := eq_true q334
                have p335 : 0 ≤ (x5_1 : Int) := of_decide_eq_true (by first | (with_reducible assumption) | assumption)
                have q335 : x5_1 < (l1.length : Int) := of_decide_eq_true (by first | (with_reducible assumption) | assumption)
                obtain ⟨ad335, e335, hx335_0, hx335_1, hx335_2⟩ := at_T58 HR1.out x5_1 p335 q335
                cases e335
                replace p335 := eq_true p335
                replace q335 := eq_true q335
                go_wp2
                repeat (go_quiet (fail); try go_wp2)
                go_roundg k1
                case measure => have := HK1.out; omega
                case rel => exact ⟨(wrap64 (x5_1 + 1)), (by first | rfl | (simp; done) | (simp [*]; done)), H', ⟨by have := HK1.out; omega⟩, by repeat (first | exact Drawn0.refl _ | apply Drawn0.step)⟩
            · rw [if_neg c6] at H
              exact absurd H (by simp)
          · rw [if_neg c5] at H
            exact absurd H (by simp)
        · rw [if_neg c4] at H
          have c4b0 : decide (x5_1 < (l0.length : Int)) = false := decide_eq_false c4
          clear c4
          obtain rfl := Option.some.inj H
          go_wp2
          repeat (go_quiet (fail); try go_wp2)
          go_ret
          exact ⟨by first | rfl | (simp; done) | (simp [*]; done), by repeat (first | exact Drawn0.refl _ | apply Drawn0.step)⟩
  · rw [if_neg c3] at H
    have c3b0 : ((l0.length : Int) == (l1.length : Int)) = false := beq_eq_false_iff_ne.mpr c3
    have c3b1 : ((l0.length : Int) != (l1.length : Int)) = true := bne_iff_ne.mpr c3
    have c3b2 : (l0.length == l1.length) = false := by first | simpa using c3 | (simp at c3 ⊢; omega)
    obtain rfl := Option.some.inj H
    go_enter Tryd.func28, Tryd.ntmps28
    go_wp2
    repeat (go_quiet (fail); try go_wp2)
    go_ret
    exact ⟨by first | rfl | (simp; done) | (simp [*]; done), by repeat (first | exact Drawn0.refl _ | apply Drawn0.step)⟩
end Go.Proofs.YtafjlibcdlihcaaDoor.G
end
section
namespace Go.Proofs.YtafjlibcdlihcaaDoor.G
open Go.RowKit Go.Proofs.YtafjlibcdlihcaaDoorW.PrintWords Go.Proofs.YtafjlibcdlihcaaDoorW.PrintLast Go.Proofs.YtafjlibcdlihcaaDoorW.PrintMore
set_option linter.unusedVariables false
set_option linter.unusedSimpArgs false
theorem reffilter_l2 (l : List S58) (ins outs : List ByteArray) (hl : l.length ≤ 4294967296) (h1 : ins.length ≤ 4294967296) (h2 : outs.length ≤ 4294967296) : ∀ (d i : Nat) (acc : List S58), l.length - i = d → i ≤ l.length → acc = (l.take i).filter (keepE ins outs) →
    Ev (fun k => barqueref09_Filter.l2 k l ins outs acc i) (l.filter (keepE ins outs), 0) := by
  intro d
  induction d with
  | zero =>
    intro i acc hd hi ha
    have e : i = l.length := by omega
    subst e
    apply Ev.step
    · intro k; rw [barqueref09_Filter.l2]
    have c1 : ¬ ((l.length : Int) < (l.length : Int)) := by omega
    simp only [c1, ↓reduceIte]
    rw [List.take_length] at ha
    rw [ha]
    exact Ev.now _
  | succ d ih =>
    intro i acc hd hi ha
    have hlt : i < l.length := by omega
    apply Ev.step
    · intro k; rw [barqueref09_Filter.l2]
    have c1 : ((i : Int) < (l.length : Int)) := by omega
    have c2 : (0 : Int) ≤ (i : Int) := by omega
    have hw : wrap64 ((i : Int) + 1) = ((i + 1 : Nat) : Int) := by rw [w64_ (by omega) (by omega)]; omega
    have hal : acc.length < 3518437208883 := by
      have := filter_le_ l (keepE ins outs) i
      rw [ha]; omega
    have hs := filter_snoc_ l (keepE ins outs) i hlt
    have hyes : keepE ins outs (l[i]'hlt) = true → Ev (fun k => barqueref09_Filter.l2 k l ins outs (acc ++ [l[i]'hlt]) ((i + 1 : Nat) : Int)) (l.filter (keepE ins outs), 0) := fun hk =>
      ih (i + 1) _ (by omega) (by omega) (by rw [hs, hk, ← ha]; rfl)
    have hno : keepE ins outs (l[i]'hlt) = false → Ev (fun k => barqueref09_Filter.l2 k l ins outs acc ((i + 1 : Nat) : Int)) (l.filter (keepE ins outs), 0) := fun hk =>
      ih (i + 1) _ (by omega) (by omega) (by rw [hs, hk, ← ha]; simp)
    simp only [c1, c2, ↓reduceIte, rdF_nat l i hlt, hw, hal]
    by_cases h0 : ins.length = 0
    · have h0' : (ins.length : Int) = 0 := by omega
      simp only [h0', ↓reduceIte]
      refine Ev.bind (one_ev _ _ h2) ?_
      cases ho : oneE outs (l[i]'hlt).f0 with
      | true => exact hno (by unfold keepE; rw [ho]; simp)
      | false => exact hyes (by unfold keepE; rw [ho]; simp [h0])
    · have h0' : ¬ (ins.length : Int) = 0 := by omega
      simp only [h0', ↓reduceIte]
      refine Ev.bind (one_ev _ _ h1) ?_
      cases hi1 : oneE ins (l[i]'hlt).f0 with
      | false => exact hno (by unfold keepE; rw [hi1]; simp [h0])
      | true =>
        simp only [↓reduceIte]
        refine Ev.bind (one_ev _ _ h2) ?_
        cases ho : oneE outs (l[i]'hlt).f0 with
        | true => exact hno (by unfold keepE; rw [ho]; simp)
        | false => exact hyes (by unfold keepE; rw [ho, hi1]; simp)
theorem reffilter_j3 (l : List S58) (ins outs : List ByteArray) (hl : l.length ≤ 4294967296) (h1 : ins.length ≤ 4294967296) (h2 : outs.length ≤ 4294967296) (e : Int) :
    Ev (fun k => barqueref09_Filter.j3 k l ins outs e) (if e = 0 then (l.filter (keepE ins outs), 0) else ([], e)) := by
  apply Ev.step
  · intro k; rw [barqueref09_Filter.j3]
  by_cases h : e = 0
  · simp only [h, ↓reduceIte]
    exact reffilter_l2 l ins outs hl h1 h2 l.length 0 [] (by omega) (by omega) rfl
  · simp only [h, ↓reduceIte]
    exact Ev.now _
/-- An error that stands, or the first of some patterns. -/
def firstE (e : Int) (l : List ByteArray) : Int := if e = 0 then patsE l else e
theorem reffilter_l1 (l : List S58) (ins outs : List ByteArray) (hl : l.length ≤ 4294967296) (h1 : ins.length ≤ 4294967296) (h2 : outs.length ≤ 4294967296) :
    ∀ (d i : Nat) (e : Int), outs.length - i = d → i ≤ outs.length →
    Ev (fun k => barqueref09_Filter.l1 k l ins outs e i) (if firstE e (outs.drop i) = 0 then (l.filter (keepE ins outs), 0) else ([], firstE e (outs.drop i))) := by
  intro d
  induction d with
  | zero =>
    intro i e hd hi
    have ei : i = outs.length := by omega
    subst ei
    apply Ev.step
    · intro k; rw [barqueref09_Filter.l1]
    have c1 : ¬ ((outs.length : Int) < (outs.length : Int)) := by omega
    simp only [c1, ↓reduceIte]
    have hf : firstE e (outs.drop outs.length) = e := by
      rw [List.drop_eq_nil_of_le (Nat.le_refl _), firstE, patsE]
      by_cases h : e = 0 <;> simp [h]
    rw [hf]
    exact reffilter_j3 l ins outs hl h1 h2 e
  | succ d ih =>
    intro i e hd hi
    have hlt : i < outs.length := by omega
    apply Ev.step
    · intro k; rw [barqueref09_Filter.l1]
    have c1 : ((i : Int) < (outs.length : Int)) := by omega
    have c2 : (0 : Int) ≤ (i : Int) := by omega
    have hw : wrap64 ((i : Int) + 1) = ((i + 1 : Nat) : Int) := by rw [w64_ (by omega) (by omega)]; omega
    by_cases h : e = 0
    · simp only [c1, c2, h, ↓reduceIte, rdOf_nat _ outs i hlt, hw]
      refine Ev.bind (refpat_ev _) ?_
      have hf : firstE 0 (outs.drop i) = firstE (patE (outs[i]'hlt)) (outs.drop (i + 1)) := by
        rw [List.drop_eq_getElem_cons hlt]
        simp only [firstE, ↓reduceIte, patsE]
      rw [hf]
      exact ih (i + 1) _ (by omega) (by omega)
    · simp only [c1, c2, h, ↓reduceIte]
      have hf : firstE e (outs.drop i) = e := by simp [firstE, h]
      rw [hf]
      exact reffilter_j3 l ins outs hl h1 h2 e
theorem reffilter_j1 (l : List S58) (ins outs : List ByteArray) (hl : l.length ≤ 4294967296) (h1 : ins.length ≤ 4294967296) (h2 : outs.length ≤ 4294967296) (e : Int) :
    Ev (fun k => barqueref09_Filter.j1 k l ins outs e) (if firstE e outs = 0 then (l.filter (keepE ins outs), 0) else ([], firstE e outs)) := by
  apply Ev.step
  · intro k; rw [barqueref09_Filter.j1]
  have h := reffilter_l1 l ins outs hl h1 h2 outs.length 0 e (by omega) (by omega)
  simpa using h
theorem reffilter_l0 (l : List S58) (ins outs : List ByteArray) (hl : l.length ≤ 4294967296) (h1 : ins.length ≤ 4294967296) (h2 : outs.length ≤ 4294967296) :
    ∀ (d i : Nat) (e : Int), ins.length - i = d → i ≤ ins.length →
    Ev (fun k => barqueref09_Filter.l0 k l ins outs e i) (if firstE (firstE e (ins.drop i)) outs = 0 then (l.filter (keepE ins outs), 0) else ([], firstE (firstE e (ins.drop i)) outs)) := by
  intro d
  induction d with
  | zero =>
    intro i e hd hi
    have ei : i = ins.length := by omega
    subst ei
    apply Ev.step
    · intro k; rw [barqueref09_Filter.l0]
    have c1 : ¬ ((ins.length : Int) < (ins.length : Int)) := by omega
    simp only [c1, ↓reduceIte]
    have hf : firstE e (ins.drop ins.length) = e := by
      rw [List.drop_eq_nil_of_le (Nat.le_refl _), firstE, patsE]
      by_cases h : e = 0 <;> simp [h]
    rw [hf]
    exact reffilter_j1 l ins outs hl h1 h2 e
  | succ d ih =>
    intro i e hd hi
    have hlt : i < ins.length := by omega
    apply Ev.step
    · intro k; rw [barqueref09_Filter.l0]
    have c1 : ((i : Int) < (ins.length : Int)) := by omega
    have c2 : (0 : Int) ≤ (i : Int) := by omega
    have hw : wrap64 ((i : Int) + 1) = ((i + 1 : Nat) : Int) := by rw [w64_ (by omega) (by omega)]; omega
    by_cases h : e = 0
    · simp only [c1, c2, h, ↓reduceIte, rdOf_nat _ ins i hlt, hw]
      refine Ev.bind (refpat_ev _) ?_
      have hf : firstE 0 (ins.drop i) = firstE (patE (ins[i]'hlt)) (ins.drop (i + 1)) := by
        rw [List.drop_eq_getElem_cons hlt]
        simp only [firstE, ↓reduceIte, patsE]
      rw [hf]
      exact ih (i + 1) _ (by omega) (by omega)
    · simp only [c1, c2, h, ↓reduceIte]
      have hf : firstE e (ins.drop i) = e := by simp [firstE, h]
      rw [hf]
      exact reffilter_j1 l ins outs hl h1 h2 e
theorem reffilter_ev (l : List S58) (ins outs : List ByteArray) (hl : l.length ≤ 4294967296) (h1 : ins.length ≤ 8) (h2 : outs.length ≤ 8) : Ev (fun k => barqueref09_Filter.f k l ins outs) (filterE l ins outs) := by
  unfold barqueref09_Filter.f
  refine Ev.bind (refcheck_ev l hl) ?_
  have h := reffilter_l0 l ins outs hl (by omega) (by omega) ins.length 0 (checkE l) (by omega) (by omega)
  have hf : filterE l ins outs = (if firstE (firstE (checkE l) (ins.drop 0)) outs = 0 then (l.filter (keepE ins outs), 0) else ([], firstE (firstE (checkE l) (ins.drop 0)) outs)) := by
    unfold filterE firstE
    rw [List.drop_zero, patsE_append]
    by_cases g1 : checkE l = 0
    · by_cases g2 : patsE ins = 0 <;> simp [g1, g2]
    · simp [g1]
  rw [hf]
  exact h
theorem files_l0 (l : List S58) (hl : l.length ≤ 4294967296) : ∀ (d i : Nat), l.length - i = d → i ≤ l.length →
    Ev (fun k => barqueref09_Files.l0 k l l i) true := by
  intro d
  induction d with
  | zero =>
    intro i hd hi
    have e : i = l.length := by omega
    subst e
    apply Ev.step
    · intro k; rw [barqueref09_Files.l0]
    have c1 : ¬ ((l.length : Int) < (l.length : Int)) := by omega
    simp only [c1, ↓reduceIte]
    exact Ev.now _
  | succ d ih =>
    intro i hd hi
    have hlt : i < l.length := by omega
    apply Ev.step
    · intro k; rw [barqueref09_Files.l0]
    have c1 : ((i : Int) < (l.length : Int)) := by omega
    have c2 : (0 : Int) ≤ (i : Int) := by omega
    have hw : wrap64 ((i : Int) + 1) = ((i + 1 : Nat) : Int) := by rw [w64_ (by omega) (by omega)]; omega
    simp only [c1, c2, ↓reduceIte, hw, beq_self_eq_true, Bool.not_true, Bool.or_self, Bool.false_eq_true]
    exact ih (i + 1) (by omega) (by omega)
theorem files_ev (l : List S58) (hl : l.length ≤ 4294967296) : Ev (fun k => barqueref09_Files.f k l l) true := by
  unfold barqueref09_Files.f
  simp only [↓reduceIte]
  exact files_l0 l hl l.length 0 (by omega) (by omega)
end Go.Proofs.YtafjlibcdlihcaaDoor.G
end
section
namespace Go.Proofs.YtafjlibcdlihcaaDoor.G
open Go.RowKit Go.Proofs.YtafjlibcdlihcaaDoorW.PrintWords Go.Proofs.YtafjlibcdlihcaaDoorW.PrintLast Go.Proofs.YtafjlibcdlihcaaDoorW.PrintMore
attribute [local go_sem] max2_int min2_int max_two min_two max_three min_three max_four min_four   -- for this text's walks alone
set_option linter.unusedVariables false
set_option linter.unusedSimpArgs false
def barquelaw09_awake.f (k : Nat)  : Option (Bool) := (tree_Order.f k (⟨#[97, 47, 98]⟩ : ByteArray) (⟨#[97, 45, 98]⟩ : ByteArray)).bind fun t186 => (if t186 < 0 then ((tree_Match.f k (⟨#[97, 47, 42, 42, 47, 99, 63]⟩ : ByteArray) (⟨#[97, 47, 98, 47, 98, 47, 99, 100]⟩ : ByteArray)).bind fun t187 => (if t187 = true then ((tree_Match.f k (⟨#[42]⟩ : ByteArray) (⟨#[97, 47, 98]⟩ : ByteArray)).bind fun t188 => (if t188 = true then (some false) else ((tree_Check.f k (([(⟨(⟨#[97]⟩ : ByteArray), 0, (⟨#[]⟩ : ByteArray)⟩ : S58), (⟨(⟨#[97, 47, 98]⟩ : ByteArray), 0, (⟨#[]⟩ : ByteArray)⟩ : S58)] : List (S58)))).bind fun t192 => (some (t192 == 9))))) else (some false))) else (some false))
theorem barquelaw09_awake.mono : ∀ k, LeO (barquelaw09_awake.f k ) (barquelaw09_awake.f (k + 1) ) := by
  intro  k
  unfold barquelaw09_awake.f
  repeat' first
      | (with_reducible exact tree_Check.mono _ _)
      | (with_reducible exact tree_Match.mono _ _ _)
      | (with_reducible exact tree_Order.mono _ _ _)
      | (with_reducible exact LeO.refl _)
      | (with_reducible exact LeO.none _)
      | (with_reducible refine LeO.ite ?_ ?_)
      | (with_reducible refine LeO.bind ?_ (fun _ => ?_))
      | exact tree_Check.mono _ _
      | exact tree_Match.mono _ _ _
      | exact tree_Order.mono _ _ _
      | exact LeO.none _
      | refine LeO.ite ?_ ?_
      | refine LeO.bind ?_ (fun _ => ?_)
set_option maxHeartbeats 8000000 in
set_option maxRecDepth 100000 in
theorem barquelaw09_awake.calls (k : Nat)  (r : Bool) (w : World) (h : barquelaw09_awake.f k  = some r) :
    Calls Tryd.prog 16 #[] w fun e w' => e = .returned (.bool r) ∧ Below w.heap.size w w' := by
  have hu58 := Tryd.underlying58
  have HB := Aside0.mk (Below.refl w.heap.size w)
  have H : ((tree_Order.f k (⟨#[97, 47, 98]⟩ : ByteArray) (⟨#[97, 45, 98]⟩ : ByteArray)).bind fun t186 => (if t186 < 0 then ((tree_Match.f k (⟨#[97, 47, 42, 42, 47, 99, 63]⟩ : ByteArray) (⟨#[97, 47, 98, 47, 98, 47, 99, 100]⟩ : ByteArray)).bind fun t187 => (if t187 = true then ((tree_Match.f k (⟨#[42]⟩ : ByteArray) (⟨#[97, 47, 98]⟩ : ByteArray)).bind fun t188 => (if t188 = true then (some false) else ((tree_Check.f k (([(⟨(⟨#[97]⟩ : ByteArray), 0, (⟨#[]⟩ : ByteArray)⟩ : S58), (⟨(⟨#[97, 47, 98]⟩ : ByteArray), 0, (⟨#[]⟩ : ByteArray)⟩ : S58)] : List (S58)))).bind fun t192 => (some (t192 == 9))))) else (some false))) else (some false))) = some r := h
  clear h
  replace H := Option.bind_eq_some_iff.mp H
  obtain ⟨t186, A10, H⟩ := H
  replace H : (if t186 < 0 then ((tree_Match.f k (⟨#[97, 47, 42, 42, 47, 99, 63]⟩ : ByteArray) (⟨#[97, 47, 98, 47, 98, 47, 99, 100]⟩ : ByteArray)).bind fun t187 => (if t187 = true then ((tree_Match.f k (⟨#[42]⟩ : ByteArray) (⟨#[97, 47, 98]⟩ : ByteArray)).bind fun t188 => (if t188 = true then (some false) else ((tree_Check.f k (([(⟨(⟨#[97]⟩ : ByteArray), 0, (⟨#[]⟩ : ByteArray)⟩ : S58), (⟨(⟨#[97, 47, 98]⟩ : ByteArray), 0, (⟨#[]⟩ : ByteArray)⟩ : S58)] : List (S58)))).bind fun t192 => (some (t192 == 9))))) else (some false))) else (some false)) = some r := H
  have A1 := Aside0.mk A10
  clear A10
  by_cases c2 : t186 < 0
  · rw [if_pos c2] at H
    have c2b0 : decide (t186 < 0) = true := decide_eq_true c2
    clear c2
    replace H := Option.bind_eq_some_iff.mp H
    obtain ⟨t187, A30, H⟩ := H
    replace H : (if t187 = true then ((tree_Match.f k (⟨#[42]⟩ : ByteArray) (⟨#[97, 47, 98]⟩ : ByteArray)).bind fun t188 => (if t188 = true then (some false) else ((tree_Check.f k (([(⟨(⟨#[97]⟩ : ByteArray), 0, (⟨#[]⟩ : ByteArray)⟩ : S58), (⟨(⟨#[97, 47, 98]⟩ : ByteArray), 0, (⟨#[]⟩ : ByteArray)⟩ : S58)] : List (S58)))).bind fun t192 => (some (t192 == 9))))) else (some false)) = some r := H
    have A3 := Aside0.mk A30
    clear A30
    by_cases c4 : t187 = true
    · subst c4
      have H1 : ((tree_Match.f k (⟨#[42]⟩ : ByteArray) (⟨#[97, 47, 98]⟩ : ByteArray)).bind fun t188 => (if t188 = true then (some false) else ((tree_Check.f k (([(⟨(⟨#[97]⟩ : ByteArray), 0, (⟨#[]⟩ : ByteArray)⟩ : S58), (⟨(⟨#[97, 47, 98]⟩ : ByteArray), 0, (⟨#[]⟩ : ByteArray)⟩ : S58)] : List (S58)))).bind fun t192 => (some (t192 == 9))))) = some r := by rw [if_pos rfl] at H; exact H
      clear H
      have H := H1
      clear H1
      replace H := Option.bind_eq_some_iff.mp H
      obtain ⟨t188, A50, H⟩ := H
      replace H : (if t188 = true then (some false) else ((tree_Check.f k (([(⟨(⟨#[97]⟩ : ByteArray), 0, (⟨#[]⟩ : ByteArray)⟩ : S58), (⟨(⟨#[97, 47, 98]⟩ : ByteArray), 0, (⟨#[]⟩ : ByteArray)⟩ : S58)] : List (S58)))).bind fun t192 => (some (t192 == 9)))) = some r := H
      have A5 := Aside0.mk A50
      clear A50
      by_cases c6 : t188 = true
      · subst c6
        have H1 : (some false) = some r := by rw [if_pos rfl] at H; exact H
        clear H
        have H := H1
        clear H1
        obtain rfl := Option.some.inj H
        go_enter Tryd.func16, Tryd.ntmps16
        go_wp2_with (first | ((with_reducible refine gate_callee (f := 18) rfl ?_); refine goesL_ (some 1) rfl rfl Tryd.func18 (by kernel_rfl) rfl #[.string (⟨#[97, 47, 98]⟩ : ByteArray), .string (⟨#[97, 45, 98]⟩ : ByteArray)] rfl (by (try simp only [List.map_toArray, List.map_cons, List.map_nil]); first | done | rfl | (simp only [List.length_drop, List.length_take]; rfl)) ?_; (with_reducible refine (tree_Order.calls k (⟨#[97, 47, 98]⟩ : ByteArray) (⟨#[97, 45, 98]⟩ : ByteArray) t186 _ A1.out).mono ?_); rintro e w7 ⟨rfl, hb⟩; refine ⟨_, rfl, ?_⟩; have n0_ := Aside0.mk (below_step (by repeat (first | (with_reducible first | exact HB.out | apply below_alloc | apply pw_below_drewN | apply below_drew1) | exact HB.out)) hb); clear HB; have HB := n0_; clear n0_; (try clear hb); (try clear hb2); (try clear hk); (try clear hi)) | (go_at_call 23; (with_reducible refine (tree_Match.calls k (⟨#[97, 47, 42, 42, 47, 99, 63]⟩ : ByteArray) (⟨#[97, 47, 98, 47, 98, 47, 99, 100]⟩ : ByteArray) true _ A3.out).mono ?_); rintro e w8 ⟨rfl, hb⟩; have n0_ := Aside0.mk (below_step (by repeat (first | (with_reducible first | exact HB.out | apply below_alloc | apply pw_below_drewN | apply below_drew1) | exact HB.out)) hb); clear HB; have HB := n0_; clear n0_; (try clear hb); (try clear hb2); (try clear hk); (try clear hi)) | (go_at_call 23; (with_reducible refine (tree_Match.calls k (⟨#[42]⟩ : ByteArray) (⟨#[97, 47, 98]⟩ : ByteArray) true _ A5.out).mono ?_); rintro e w9 ⟨rfl, hb⟩; have n0_ := Aside0.mk (below_step (by repeat (first | (with_reducible first | exact HB.out | apply below_alloc | apply pw_below_drewN | apply below_drew1) | exact HB.out)) hb); clear HB; have HB := n0_; clear n0_; (try clear hb); (try clear hb2); (try clear hk); (try clear hi)))
        go_ret
        exact ⟨by first | rfl | (simp [errW_none, errW_some] <;> rfl) | (simp [*, errW_none, errW_some] <;> rfl), by repeat (first | (with_reducible first | exact HB.out | apply below_alloc | apply pw_below_drewN | apply below_drew1) | exact HB.out)⟩
      · replace c6 := Bool.eq_false_iff.mpr c6
        subst c6
        have H1 : ((tree_Check.f k (([(⟨(⟨#[97]⟩ : ByteArray), 0, (⟨#[]⟩ : ByteArray)⟩ : S58), (⟨(⟨#[97, 47, 98]⟩ : ByteArray), 0, (⟨#[]⟩ : ByteArray)⟩ : S58)] : List (S58)))).bind fun t192 => (some (t192 == 9))) = some r := by rw [if_neg (show ¬ (false = true) by decide)] at H; exact H
        clear H
        have H := H1
        clear H1
        obtain ⟨y189, hy189⟩ : ∃ y_ : List (S58), y_ = (([(⟨(⟨#[97]⟩ : ByteArray), 0, (⟨#[]⟩ : ByteArray)⟩ : S58), (⟨(⟨#[97, 47, 98]⟩ : ByteArray), 0, (⟨#[]⟩ : ByteArray)⟩ : S58)] : List (S58))) := ⟨_, rfl⟩
        replace H : ((tree_Check.f k y189).bind fun t192 => (some (t192 == 9))) = some r := by first | (rw [hy189]; with_reducible exact H) | (have H2_ := (Option.bind_some _ _).symm.trans H; rw [hy189]; with_reducible exact H2_) | (have H2_ := (Option.bind_some _ _).symm.trans H; with_reducible exact H2_) | with_reducible exact H | (rw [hy189]; exact H) | exact H
        have Ny189 := Aside0.mk hy189
        clear hy189
        replace H := Option.bind_eq_some_iff.mp H
        obtain ⟨t192, A100, H⟩ := H
        replace H : (some (t192 == 9)) = some r := H
        have A10 := Aside0.mk A100
        clear A100
        obtain rfl := Option.some.inj H
        go_enter Tryd.func16, Tryd.ntmps16
        go_wp2_with (first | ((with_reducible refine gate_callee (f := 18) rfl ?_); refine goesL_ (some 1) rfl rfl Tryd.func18 (by kernel_rfl) rfl #[.string (⟨#[97, 47, 98]⟩ : ByteArray), .string (⟨#[97, 45, 98]⟩ : ByteArray)] rfl (by (try simp only [List.map_toArray, List.map_cons, List.map_nil]); first | done | rfl | (simp only [List.length_drop, List.length_take]; rfl)) ?_; (with_reducible refine (tree_Order.calls k (⟨#[97, 47, 98]⟩ : ByteArray) (⟨#[97, 45, 98]⟩ : ByteArray) t186 _ A1.out).mono ?_); rintro e w11 ⟨rfl, hb⟩; refine ⟨_, rfl, ?_⟩; have n0_ := Aside0.mk (below_step (by repeat (first | (with_reducible first | exact HB.out | apply below_alloc | apply pw_below_drewN | apply below_drew1) | exact HB.out)) hb); clear HB; have HB := n0_; clear n0_; (try clear hb); (try clear hb2); (try clear hk); (try clear hi)) | (go_at_call 23; (with_reducible refine (tree_Match.calls k (⟨#[97, 47, 42, 42, 47, 99, 63]⟩ : ByteArray) (⟨#[97, 47, 98, 47, 98, 47, 99, 100]⟩ : ByteArray) true _ A3.out).mono ?_); rintro e w12 ⟨rfl, hb⟩; have n0_ := Aside0.mk (below_step (by repeat (first | (with_reducible first | exact HB.out | apply below_alloc | apply pw_below_drewN | apply below_drew1) | exact HB.out)) hb); clear HB; have HB := n0_; clear n0_; (try clear hb); (try clear hb2); (try clear hk); (try clear hi)) | (go_at_call 23; (with_reducible refine (tree_Match.calls k (⟨#[42]⟩ : ByteArray) (⟨#[97, 47, 98]⟩ : ByteArray) false _ A5.out).mono ?_); rintro e w13 ⟨rfl, hb⟩; have n0_ := Aside0.mk (below_step (by repeat (first | (with_reducible first | exact HB.out | apply below_alloc | apply pw_below_drewN | apply below_drew1) | exact HB.out)) hb); clear HB; have HB := n0_; clear n0_; (try clear hb); (try clear hb2); (try clear hk); (try clear hi)) | ((with_reducible refine gate_dst (N := 13) rfl ?_); (try (refine gate_guard (by rfl) ?_; dsimp only)); refine Kd.R_lit k58 _ 58 ?hg (N := 13) ?hd (xs := ([(⟨(⟨#[97]⟩ : ByteArray), 0, (⟨#[]⟩ : ByteArray)⟩ : S58), (⟨(⟨#[97, 47, 98]⟩ : ByteArray), 0, (⟨#[]⟩ : ByteArray)⟩ : S58)] : List (S58))) (inner := [.string (⟨#[97]⟩ : ByteArray), .int .i64 0, .string (⟨#[]⟩ : ByteArray), .string (⟨#[97, 47, 98]⟩ : ByteArray), .int .i64 0, .string (⟨#[]⟩ : ByteArray)]) (ok := fun _ => True) (okp := fun _ => True) ?hr ?hp (fun _ hk => hk) trivial (Below.refl _ _) (Nat.le_refl _) (by simp) ?_; (case hd => rfl); (case hg => rfl); (case hr => first | (go_simp; done) | (go_simp; rfl)); (case hp => exact (Reps.c3 (show Kd.M k58 _ _ _ (⟨(⟨#[97]⟩ : ByteArray), 0, (⟨#[]⟩ : ByteArray)⟩ : S58) [.string (⟨#[97]⟩ : ByteArray), .int .i64 0, .string (⟨#[]⟩ : ByteArray)] from (k58_mkM _ _ _ (⟨(⟨#[97]⟩ : ByteArray), 0, (⟨#[]⟩ : ByteArray)⟩ : S58) )) (Reps.c3 (show Kd.M k58 _ _ _ (⟨(⟨#[97, 47, 98]⟩ : ByteArray), 0, (⟨#[]⟩ : ByteArray)⟩ : S58) [.string (⟨#[97, 47, 98]⟩ : ByteArray), .int .i64 0, .string (⟨#[]⟩ : ByteArray)] from (k58_mkM _ _ _ (⟨(⟨#[97, 47, 98]⟩ : ByteArray), 0, (⟨#[]⟩ : ByteArray)⟩ : S58) )) (Reps.none _ _)))); intro v190 w14 ho15 hb hg_ hnew_; clear hg_ hnew_; (first | rw [← Ny189.out] at ho15 | (simp only [Int.reduceToNat] at ho15; rw [← Ny189.out] at ho15)); have n0_ := Aside0.mk (Kd.R_lower ho15 (below_size (by repeat (first | (with_reducible first | exact HB.out | apply below_alloc | apply pw_below_drewN | apply below_drew1) | exact HB.out)))); have n1_ := Aside0.mk (below_step (by repeat (first | (with_reducible first | exact HB.out | apply below_alloc | apply pw_below_drewN | apply below_drew1) | exact HB.out)) hb); clear HB; have HO191 := n0_; have HB := n1_; clear n0_ n1_; clear hb ho15; obtain ⟨Ao16, co16, eo16⟩ := Kd.R_slice HO191.out; subst eo16) | (go_at_call 19; (with_reducible refine (tree_Check.calls k _ _ y189 t192 _ ?side1 ?side2 A10.out).mono ?_); (case side1 => repeat (first | exact (Kd.R_reads' HO191.out).2.2 | (with_reducible refine Kd.C_alloc ?_ _) | (with_reducible refine Kd.C_drewN ?_ _) | (with_reducible refine Kd.C_drew ?_))); (case side2 => exact (Kd.R_reads' HO191.out).2.1); rintro e w17 ⟨rfl, hb⟩; have n0_ := Aside0.mk (Kd.R_below (by (with_reducible repeat (first | apply Kd.R_alloc | apply Kd.R_drewN | apply Kd.R_drew)); exact HO191.out) hb); have n1_ := Aside0.mk (below_step (by repeat (first | (with_reducible first | exact HB.out | apply below_alloc | apply pw_below_drewN | apply below_drew1) | exact HB.out)) hb); clear HO191; clear HB; have HO191 := n0_; have HB := n1_; clear n0_ n1_; (try clear hb); (try clear hb2); (try clear hk); (try clear hi)))
        go_ret
        exact ⟨by first | rfl | (simp [errW_none, errW_some] <;> rfl) | (simp [*, errW_none, errW_some] <;> rfl), by repeat (first | (with_reducible first | exact HB.out | apply below_alloc | apply pw_below_drewN | apply below_drew1) | exact HB.out)⟩
    · replace c4 := Bool.eq_false_iff.mpr c4
      subst c4
      have H1 : (some false) = some r := by rw [if_neg (show ¬ (false = true) by decide)] at H; exact H
      clear H
      have H := H1
      clear H1
      obtain rfl := Option.some.inj H
      go_enter Tryd.func16, Tryd.ntmps16
      go_wp2_with (first | ((with_reducible refine gate_callee (f := 18) rfl ?_); refine goesL_ (some 1) rfl rfl Tryd.func18 (by kernel_rfl) rfl #[.string (⟨#[97, 47, 98]⟩ : ByteArray), .string (⟨#[97, 45, 98]⟩ : ByteArray)] rfl (by (try simp only [List.map_toArray, List.map_cons, List.map_nil]); first | done | rfl | (simp only [List.length_drop, List.length_take]; rfl)) ?_; (with_reducible refine (tree_Order.calls k (⟨#[97, 47, 98]⟩ : ByteArray) (⟨#[97, 45, 98]⟩ : ByteArray) t186 _ A1.out).mono ?_); rintro e w18 ⟨rfl, hb⟩; refine ⟨_, rfl, ?_⟩; have n0_ := Aside0.mk (below_step (by repeat (first | (with_reducible first | exact HB.out | apply below_alloc | apply pw_below_drewN | apply below_drew1) | exact HB.out)) hb); clear HB; have HB := n0_; clear n0_; (try clear hb); (try clear hb2); (try clear hk); (try clear hi)) | (go_at_call 23; (with_reducible refine (tree_Match.calls k (⟨#[97, 47, 42, 42, 47, 99, 63]⟩ : ByteArray) (⟨#[97, 47, 98, 47, 98, 47, 99, 100]⟩ : ByteArray) false _ A3.out).mono ?_); rintro e w19 ⟨rfl, hb⟩; have n0_ := Aside0.mk (below_step (by repeat (first | (with_reducible first | exact HB.out | apply below_alloc | apply pw_below_drewN | apply below_drew1) | exact HB.out)) hb); clear HB; have HB := n0_; clear n0_; (try clear hb); (try clear hb2); (try clear hk); (try clear hi)))
      go_ret
      exact ⟨by first | rfl | (simp [errW_none, errW_some] <;> rfl) | (simp [*, errW_none, errW_some] <;> rfl), by repeat (first | (with_reducible first | exact HB.out | apply below_alloc | apply pw_below_drewN | apply below_drew1) | exact HB.out)⟩
  · rw [if_neg c2] at H
    have c2b0 : decide (t186 < 0) = false := decide_eq_false c2
    clear c2
    obtain rfl := Option.some.inj H
    go_enter Tryd.func16, Tryd.ntmps16
    go_wp2_with (first | ((with_reducible refine gate_callee (f := 18) rfl ?_); refine goesL_ (some 1) rfl rfl Tryd.func18 (by kernel_rfl) rfl #[.string (⟨#[97, 47, 98]⟩ : ByteArray), .string (⟨#[97, 45, 98]⟩ : ByteArray)] rfl (by (try simp only [List.map_toArray, List.map_cons, List.map_nil]); first | done | rfl | (simp only [List.length_drop, List.length_take]; rfl)) ?_; (with_reducible refine (tree_Order.calls k (⟨#[97, 47, 98]⟩ : ByteArray) (⟨#[97, 45, 98]⟩ : ByteArray) t186 _ A1.out).mono ?_); rintro e w20 ⟨rfl, hb⟩; refine ⟨_, rfl, ?_⟩; have n0_ := Aside0.mk (below_step (by repeat (first | (with_reducible first | exact HB.out | apply below_alloc | apply pw_below_drewN | apply below_drew1) | exact HB.out)) hb); clear HB; have HB := n0_; clear n0_; (try clear hb); (try clear hb2); (try clear hk); (try clear hi)))
    go_ret
    exact ⟨by first | rfl | (simp [errW_none, errW_some] <;> rfl) | (simp [*, errW_none, errW_some] <;> rfl), by repeat (first | (with_reducible first | exact HB.out | apply below_alloc | apply pw_below_drewN | apply below_drew1) | exact HB.out)⟩
end Go.Proofs.YtafjlibcdlihcaaDoor.G
end
section
namespace Go.Proofs.YtafjlibcdlihcaaDoor.G
open Go.RowKit Go.Proofs.YtafjlibcdlihcaaDoorW.PrintWords Go.Proofs.YtafjlibcdlihcaaDoorW.PrintLast Go.Proofs.YtafjlibcdlihcaaDoorW.PrintMore
attribute [local go_sem] max2_int min2_int max_two min_two max_three min_three max_four min_four   -- for this text's walks alone
set_option linter.unusedVariables false
set_option linter.unusedSimpArgs false
def barquelaw09_few.f (l0 : List (S58)) : Option ((List (S58))) := if (l0.length : Int) > 60 then (if 60 ≤ (l0.length : Int) then (some (l0.take 60)) else (none)) else (some l0)
set_option maxHeartbeats 8000000 in
set_option maxRecDepth 100000 in
theorem barquelaw09_few.calls (P0_ : Nat → Prop) (A0 : Option Addr) (c0 : Nat) (l0 : List (S58)) (r : List (S58)) (w : World) (hs0 : Kd.V k58 58 w w.heap.size (fun k_ => P0_ k_) (.slice A0 l0.length c0) l0) (h : barquelaw09_few.f l0 = some r) :
    Calls Tryd.prog 25 #[.slice A0 l0.length c0] w fun e w' => ∃ v0_ : Value, e = .returned (v0_) ∧ Kd.V k58 58 w' w.heap.size (fun k_ => (P0_ k_ ∨ w.heap.size ≤ k_)) v0_ r ∧ Below w.heap.size w w' := by
  have HO0 := Aside0.mk (show Kd.V k58 58 w w.heap.size (fun k_ => (P0_ k_ ∨ w.heap.size ≤ k_)) (.slice A0 l0.length c0) l0 from Kd.V_mono hs0 (fun k_ hk => .inl hk))
  have HB := Aside0.mk (Below.refl w.heap.size w)
  have H : (if (l0.length : Int) > 60 then (if 60 ≤ (l0.length : Int) then (some (l0.take 60)) else (none)) else (some l0)) = some r := h
  clear h
  by_cases c2 : (l0.length : Int) > 60
  · rw [if_pos c2] at H
    have c2b0 : decide (60 < (l0.length : Int)) = true := decide_eq_true c2
    have c2b1 : decide (60 < l0.length) = true := decide_eq_true (by omega)
    clear c2
    by_cases c3 : 60 ≤ (l0.length : Int)
    · rw [if_pos c3] at H
      have c3b0 := eq_true c3
      have c3b1 : decide (60 ≤ (l0.length : Int)) = true := decide_eq_true c3
      clear c3
      obtain ⟨y283, hy283⟩ : ∃ y_ : List (S58), y_ = (l0.take 60) := ⟨_, rfl⟩
      replace H : (some y283) = some r := by first | (rw [hy283]; with_reducible exact H) | (have H2_ := (Option.bind_some _ _).symm.trans H; rw [hy283]; with_reducible exact H2_) | (have H2_ := (Option.bind_some _ _).symm.trans H; with_reducible exact H2_) | with_reducible exact H | (rw [hy283]; exact H) | exact H
      have Ny283 := Aside0.mk hy283
      clear hy283
      obtain rfl := Option.some.inj H
      have q4 : (60 : Int) ≤ ((l0.length : Int) : Int) := of_decide_eq_true (by first | (with_reducible assumption) | assumption)
      obtain ⟨i04, hi04, _, hsz4, _⟩ := info_parts info58
      have hroom4 : l0.length ≤ c0 := (Kd.V_reads' HO0.out).2.1
      have hC4 : Kd.F k58 _ _ A0 l0.length l0 := (Kd.V_at (base := w.heap.size) HO0.out).2.2
      have hcut4 := cut_to (P := Tryd.prog) 29 58 .i64 Tryd.underlying29 hi04 A0 l0.length c0 60 (by omega) q4 hroom4
      have hr4 := Kd.F_take (m := 60) hC4 (by omega)
      have hy4 : y283.length = (60 : Int).toNat := (by rw [Ny283.out, List.length_take]; omega)
      rw [← Ny283.out] at hr4
      rw [← hy4] at hcut4
      have HO287 := Aside0.mk (show Kd.V k58 58 _ w.heap.size _ (.slice A0 y283.length c0) y283 from Kd.V_mk (by omega) hr4)
      have HC287 := Aside0.mk (show y283.length ≤ c0 from by omega)
      clear hr4 hC4 hroom4 hi04 hsz4
      have KY4 := Aside0.mk hy4
      clear hy4
      replace q4 := eq_true q4
      go_enter Tryd.func25, Tryd.ntmps25
      go_wp2
      go_ret
      exact ⟨_, by first | rfl | (simp [errW_none, errW_some] <;> rfl) | (simp [*, errW_none, errW_some] <;> rfl), by (with_reducible repeat (first | apply Kd.V_alloc | apply Kd.V_drewN | apply Kd.V_drew)); exact HO287.out, by repeat (first | (with_reducible first | exact HB.out | apply below_alloc | apply pw_below_drewN | apply below_drew1) | exact HB.out)⟩
    · rw [if_neg c3] at H
      exact absurd H (by simp)
  · rw [if_neg c2] at H
    have c2b0 : decide (60 < (l0.length : Int)) = false := decide_eq_false c2
    have c2b1 : decide (60 < l0.length) = false := decide_eq_false (by omega)
    clear c2
    obtain rfl := Option.some.inj H
    go_enter Tryd.func25, Tryd.ntmps25
    go_wp2
    go_ret
    exact ⟨_, by first | rfl | (simp [errW_none, errW_some] <;> rfl) | (simp [*, errW_none, errW_some] <;> rfl), by (with_reducible repeat (first | apply Kd.V_alloc | apply Kd.V_drewN | apply Kd.V_drew)); exact HO0.out, by repeat (first | (with_reducible first | exact HB.out | apply below_alloc | apply pw_below_drewN | apply below_drew1) | exact HB.out)⟩
end Go.Proofs.YtafjlibcdlihcaaDoor.G
end
section
namespace Go.Proofs.YtafjlibcdlihcaaDoor.G
open Go.RowKit Go.Proofs.YtafjlibcdlihcaaDoorW.PrintWords Go.Proofs.YtafjlibcdlihcaaDoorW.PrintLast Go.Proofs.YtafjlibcdlihcaaDoorW.PrintMore
attribute [local go_sem] max2_int min2_int max_two min_two max_three min_three max_four min_four   -- for this text's walks alone
set_option linter.unusedVariables false
set_option linter.unusedSimpArgs false
def barquelaw09_TreeFilters.j0 : Nat → List (S58) → List ByteArray → List ByteArray → Bool → Option (Bool)
  | 0, _, _, _, _ => none
  | k + 1, x0, x1, x2, x20 => if x20 = true then ((barquelaw09_awake.f k).bind fun t339 => (some t339)) else ((tree_Filter.f k x0 x1 x2).bind fun bt340 => ((barqueref09_Filter.f k x0 x1 x2).bind fun bt344 => ((barqueref09_Files.f k bt340.1 bt344.1).bind fun t348 => (if t348 = true then (if bt340.2 = bt344.2 then ((barquelaw09_awake.f k).bind fun t349 => (some t349)) else (some false)) else (some false)))))
def barquelaw09_TreeFilters.f (k : Nat) (l0 : List (S58)) (l1 : List ByteArray) (l2 : List ByteArray) : Option (Bool) := (barquelaw09_few.f l0).bind fun t336 => (if (l1.length : Int) > 8 then (barquelaw09_TreeFilters.j0 k t336 l1 l2 true) else (barquelaw09_TreeFilters.j0 k t336 l1 l2 (decide ((l2.length : Int) > 8))))
theorem barquelaw09_TreeFilters.mono_l : ∀ k, (∀ y0 y1 y2 y3, LeO (barquelaw09_TreeFilters.j0 k y0 y1 y2 y3) (barquelaw09_TreeFilters.j0 (k + 1) y0 y1 y2 y3))
  | 0 => fun _ _ _ _ r h => by simp [barquelaw09_TreeFilters.j0] at h
  | k + 1 => by
    have ih0 := barquelaw09_TreeFilters.mono_l k
    · intro y0 y1 y2 y3
      unfold barquelaw09_TreeFilters.j0
      repeat' first
      | (with_reducible exact ih0 _ _ _ _)
      | (with_reducible exact barquelaw09_awake.mono _)
      | (with_reducible exact barqueref09_Files.mono _ _ _)
      | (with_reducible exact barqueref09_Filter.mono _ _ _ _)
      | (with_reducible exact tree_Filter.mono _ _ _ _)
      | (with_reducible exact LeO.refl _)
      | (with_reducible exact LeO.none _)
      | (with_reducible refine LeO.ite ?_ ?_)
      | (with_reducible refine LeO.bind ?_ (fun _ => ?_))
      | exact ih0 _ _ _ _
      | exact barquelaw09_awake.mono _
      | exact barqueref09_Files.mono _ _ _
      | exact barqueref09_Filter.mono _ _ _ _
      | exact tree_Filter.mono _ _ _ _
      | exact LeO.none _
      | refine LeO.ite ?_ ?_
      | refine LeO.bind ?_ (fun _ => ?_)
theorem barquelaw09_TreeFilters.mono : ∀ a0 a1 a2 k, LeO (barquelaw09_TreeFilters.f k a0 a1 a2) (barquelaw09_TreeFilters.f (k + 1) a0 a1 a2) := by
  intro a0 a1 a2 k
  have ih0 := barquelaw09_TreeFilters.mono_l k
  unfold barquelaw09_TreeFilters.f
  repeat' first
      | (with_reducible exact ih0 _ _ _ _)
      | (with_reducible exact barquelaw09_awake.mono _)
      | (with_reducible exact barqueref09_Files.mono _ _ _)
      | (with_reducible exact barqueref09_Filter.mono _ _ _ _)
      | (with_reducible exact tree_Filter.mono _ _ _ _)
      | (with_reducible exact LeO.refl _)
      | (with_reducible exact LeO.none _)
      | (with_reducible refine LeO.ite ?_ ?_)
      | (with_reducible refine LeO.bind ?_ (fun _ => ?_))
      | exact ih0 _ _ _ _
      | exact barquelaw09_awake.mono _
      | exact barqueref09_Files.mono _ _ _
      | exact barqueref09_Filter.mono _ _ _ _
      | exact tree_Filter.mono _ _ _ _
      | exact LeO.none _
      | refine LeO.ite ?_ ?_
      | refine LeO.bind ?_ (fun _ => ?_)
set_option maxHeartbeats 8000000 in
set_option maxRecDepth 100000 in
theorem barquelaw09_TreeFilters.calls (k : Nat) (A0 : Option Addr) (c0 : Nat) (l0 : List (S58)) (A1 : Option Addr) (c1 : Nat) (l1 : List ByteArray) (A2 : Option Addr) (c2 : Nat) (l2 : List ByteArray) (r : Bool) (w : World) (hr0 : Kd.C k58 w A0 l0.length l0) (hc0 : l0.length ≤ c0) (hr1 : Kd.C Kd.string w A1 l1.length l1) (hc1 : l1.length ≤ c1) (hr2 : Kd.C Kd.string w A2 l2.length l2) (hc2 : l2.length ≤ c2) (h : barquelaw09_TreeFilters.f k l0 l1 l2 = some r) :
    Calls Tryd.prog 7 #[.slice A0 l0.length c0, .slice A1 l1.length c1, .slice A2 l2.length c2] w fun e w' => e = .returned (.bool r) ∧ Below w.heap.size w w' := by
  have HR0 := Aside0.mk hr0
  have HC0 := Aside0.mk hc0
  clear hr0 hc0
  have HR1 := Aside0.mk hr1
  have HC1 := Aside0.mk hc1
  clear hr1 hc1
  have HR2 := Aside0.mk hr2
  have HC2 := Aside0.mk hc2
  clear hr2 hc2
  have HB := Aside0.mk (Below.refl w.heap.size w)
  have H : ((barquelaw09_few.f l0).bind fun t336 => (if (l1.length : Int) > 8 then (barquelaw09_TreeFilters.j0 k t336 l1 l2 true) else (barquelaw09_TreeFilters.j0 k t336 l1 l2 (decide ((l2.length : Int) > 8))))) = some r := h
  clear h
  replace H := Option.bind_eq_some_iff.mp H
  obtain ⟨t336, A40, H⟩ := H
  replace H : (if (l1.length : Int) > 8 then (barquelaw09_TreeFilters.j0 k t336 l1 l2 true) else (barquelaw09_TreeFilters.j0 k t336 l1 l2 (decide ((l2.length : Int) > 8)))) = some r := H
  have A4 := Aside0.mk A40
  clear A40
  have HC5 := Aside0.mk H
  clear H
  go_enter Tryd.func7, Tryd.ntmps7
  go_upto_region 2 with (first | ((with_reducible refine gate_callee (f := 25) rfl ?_); refine goesL_ (some 12) rfl rfl Tryd.func25 (by kernel_rfl) rfl #[.slice A0 l0.length c0] rfl (by (try simp only [List.map_toArray, List.map_cons, List.map_nil]); first | done | rfl | (simp only [List.length_drop, List.length_take]; rfl)) ?_; (with_reducible refine (barquelaw09_few.calls (fun k_ => k_ < w.heap.size) _ _ l0 t336 _ ?side1 A4.out).mono ?_); (case side1 => exact Kd.V_mk HC0.out (Kd.F_below (Kd.C_F k58_heap HR0.out) (by repeat (first | (with_reducible first | exact HB.out | apply below_alloc | apply pw_below_drewN | apply below_drew1) | exact HB.out)))); rintro e w6 ⟨v337, rfl, ho0, hb⟩; refine ⟨_, rfl, ?_⟩; have n0_ := Aside0.mk (Kd.V_lower (Kd.V_mono (ok' := fun k_ => True) ho0 (fun k_ hk_ => trivial)) (below_size (by repeat (first | (with_reducible first | exact HB.out | apply below_alloc | apply pw_below_drewN | apply below_drew1) | exact HB.out)))); have n1_ := Aside0.mk (below_step (by repeat (first | (with_reducible first | exact HB.out | apply below_alloc | apply pw_below_drewN | apply below_drew1) | exact HB.out)) hb); clear HB; have HO338 := n0_; have HB := n1_; clear n0_ n1_; (try clear hb); (try clear hb2); (try clear hk); (try clear hi); (try clear ho0)))
  (try simp only [Act.put, List.setIfInBounds_toArray, List.set_cons_zero, List.set_cons_succ])
  go_cut [20] (fun v20 wc => ∃ (kq : Nat) (x20_4 : Bool), v20 = .bool x20_4 ∧ Aside0 (barquelaw09_TreeFilters.j0 kq t336 l1 l2 x20_4 = some r) ∧ Aside0 (kq ≤ k) ∧ Aside0 (Kd.V k58 58 wc w.heap.size (fun _ => True) v337 t336) ∧ Aside0 (Below w.heap.size w wc))
  case first =>
    have H := HC5.out
    clear HC5
    by_cases c7 : (l1.length : Int) > 8
    · rw [if_pos c7] at H
      have c7b0 : decide (8 < (l1.length : Int)) = true := decide_eq_true c7
      have c7b1 : decide (8 < l1.length) = true := decide_eq_true (by omega)
      clear c7
      (first | rw [c7b0] | (simp only [i64_w, i32_w]; rw [c7b0]) | skip)
      have H' := Aside0.mk H
      clear H
      go_wp2
      go_meet
      case rel => exact ⟨_, (true), (by first | rfl | (simp; done) | (simp [*]; done)), H', ⟨by first | omega | exact Nat.le_refl _⟩, ⟨by (with_reducible repeat (first | apply Kd.V_alloc | apply Kd.V_drewN | apply Kd.V_drew)); exact HO338.out⟩, ⟨by repeat (first | (with_reducible first | exact HB.out | apply below_alloc | apply pw_below_drewN | apply below_drew1) | exact HB.out)⟩⟩
    · rw [if_neg c7] at H
      have c7b0 : decide (8 < (l1.length : Int)) = false := decide_eq_false c7
      have c7b1 : decide (8 < l1.length) = false := decide_eq_false (by omega)
      clear c7
      (first | rw [c7b0] | (simp only [i64_w, i32_w]; rw [c7b0]) | skip)
      have H' := Aside0.mk H
      clear H
      go_wp2
      go_meet
      case rel => exact ⟨_, (decide ((l2.length : Int) > 8)), (by first | rfl | (simp; done) | (simp [*]; done)), H', ⟨by first | omega | exact Nat.le_refl _⟩, ⟨by (with_reducible repeat (first | apply Kd.V_alloc | apply Kd.V_drewN | apply Kd.V_drew)); exact HO338.out⟩, ⟨by repeat (first | (with_reducible first | exact HB.out | apply below_alloc | apply pw_below_drewN | apply below_drew1) | exact HB.out)⟩⟩
  case rest =>
    clear HC5
    try clear c1
    try clear c2
    try clear p2
    try clear c7
    try clear c7b0
    try clear c7b1
    obtain ⟨kq, x20_4, rfl, HA, HJ4, HO_0, HB⟩ := hcut
    cases kq with
    | zero => exact absurd HA.out (by simp [barquelaw09_TreeFilters.j0])
    | succ kj4 =>
      have H := HA.out
      clear HA
      simp only [barquelaw09_TreeFilters.j0] at H
      by_cases c8 : x20_4 = true
      · subst c8
        have H1 : ((barquelaw09_awake.f kj4).bind fun t339 => (some t339)) = some r := by rw [if_pos rfl] at H; exact H
        clear H
        have H := H1
        clear H1
        replace H := Option.bind_eq_some_iff.mp H
        obtain ⟨t339, A90, H⟩ := H
        replace H : (some t339) = some r := H
        have A9 := Aside0.mk A90
        clear A90
        obtain rfl := Option.some.inj H
        go_wp2_with (first | ((with_reducible refine gate_callee (f := 16) rfl ?_); refine goesL_ (some 21) rfl rfl Tryd.func16 (by kernel_rfl) rfl #[] rfl (by (try simp only [List.map_toArray, List.map_cons, List.map_nil]); first | done | rfl | (simp only [List.length_drop, List.length_take]; rfl)) ?_; (with_reducible refine (barquelaw09_awake.calls kj4  t339 _ A9.out).mono ?_); rintro e w10 ⟨rfl, hb⟩; refine ⟨_, rfl, ?_⟩; have n0_ := Aside0.mk (Kd.V_below (by (with_reducible repeat (first | apply Kd.V_alloc | apply Kd.V_drewN | apply Kd.V_drew)); exact HO_0.out) hb); have n1_ := Aside0.mk (below_step (by repeat (first | (with_reducible first | exact HB.out | apply below_alloc | apply pw_below_drewN | apply below_drew1) | exact HB.out)) hb); clear HO_0; clear HB; have HO_0 := n0_; have HB := n1_; clear n0_ n1_; (try clear hb); (try clear hb2); (try clear hk); (try clear hi)))
        go_ret
        exact ⟨by first | rfl | (simp [errW_none, errW_some] <;> rfl) | (simp [*, errW_none, errW_some] <;> rfl), by repeat (first | (with_reducible first | exact HB.out | apply below_alloc | apply pw_below_drewN | apply below_drew1) | exact HB.out)⟩
      · replace c8 := Bool.eq_false_iff.mpr c8
        subst c8
        have H1 : ((tree_Filter.f kj4 t336 l1 l2).bind fun bt340 => ((barqueref09_Filter.f kj4 t336 l1 l2).bind fun bt344 => ((barqueref09_Files.f kj4 bt340.1 bt344.1).bind fun t348 => (if t348 = true then (if bt340.2 = bt344.2 then ((barquelaw09_awake.f kj4).bind fun t349 => (some t349)) else (some false)) else (some false))))) = some r := by rw [if_neg (show ¬ (false = true) by decide)] at H; exact H
        clear H
        have H := H1
        clear H1
        replace H := Option.bind_eq_some_iff.mp H
        obtain ⟨⟨t340, t341⟩, A110, H⟩ := H
        replace H : ((barqueref09_Filter.f kj4 t336 l1 l2).bind fun bt344 => ((barqueref09_Files.f kj4 t340 bt344.1).bind fun t348 => (if t348 = true then (if t341 = bt344.2 then ((barquelaw09_awake.f kj4).bind fun t349 => (some t349)) else (some false)) else (some false)))) = some r := H
        have A11 := Aside0.mk A110
        clear A110
        replace H := Option.bind_eq_some_iff.mp H
        obtain ⟨⟨t344, t345⟩, A120, H⟩ := H
        replace H : ((barqueref09_Files.f kj4 t340 t344).bind fun t348 => (if t348 = true then (if t341 = t345 then ((barquelaw09_awake.f kj4).bind fun t349 => (some t349)) else (some false)) else (some false))) = some r := H
        have A12 := Aside0.mk A120
        clear A120
        replace H := Option.bind_eq_some_iff.mp H
        obtain ⟨t348, A130, H⟩ := H
        replace H : (if t348 = true then (if t341 = t345 then ((barquelaw09_awake.f kj4).bind fun t349 => (some t349)) else (some false)) else (some false)) = some r := H
        have A13 := Aside0.mk A130
        clear A130
        by_cases c14 : t348 = true
        · subst c14
          have H1 : (if t341 = t345 then ((barquelaw09_awake.f kj4).bind fun t349 => (some t349)) else (some false)) = some r := by rw [if_pos rfl] at H; exact H
          clear H
          have H := H1
          clear H1
          by_cases c15 : t341 = t345
          · rw [if_pos c15] at H
            have c15b0 : (t341 == t345) = true := beq_iff_eq.mpr c15
            have c15b1 : (t341 != t345) = false := bne_eq_false_iff_eq.mpr c15
            clear c15
            replace H := Option.bind_eq_some_iff.mp H
            obtain ⟨t349, A160, H⟩ := H
            replace H : (some t349) = some r := H
            have A16 := Aside0.mk A160
            clear A160
            obtain rfl := Option.some.inj H
            obtain ⟨Ao17, co17, eo17⟩ := Kd.V_slice HO_0.out
            subst eo17
            go_wp2_with (first | ((with_reducible refine gate_callee (f := 26) rfl ?_); refine goesL_ (some 26) rfl rfl Tryd.func26 (by kernel_rfl) rfl #[.slice Ao17 t336.length co17, .slice A1 l1.length c1, .slice A2 l2.length c2] rfl (by (try simp only [List.map_toArray, List.map_cons, List.map_nil]); first | done | rfl | (simp only [List.length_drop, List.length_take]; rfl)) ?_; (with_reducible refine (tree_Filter.calls kj4 _ _ t336 _ _ l1 _ _ l2 t340 t341 _ ?side1 ?side2 ?side3 ?side4 ?side5 ?side6 A11.out).mono ?_); (case side1 => repeat (first | exact (Kd.V_reads' HO_0.out).2.2 | (with_reducible refine Kd.C_alloc ?_ _) | (with_reducible refine Kd.C_drewN ?_ _) | (with_reducible refine Kd.C_drew ?_))); (case side2 => exact (Kd.V_reads' HO_0.out).2.1); (case side3 => repeat (first | exact (Kd.C_below HR1.out HB.out) | (with_reducible refine Kd.C_alloc ?_ _) | (with_reducible refine Kd.C_drewN ?_ _) | (with_reducible refine Kd.C_drew ?_))); (case side4 => exact HC1.out); (case side5 => repeat (first | exact (Kd.C_below HR2.out HB.out) | (with_reducible refine Kd.C_alloc ?_ _) | (with_reducible refine Kd.C_drewN ?_ _) | (with_reducible refine Kd.C_drew ?_))); (case side6 => exact HC2.out); rintro e w18 ⟨v342, rfl, ho0, hb⟩; refine ⟨_, rfl, ?_⟩; have n0_ := Aside0.mk (Kd.V_elder' (by (with_reducible repeat (first | apply Kd.V_alloc | apply Kd.V_drewN | apply Kd.V_drew)); exact HO_0.out) (Kd.R_base ho0) hb); have n1_ := Aside0.mk (Kd.R_lower ho0 (below_size (by repeat (first | (with_reducible first | exact HB.out | apply below_alloc | apply pw_below_drewN | apply below_drew1) | exact HB.out)))); have n2_ := Aside0.mk (below_step (by repeat (first | (with_reducible first | exact HB.out | apply below_alloc | apply pw_below_drewN | apply below_drew1) | exact HB.out)) hb); clear HO_0; clear HB; have HO_0 := n0_; have HO343 := n1_; have HB := n2_; clear n0_ n1_ n2_; (try clear hb); (try clear hb2); (try clear hk); (try clear hi); (try clear ho0)) | ((with_reducible refine gate_callee (f := 27) rfl ?_); refine goesL_ (some 33) rfl rfl Tryd.func27 (by kernel_rfl) rfl #[.slice Ao17 t336.length co17, .slice A1 l1.length c1, .slice A2 l2.length c2] rfl (by (try simp only [List.map_toArray, List.map_cons, List.map_nil]); first | done | rfl | (simp only [List.length_drop, List.length_take]; rfl)) ?_; (with_reducible refine (barqueref09_Filter.calls kj4 _ _ t336 _ _ l1 _ _ l2 t344 t345 _ ?side1 ?side2 ?side3 ?side4 ?side5 ?side6 A12.out).mono ?_); (case side1 => repeat (first | exact (Kd.V_reads' HO_0.out).2.2 | (with_reducible refine Kd.C_alloc ?_ _) | (with_reducible refine Kd.C_drewN ?_ _) | (with_reducible refine Kd.C_drew ?_))); (case side2 => exact (Kd.V_reads' HO_0.out).2.1); (case side3 => repeat (first | exact (Kd.C_below HR1.out HB.out) | (with_reducible refine Kd.C_alloc ?_ _) | (with_reducible refine Kd.C_drewN ?_ _) | (with_reducible refine Kd.C_drew ?_))); (case side4 => exact HC1.out); (case side5 => repeat (first | exact (Kd.C_below HR2.out HB.out) | (with_reducible refine Kd.C_alloc ?_ _) | (with_reducible refine Kd.C_drewN ?_ _) | (with_reducible refine Kd.C_drew ?_))); (case side6 => exact HC2.out); rintro e w19 ⟨v346, rfl, ho0, hb⟩; refine ⟨_, rfl, ?_⟩; have n0_ := Aside0.mk (Kd.V_elder' (by (with_reducible repeat (first | apply Kd.V_alloc | apply Kd.V_drewN | apply Kd.V_drew)); exact HO_0.out) (Kd.R_base ho0) hb); have n1_ := Aside0.mk (Kd.R_elder' (by (with_reducible repeat (first | apply Kd.R_alloc | apply Kd.R_drewN | apply Kd.R_drew)); exact HO343.out) (Kd.R_base ho0) hb); have n2_ := Aside0.mk (Kd.R_lower (Kd.R_new' ho0 (Kd.R_lt (by (with_reducible repeat (first | apply Kd.R_alloc | apply Kd.R_drewN | apply Kd.R_drew)); exact HO343.out))) (below_size (by repeat (first | (with_reducible first | exact HB.out | apply below_alloc | apply pw_below_drewN | apply below_drew1) | exact HB.out)))); have n3_ := Aside0.mk (below_step (by repeat (first | (with_reducible first | exact HB.out | apply below_alloc | apply pw_below_drewN | apply below_drew1) | exact HB.out)) hb); clear HO_0; clear HO343; clear HB; have HO_0 := n0_; have HO343 := n1_; have HO347 := n2_; have HB := n3_; clear n0_ n1_ n2_ n3_; (try clear hb); (try clear hb2); (try clear hk); (try clear hi); (try clear ho0); obtain ⟨Ao20, co20, eo20⟩ := Kd.R_slice HO343.out; subst eo20; obtain ⟨Ao21, co21, eo21⟩ := Kd.R_slice HO347.out; subst eo21) | ((with_reducible refine gate_callee (f := 28) rfl ?_); refine goesL_ (some 38) rfl rfl Tryd.func28 (by kernel_rfl) rfl #[.slice Ao20 t340.length co20, .slice Ao21 t344.length co21] rfl (by (try simp only [List.map_toArray, List.map_cons, List.map_nil]); first | done | rfl | (simp only [List.length_drop, List.length_take]; rfl)) ?_; (with_reducible refine (barqueref09_Files.calls kj4 _ _ t340 _ _ t344 true _ ?side1 ?side2 ?side3 ?side4 A13.out).mono ?_); (case side1 => repeat (first | exact (Kd.R_reads' HO343.out).2.2 | (with_reducible refine Kd.C_alloc ?_ _) | (with_reducible refine Kd.C_drewN ?_ _) | (with_reducible refine Kd.C_drew ?_))); (case side2 => exact (Kd.R_reads' HO343.out).2.1); (case side3 => repeat (first | exact (Kd.R_reads' HO347.out).2.2 | (with_reducible refine Kd.C_alloc ?_ _) | (with_reducible refine Kd.C_drewN ?_ _) | (with_reducible refine Kd.C_drew ?_))); (case side4 => exact (Kd.R_reads' HO347.out).2.1); rintro e w' ⟨rfl, ⟨nd, rfl⟩⟩; refine ⟨_, rfl, ?_⟩) | (go_at_call 16; (with_reducible refine (barquelaw09_awake.calls kj4  t349 _ A16.out).mono ?_); rintro e w22 ⟨rfl, hb⟩; have n0_ := Aside0.mk (Kd.V_below (by (with_reducible repeat (first | apply Kd.V_alloc | apply Kd.V_drewN | apply Kd.V_drew)); exact HO_0.out) hb); have n1_ := Aside0.mk (Kd.R_below (by (with_reducible repeat (first | apply Kd.R_alloc | apply Kd.R_drewN | apply Kd.R_drew)); exact HO343.out) hb); have n2_ := Aside0.mk (Kd.R_below (by (with_reducible repeat (first | apply Kd.R_alloc | apply Kd.R_drewN | apply Kd.R_drew)); exact HO347.out) hb); have n3_ := Aside0.mk (below_step (by repeat (first | (with_reducible first | exact HB.out | apply below_alloc | apply pw_below_drewN | apply below_drew1) | exact HB.out)) hb); clear HO_0; clear HO343; clear HO347; clear HB; have HO_0 := n0_; have HO343 := n1_; have HO347 := n2_; have HB := n3_; clear n0_ n1_ n2_ n3_; (try clear hb); (try clear hb2); (try clear hk); (try clear hi)))
            go_ret
            exact ⟨by first | rfl | (simp [errW_none, errW_some] <;> rfl) | (simp [*, errW_none, errW_some] <;> rfl), by repeat (first | (with_reducible first | exact HB.out | apply below_alloc | apply pw_below_drewN | apply below_drew1) | exact HB.out)⟩
          · rw [if_neg c15] at H
            have c15b0 : (t341 == t345) = false := beq_eq_false_iff_ne.mpr c15
            have c15b1 : (t341 != t345) = true := bne_iff_ne.mpr c15
            obtain rfl := Option.some.inj H
            obtain ⟨Ao23, co23, eo23⟩ := Kd.V_slice HO_0.out
            subst eo23
            go_wp2_with (first | ((with_reducible refine gate_callee (f := 26) rfl ?_); refine goesL_ (some 26) rfl rfl Tryd.func26 (by kernel_rfl) rfl #[.slice Ao23 t336.length co23, .slice A1 l1.length c1, .slice A2 l2.length c2] rfl (by (try simp only [List.map_toArray, List.map_cons, List.map_nil]); first | done | rfl | (simp only [List.length_drop, List.length_take]; rfl)) ?_; (with_reducible refine (tree_Filter.calls kj4 _ _ t336 _ _ l1 _ _ l2 t340 t341 _ ?side1 ?side2 ?side3 ?side4 ?side5 ?side6 A11.out).mono ?_); (case side1 => repeat (first | exact (Kd.V_reads' HO_0.out).2.2 | (with_reducible refine Kd.C_alloc ?_ _) | (with_reducible refine Kd.C_drewN ?_ _) | (with_reducible refine Kd.C_drew ?_))); (case side2 => exact (Kd.V_reads' HO_0.out).2.1); (case side3 => repeat (first | exact (Kd.C_below HR1.out HB.out) | (with_reducible refine Kd.C_alloc ?_ _) | (with_reducible refine Kd.C_drewN ?_ _) | (with_reducible refine Kd.C_drew ?_))); (case side4 => exact HC1.out); (case side5 => repeat (first | exact (Kd.C_below HR2.out HB.out) | (with_reducible refine Kd.C_alloc ?_ _) | (with_reducible refine Kd.C_drewN ?_ _) | (with_reducible refine Kd.C_drew ?_))); (case side6 => exact HC2.out); rintro e w24 ⟨v342, rfl, ho0, hb⟩; refine ⟨_, rfl, ?_⟩; have n0_ := Aside0.mk (Kd.V_elder' (by (with_reducible repeat (first | apply Kd.V_alloc | apply Kd.V_drewN | apply Kd.V_drew)); exact HO_0.out) (Kd.R_base ho0) hb); have n1_ := Aside0.mk (Kd.R_lower ho0 (below_size (by repeat (first | (with_reducible first | exact HB.out | apply below_alloc | apply pw_below_drewN | apply below_drew1) | exact HB.out)))); have n2_ := Aside0.mk (below_step (by repeat (first | (with_reducible first | exact HB.out | apply below_alloc | apply pw_below_drewN | apply below_drew1) | exact HB.out)) hb); clear HO_0; clear HB; have HO_0 := n0_; have HO343 := n1_; have HB := n2_; clear n0_ n1_ n2_; (try clear hb); (try clear hb2); (try clear hk); (try clear hi); (try clear ho0)) | ((with_reducible refine gate_callee (f := 27) rfl ?_); refine goesL_ (some 33) rfl rfl Tryd.func27 (by kernel_rfl) rfl #[.slice Ao23 t336.length co23, .slice A1 l1.length c1, .slice A2 l2.length c2] rfl (by (try simp only [List.map_toArray, List.map_cons, List.map_nil]); first | done | rfl | (simp only [List.length_drop, List.length_take]; rfl)) ?_; (with_reducible refine (barqueref09_Filter.calls kj4 _ _ t336 _ _ l1 _ _ l2 t344 t345 _ ?side1 ?side2 ?side3 ?side4 ?side5 ?side6 A12.out).mono ?_); (case side1 => repeat (first | exact (Kd.V_reads' HO_0.out).2.2 | (with_reducible refine Kd.C_alloc ?_ _) | (with_reducible refine Kd.C_drewN ?_ _) | (with_reducible refine Kd.C_drew ?_))); (case side2 => exact (Kd.V_reads' HO_0.out).2.1); (case side3 => repeat (first | exact (Kd.C_below HR1.out HB.out) | (with_reducible refine Kd.C_alloc ?_ _) | (with_reducible refine Kd.C_drewN ?_ _) | (with_reducible refine Kd.C_drew ?_))); (case side4 => exact HC1.out); (case side5 => repeat (first | exact (Kd.C_below HR2.out HB.out) | (with_reducible refine Kd.C_alloc ?_ _) | (with_reducible refine Kd.C_drewN ?_ _) | (with_reducible refine Kd.C_drew ?_))); (case side6 => exact HC2.out); rintro e w25 ⟨v346, rfl, ho0, hb⟩; refine ⟨_, rfl, ?_⟩; have n0_ := Aside0.mk (Kd.V_elder' (by (with_reducible repeat (first | apply Kd.V_alloc | apply Kd.V_drewN | apply Kd.V_drew)); exact HO_0.out) (Kd.R_base ho0) hb); have n1_ := Aside0.mk (Kd.R_elder' (by (with_reducible repeat (first | apply Kd.R_alloc | apply Kd.R_drewN | apply Kd.R_drew)); exact HO343.out) (Kd.R_base ho0) hb); have n2_ := Aside0.mk (Kd.R_lower (Kd.R_new' ho0 (Kd.R_lt (by (with_reducible repeat (first | apply Kd.R_alloc | apply Kd.R_drewN | apply Kd.R_drew)); exact HO343.out))) (below_size (by repeat (first | (with_reducible first | exact HB.out | apply below_alloc | apply pw_below_drewN | apply below_drew1) | exact HB.out)))); have n3_ := Aside0.mk (below_step (by repeat (first | (with_reducible first | exact HB.out | apply below_alloc | apply pw_below_drewN | apply below_drew1) | exact HB.out)) hb); clear HO_0; clear HO343; clear HB; have HO_0 := n0_; have HO343 := n1_; have HO347 := n2_; have HB := n3_; clear n0_ n1_ n2_ n3_; (try clear hb); (try clear hb2); (try clear hk); (try clear hi); (try clear ho0); obtain ⟨Ao26, co26, eo26⟩ := Kd.R_slice HO343.out; subst eo26; obtain ⟨Ao27, co27, eo27⟩ := Kd.R_slice HO347.out; subst eo27) | ((with_reducible refine gate_callee (f := 28) rfl ?_); refine goesL_ (some 38) rfl rfl Tryd.func28 (by kernel_rfl) rfl #[.slice Ao26 t340.length co26, .slice Ao27 t344.length co27] rfl (by (try simp only [List.map_toArray, List.map_cons, List.map_nil]); first | done | rfl | (simp only [List.length_drop, List.length_take]; rfl)) ?_; (with_reducible refine (barqueref09_Files.calls kj4 _ _ t340 _ _ t344 true _ ?side1 ?side2 ?side3 ?side4 A13.out).mono ?_); (case side1 => repeat (first | exact (Kd.R_reads' HO343.out).2.2 | (with_reducible refine Kd.C_alloc ?_ _) | (with_reducible refine Kd.C_drewN ?_ _) | (with_reducible refine Kd.C_drew ?_))); (case side2 => exact (Kd.R_reads' HO343.out).2.1); (case side3 => repeat (first | exact (Kd.R_reads' HO347.out).2.2 | (with_reducible refine Kd.C_alloc ?_ _) | (with_reducible refine Kd.C_drewN ?_ _) | (with_reducible refine Kd.C_drew ?_))); (case side4 => exact (Kd.R_reads' HO347.out).2.1); rintro e w' ⟨rfl, ⟨nd, rfl⟩⟩; refine ⟨_, rfl, ?_⟩))
            go_ret
            exact ⟨by first | rfl | (simp [errW_none, errW_some] <;> rfl) | (simp [*, errW_none, errW_some] <;> rfl), by repeat (first | (with_reducible first | exact HB.out | apply below_alloc | apply pw_below_drewN | apply below_drew1) | exact HB.out)⟩
        · replace c14 := Bool.eq_false_iff.mpr c14
          subst c14
          have H1 : (some false) = some r := by rw [if_neg (show ¬ (false = true) by decide)] at H; exact H
          clear H
          have H := H1
          clear H1
          obtain rfl := Option.some.inj H
          obtain ⟨Ao28, co28, eo28⟩ := Kd.V_slice HO_0.out
          subst eo28
          go_wp2_with (first | ((with_reducible refine gate_callee (f := 26) rfl ?_); refine goesL_ (some 26) rfl rfl Tryd.func26 (by kernel_rfl) rfl #[.slice Ao28 t336.length co28, .slice A1 l1.length c1, .slice A2 l2.length c2] rfl (by (try simp only [List.map_toArray, List.map_cons, List.map_nil]); first | done | rfl | (simp only [List.length_drop, List.length_take]; rfl)) ?_; (with_reducible refine (tree_Filter.calls kj4 _ _ t336 _ _ l1 _ _ l2 t340 t341 _ ?side1 ?side2 ?side3 ?side4 ?side5 ?side6 A11.out).mono ?_); (case side1 => repeat (first | exact (Kd.V_reads' HO_0.out).2.2 | (with_reducible refine Kd.C_alloc ?_ _) | (with_reducible refine Kd.C_drewN ?_ _) | (with_reducible refine Kd.C_drew ?_))); (case side2 => exact (Kd.V_reads' HO_0.out).2.1); (case side3 => repeat (first | exact (Kd.C_below HR1.out HB.out) | (with_reducible refine Kd.C_alloc ?_ _) | (with_reducible refine Kd.C_drewN ?_ _) | (with_reducible refine Kd.C_drew ?_))); (case side4 => exact HC1.out); (case side5 => repeat (first | exact (Kd.C_below HR2.out HB.out) | (with_reducible refine Kd.C_alloc ?_ _) | (with_reducible refine Kd.C_drewN ?_ _) | (with_reducible refine Kd.C_drew ?_))); (case side6 => exact HC2.out); rintro e w29 ⟨v342, rfl, ho0, hb⟩; refine ⟨_, rfl, ?_⟩; have n0_ := Aside0.mk (Kd.V_elder' (by (with_reducible repeat (first | apply Kd.V_alloc | apply Kd.V_drewN | apply Kd.V_drew)); exact HO_0.out) (Kd.R_base ho0) hb); have n1_ := Aside0.mk (Kd.R_lower ho0 (below_size (by repeat (first | (with_reducible first | exact HB.out | apply below_alloc | apply pw_below_drewN | apply below_drew1) | exact HB.out)))); have n2_ := Aside0.mk (below_step (by repeat (first | (with_reducible first | exact HB.out | apply below_alloc | apply pw_below_drewN | apply below_drew1) | exact HB.out)) hb); clear HO_0; clear HB; have HO_0 := n0_; have HO343 := n1_; have HB := n2_; clear n0_ n1_ n2_; (try clear hb); (try clear hb2); (try clear hk); (try clear hi); (try clear ho0)) | ((with_reducible refine gate_callee (f := 27) rfl ?_); refine goesL_ (some 33) rfl rfl Tryd.func27 (by kernel_rfl) rfl #[.slice Ao28 t336.length co28, .slice A1 l1.length c1, .slice A2 l2.length c2] rfl (by (try simp only [List.map_toArray, List.map_cons, List.map_nil]); first | done | rfl | (simp only [List.length_drop, List.length_take]; rfl)) ?_; (with_reducible refine (barqueref09_Filter.calls kj4 _ _ t336 _ _ l1 _ _ l2 t344 t345 _ ?side1 ?side2 ?side3 ?side4 ?side5 ?side6 A12.out).mono ?_); (case side1 => repeat (first | exact (Kd.V_reads' HO_0.out).2.2 | (with_reducible refine Kd.C_alloc ?_ _) | (with_reducible refine Kd.C_drewN ?_ _) | (with_reducible refine Kd.C_drew ?_))); (case side2 => exact (Kd.V_reads' HO_0.out).2.1); (case side3 => repeat (first | exact (Kd.C_below HR1.out HB.out) | (with_reducible refine Kd.C_alloc ?_ _) | (with_reducible refine Kd.C_drewN ?_ _) | (with_reducible refine Kd.C_drew ?_))); (case side4 => exact HC1.out); (case side5 => repeat (first | exact (Kd.C_below HR2.out HB.out) | (with_reducible refine Kd.C_alloc ?_ _) | (with_reducible refine Kd.C_drewN ?_ _) | (with_reducible refine Kd.C_drew ?_))); (case side6 => exact HC2.out); rintro e w30 ⟨v346, rfl, ho0, hb⟩; refine ⟨_, rfl, ?_⟩; have n0_ := Aside0.mk (Kd.V_elder' (by (with_reducible repeat (first | apply Kd.V_alloc | apply Kd.V_drewN | apply Kd.V_drew)); exact HO_0.out) (Kd.R_base ho0) hb); have n1_ := Aside0.mk (Kd.R_elder' (by (with_reducible repeat (first | apply Kd.R_alloc | apply Kd.R_drewN | apply Kd.R_drew)); exact HO343.out) (Kd.R_base ho0) hb); have n2_ := Aside0.mk (Kd.R_lower (Kd.R_new' ho0 (Kd.R_lt (by (with_reducible repeat (first | apply Kd.R_alloc | apply Kd.R_drewN | apply Kd.R_drew)); exact HO343.out))) (below_size (by repeat (first | (with_reducible first | exact HB.out | apply below_alloc | apply pw_below_drewN | apply below_drew1) | exact HB.out)))); have n3_ := Aside0.mk (below_step (by repeat (first | (with_reducible first | exact HB.out | apply below_alloc | apply pw_below_drewN | apply below_drew1) | exact HB.out)) hb); clear HO_0; clear HO343; clear HB; have HO_0 := n0_; have HO343 := n1_; have HO347 := n2_; have HB := n3_; clear n0_ n1_ n2_ n3_; (try clear hb); (try clear hb2); (try clear hk); (try clear hi); (try clear ho0); obtain ⟨Ao31, co31, eo31⟩ := Kd.R_slice HO343.out; subst eo31; obtain ⟨Ao32, co32, eo32⟩ := Kd.R_slice HO347.out; subst eo32) | ((with_reducible refine gate_callee (f := 28) rfl ?_); refine goesL_ (some 38) rfl rfl Tryd.func28 (by kernel_rfl) rfl #[.slice Ao31 t340.length co31, .slice Ao32 t344.length co32] rfl (by (try simp only [List.map_toArray, List.map_cons, List.map_nil]); first | done | rfl | (simp only [List.length_drop, List.length_take]; rfl)) ?_; (with_reducible refine (barqueref09_Files.calls kj4 _ _ t340 _ _ t344 false _ ?side1 ?side2 ?side3 ?side4 A13.out).mono ?_); (case side1 => repeat (first | exact (Kd.R_reads' HO343.out).2.2 | (with_reducible refine Kd.C_alloc ?_ _) | (with_reducible refine Kd.C_drewN ?_ _) | (with_reducible refine Kd.C_drew ?_))); (case side2 => exact (Kd.R_reads' HO343.out).2.1); (case side3 => repeat (first | exact (Kd.R_reads' HO347.out).2.2 | (with_reducible refine Kd.C_alloc ?_ _) | (with_reducible refine Kd.C_drewN ?_ _) | (with_reducible refine Kd.C_drew ?_))); (case side4 => exact (Kd.R_reads' HO347.out).2.1); rintro e w' ⟨rfl, ⟨nd, rfl⟩⟩; refine ⟨_, rfl, ?_⟩))
          go_ret
          exact ⟨by first | rfl | (simp [errW_none, errW_some] <;> rfl) | (simp [*, errW_none, errW_some] <;> rfl), by repeat (first | (with_reducible first | exact HB.out | apply below_alloc | apply pw_below_drewN | apply below_drew1) | exact HB.out)⟩
end Go.Proofs.YtafjlibcdlihcaaDoor.G
end
section
namespace Go.Proofs.YtafjlibcdlihcaaDoor.G
open Go.RowKit Go.Proofs.YtafjlibcdlihcaaDoorW.PrintWords Go.Proofs.YtafjlibcdlihcaaDoorW.PrintLast Go.Proofs.YtafjlibcdlihcaaDoorW.PrintMore
set_option linter.unusedVariables false
set_option linter.unusedSimpArgs false
theorem awakeF_ev : Ev (fun k => barquelaw09_awake.f k) true := Ev.of (fun k => barquelaw09_awake.mono k) (k := 60) (by kernel_rfl)
theorem filterE_le (l : List S58) (ins outs : List ByteArray) : (filterE l ins outs).1.length ≤ l.length := by
  unfold filterE
  split
  · split
    · exact List.length_filter_le _ _
    · exact Nat.zero_le _
  · exact Nat.zero_le _
theorem TreeFilters_j0 (l : List S58) (ins outs : List ByteArray) (hl : l.length ≤ 4294967296) (b : Bool) (h1 : b = false → ins.length ≤ 8 ∧ outs.length ≤ 8) : Ev (fun k => barquelaw09_TreeFilters.j0 k l ins outs b) true := by
  apply Ev.step
  · intro k; rw [barquelaw09_TreeFilters.j0]
  cases b with
  | true =>
    simp only [↓reduceIte]
    exact Ev.bind awakeF_ev (Ev.now _)
  | false =>
    obtain ⟨g1, g2⟩ := h1 rfl
    simp only [Bool.false_eq_true, ↓reduceIte]
    refine Ev.bind (treefilter_ev l ins outs hl g1 g2) (Ev.bind (reffilter_ev l ins outs hl g1 g2) ?_)
    have hle := filterE_le l ins outs
    refine Ev.bind (files_ev _ (by omega)) ?_
    simp only [↓reduceIte]
    exact Ev.bind awakeF_ev (Ev.now _)
theorem TreeFilters_pure (l : List S58) (ins outs : List ByteArray) (hl : l.length ≤ 9223372036854775807) (h1 : ins.length ≤ 9223372036854775807) (h2 : outs.length ≤ 9223372036854775807) : ∃ k, barquelaw09_TreeFilters.f k l ins outs = some true := by
  refine Ev.rounds ?_
  unfold barquelaw09_TreeFilters.f barquelaw09_few.f
  have key : ∀ m : List S58, m.length ≤ 4294967296 → Ev (fun k => (if (ins.length : Int) > 8 then (barquelaw09_TreeFilters.j0 k m ins outs true) else (barquelaw09_TreeFilters.j0 k m ins outs (decide ((outs.length : Int) > 8))))) true := fun m hm => by
    by_cases g : (ins.length : Int) > 8
    · simp only [g, ↓reduceIte]
      exact TreeFilters_j0 m ins outs hm true (fun e => by cases e)
    · simp only [g, ↓reduceIte]
      refine TreeFilters_j0 m ins outs hm _ (fun e => ?_)
      have := of_decide_eq_false e
      exact ⟨by omega, by omega⟩
  by_cases h : (l.length : Int) > 60
  · have h2 : (60 : Int) ≤ (l.length : Int) := by omega
    simp only [h, h2, ↓reduceIte, Option.bind_some]
    exact key _ (by rw [List.length_take]; omega)
  · simp only [h, ↓reduceIte, Option.bind_some]
    exact key _ (by omega)
end Go.Proofs.YtafjlibcdlihcaaDoor.G
end
section
namespace Go.Proofs.YtafjlibcdlihcaaDoor.Open
open Go.RowKit Go.ChangeShapes Go.Proofs.YtafjlibcdlihcaaDoorW.PrintWords Go.Proofs.YtafjlibcdlihcaaDoorW.PrintMore Go.Proofs.YtafjlibcdlihcaaDoor.G
set_option linter.unusedVariables false
theorem laidOut : laidOutB Tryd.prog = true := by kernel_rfl
theorem C_of_cells {α : Type} (d : Kd α) (w : World) (a : Addr) (n : Nat) (xs : List α) (hlen : xs.length = n) (hn : n ≤ 9223372036854775807)
    (h : ∀ j p, xs[j]? = some p → ∃ c, d.K w p c ∧ w.cells? 0 (a.add (j * d.sz)) d.sz = some c) : Kd.C d w (some a) n xs := by
  refine ⟨hlen, hn, fun _ => ⟨a, rfl, fun j p hp => ?_⟩⟩
  obtain ⟨c, hk, hc⟩ := h j p hp
  obtain ⟨_, hl, hi⟩ := World.cells?_some hc
  refine ⟨c, d.K_len hk, hk, fun i u hu => ?_⟩
  have hlt : i < d.sz := by
    have := (List.getElem?_eq_some_iff.1 hu).1
    omega
  have h2 := hi i (by omega)
  rw [Addr.add_add] at h2
  rw [h2, hu]
theorem pick_list {α : Type} (n : Nat) (P : Nat → α → Prop) (h : ∀ i, i < n → ∃ x, P i x) : ∃ l : List α, l.length = n ∧ ∀ j p, l[j]? = some p → j < n ∧ P j p := by
  induction n with
  | zero => exact ⟨[], rfl, fun j p hp => by simp at hp⟩
  | succ n ih =>
    obtain ⟨l, hl, hp⟩ := ih (fun i hi => h i (by omega))
    obtain ⟨x, hx⟩ := h n (by omega)
    refine ⟨l ++ [x], by simp [hl], fun j p hj => ?_⟩
    rcases Nat.lt_or_ge j n with hlt | hge
    · rw [List.getElem?_append_left (by omega)] at hj
      exact ⟨by omega, (hp j p hj).2⟩
    · have hlt2 := (List.getElem?_eq_some_iff.1 hj).1
      rw [List.length_append, List.length_singleton] at hlt2
      obtain rfl : j = n := by omega
      rw [List.getElem?_append_right (by omega), hl, Nat.sub_self] at hj
      have : x = p := by simpa using hj
      subst this
      exact ⟨by omega, hx⟩
theorem list3 {α : Type} (l : List α) (h : l.length = 3) : ∃ a b c, l = [a, b, c] := by
  match l, h with
  | [a, b, c], _ => exact ⟨a, b, c, rfl⟩
/-- A slice of files that came in, as it is read. -/
theorem files {H : Type} {enc : TypeId × Value → H} {W : World} {a : Option Addr} {len cap : Nat} {d : DataW H} {p : List MemPlace}
    (h : DataW.Trod enc Tryd.prog W 0 (fun _ => true) true 29 (.slice a len cap) d p) :
    ∃ l : List S58, l.length = len ∧ len ≤ cap ∧ len ≤ 9223372036854775807 ∧ Kd.C k58 W a len l := by
  obtain ⟨fuel, hf⟩ := h
  rcases Go.Deep.open_slice Tryd.underlying29 hf with ⟨hcs, _⟩ | ⟨b, l', c', m, n, D, Pl, hcs, _, hl, hm, hmm, _, hel⟩
  · simp [Value.cells] at hcs
    obtain ⟨rfl, rfl, rfl⟩ := hcs
    exact ⟨[], rfl, Nat.le_refl _, by omega, Kd.C_nil _ _⟩
  · simp [Value.cells] at hcs
    obtain ⟨rfl, rfl, rfl⟩ := hcs
    have c3 : Tryd.prog.cellsOf 58 = 3 := by kernel_rfl
    have hmax : maxLen = 9223372036854775807 := rfl
    obtain ⟨l, hll, hp⟩ := pick_list len (fun i (x : S58) => W.cells? 0 (b.add (i * 3)) 3 = some [.string x.f0, .int .i64 x.f1, .string x.f2]) (fun i hi => by
      obtain ⟨cs', hc, ht⟩ := hel i (by rw [hmm]; simp; omega)
      rw [c3] at hc
      obtain ⟨xs, k, _, _, hlen, hxl, hx⟩ := DataW.trod_struct Tryd.underlying58 ht
      rw [c3] at hlen
      obtain ⟨u0, u1, u2, rfl⟩ := list3 cs' hlen
      have e0 := hx 0 _ rfl
      have e1 := hx 1 _ rfl
      have e2 := hx 2 _ rfl
      have hs : xs.length = 3 := hxl
      rw [List.getElem?_eq_getElem (by omega)] at e0 e1 e2
      have cs_ : Tryd.prog.cellsOf 9 = 1 := by kernel_rfl
      have ci_ : Tryd.prog.cellsOf 3 = 1 := by kernel_rfl
      obtain ⟨s0, h0, _⟩ := DataW.trod_string Tryd.underlying9 e0
      obtain ⟨n1, h1, _⟩ := DataW.trod_int Tryd.underlying3 e1
      obtain ⟨s2, h2, _⟩ := DataW.trod_string Tryd.underlying9 e2
      have g0 : (([u0, u1, u2] : List Value).drop 0).take (Tryd.prog.cellsOf 9) = [.string s0] := h0
      have g1 : (([u0, u1, u2] : List Value).drop 1).take (Tryd.prog.cellsOf 3) = [.int .i64 n1] := h1
      have g2 : (([u0, u1, u2] : List Value).drop 2).take (Tryd.prog.cellsOf 9) = [.string s2] := h2
      rw [cs_] at g0 g2
      rw [ci_] at g1
      obtain rfl : u0 = .string s0 := (List.cons.inj g0).1
      obtain rfl : u1 = .int .i64 n1 := (List.cons.inj g1).1
      obtain rfl : u2 = .string s2 := (List.cons.inj g2).1
      exact ⟨⟨s0, n1, s2⟩, hc⟩)
    exact ⟨l, hll, hl, by omega, C_of_cells k58 W b len l hll (by omega) (fun j p hj => ⟨_, k58_mk W p, (hp j p hj).2⟩)⟩
end Go.Proofs.YtafjlibcdlihcaaDoor.Open
end
section
namespace Go.Proofs.YtafjlibcdlihcaaDoor.Open
open Go.RowKit Go.ChangeShapes Go.Proofs.YtafjlibcdlihcaaDoorW.PrintWords Go.Proofs.YtafjlibcdlihcaaDoorW.PrintMore Go.Proofs.YtafjlibcdlihcaaDoor.G
set_option linter.unusedVariables false
/-- A slice of texts that came in, as it is read. -/
theorem strs {H : Type} {enc : TypeId × Value → H} {W : World} {a : Option Addr} {len cap : Nat} {d : DataW H} {p : List MemPlace}
    (h : DataW.Trod enc Tryd.prog W 0 (fun _ => true) true 33 (.slice a len cap) d p) :
    ∃ l : List ByteArray, l.length = len ∧ len ≤ cap ∧ len ≤ 9223372036854775807 ∧ Kd.C Kd.string W a len l := by
  obtain ⟨fuel, hf⟩ := h
  rcases Go.Deep.open_slice Tryd.underlying33 hf with ⟨hcs, _⟩ | ⟨b, l', c', m, n, D, Pl, hcs, _, hl, hm, hmm, _, hel⟩
  · simp [Value.cells] at hcs
    obtain ⟨rfl, rfl, rfl⟩ := hcs
    exact ⟨[], rfl, Nat.le_refl _, by omega, Kd.C_nil _ _⟩
  · simp [Value.cells] at hcs
    obtain ⟨rfl, rfl, rfl⟩ := hcs
    have c3 : Tryd.prog.cellsOf 9 = 1 := by kernel_rfl
    have hmax : maxLen = 9223372036854775807 := rfl
    obtain ⟨l, hll, hp⟩ := pick_list len (fun i (x : ByteArray) => W.cells? 0 (b.add (i * 1)) 1 = some [.string x]) (fun i hi => by
      obtain ⟨cs', hc, ht⟩ := hel i (by rw [hmm]; simp; omega)
      rw [c3] at hc
      obtain ⟨s0, h0, _⟩ := DataW.trod_string Tryd.underlying9 ht
      have g0 : cs' = [.string s0] := h0
      rw [g0] at hc
      exact ⟨s0, hc⟩)
    exact ⟨l, hll, hl, by omega, C_of_cells Kd.string W b len l hll (by omega) (fun j p hj => ⟨_, rfl, (hp j p hj).2⟩)⟩
end Go.Proofs.YtafjlibcdlihcaaDoor.Open
end
