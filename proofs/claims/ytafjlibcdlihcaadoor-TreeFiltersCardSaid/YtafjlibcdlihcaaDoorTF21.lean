/- Texts of this session's claim of TreeFilters, less what its theorem does not reach. No condition. -/
import Derived.Test.YtafjlibcdlihcaaDoorTF14
import Derived.Test.YtafjlibcdlihcaaDoorTF15
import Derived.Test.YtafjlibcdlihcaaDoorTF16
import Derived.Test.YtafjlibcdlihcaaDoorTF18
import Derived.Test.YtafjlibcdlihcaaDoorTF19
import Derived.Test.YtafjlibcdlihcaaDoorTF20
section
namespace Go.Proofs.YtafjlibcdlihcaaDoor.G
open Go.RowKit Go.Proofs.YtafjlibcdlihcaaDoorW.PrintWords Go.Proofs.YtafjlibcdlihcaaDoorW.PrintLast Go.Proofs.YtafjlibcdlihcaaDoorW.PrintMore
attribute [local go_sem] max2_int min2_int max_two min_two max_three min_three max_four min_four   -- for this text's walks alone
set_option linter.unusedVariables false
set_option linter.unusedSimpArgs false
mutual
def tree_Filter.l0 : Nat → List (S58) → List ByteArray → List ByteArray → List ByteArray → Int → Int → Option ((List (S58)) × Int)
  | 0, _, _, _, _, _, _ => none
  | k + 1, x0, x1, x2, x24, x25, x26 => if x26 < x25 then (if 0 ≤ x26 then (if x26 < (x24.length : Int) then ((tree_Pattern.f k (rdOf ByteArray.empty x24 x26)).bind fun t301 => (if t301 = 0 then (tree_Filter.l0 k x0 x1 x2 x24 x25 (wrap64 (x26 + 1))) else (some (([] : List (S58)), t301)))) else (none)) else (none)) else (tree_Filter.l1 k x1 x2 ([] : List (S58)) x0 (x0.length : Int) 0)
def tree_Filter.l1 : Nat → List ByteArray → List ByteArray → List (S58) → List (S58) → Int → Int → Option ((List (S58)) × Int)
  | 0, _, _, _, _, _, _ => none
  | k + 1, x1, x2, x12, x36, x37, x38 => if x38 < x37 then (if 0 ≤ x38 then (if x38 < (x36.length : Int) then (if (x1.length : Int) = 0 then ((tree_fits.f k x2 ((rd_T58 x36 x38).f0)).bind fun t304 => (if t304 = true then (tree_Filter.l1 k x1 x2 x12 x36 x37 (wrap64 (x38 + 1))) else (if x12.length < 3518437208883 then (tree_Filter.l1 k x1 x2 (x12 ++ [(⟨(rd_T58 x36 x38).f0, (rd_T58 x36 x38).f1, (rd_T58 x36 x38).f2⟩ : S58)]) x36 x37 (wrap64 (x38 + 1))) else (none)))) else ((tree_fits.f k x1 ((rd_T58 x36 x38).f0)).bind fun t308 => (if t308 = true then ((tree_fits.f k x2 ((rd_T58 x36 x38).f0)).bind fun t309 => (if t309 = true then (tree_Filter.l1 k x1 x2 x12 x36 x37 (wrap64 (x38 + 1))) else (if x12.length < 3518437208883 then (tree_Filter.l1 k x1 x2 (x12 ++ [(⟨(rd_T58 x36 x38).f0, (rd_T58 x36 x38).f1, (rd_T58 x36 x38).f2⟩ : S58)]) x36 x37 (wrap64 (x38 + 1))) else (none)))) else (tree_Filter.l1 k x1 x2 x12 x36 x37 (wrap64 (x38 + 1)))))) else (none)) else (none)) else (some (x12, 0))
end
def tree_Filter.f (k : Nat) (l0 : List (S58)) (l1 : List ByteArray) (l2 : List ByteArray) : Option ((List (S58)) × Int) := (tree_Check.f k l0).bind fun t290 => (if t290 = 0 then ((some (([] : List ByteArray) : List ByteArray)).bind fun y291 => (if y291.length + l1.length < 8796093022208 then ((some (y291 ++ l1 : List ByteArray)).bind fun y294 => (if y294.length + l2.length < 8796093022208 then ((some (y294 ++ l2 : List ByteArray)).bind fun y297 => (tree_Filter.l0 k l0 l1 l2 y297 (y297.length : Int) 0)) else (none))) else (none))) else (some (([] : List (S58)), t290)))
theorem tree_Filter.mono_l : ∀ k, (∀ y0 y1 y2 y3 y4 y5, LeO (tree_Filter.l0 k y0 y1 y2 y3 y4 y5) (tree_Filter.l0 (k + 1) y0 y1 y2 y3 y4 y5)) ∧ (∀ y0 y1 y2 y3 y4 y5, LeO (tree_Filter.l1 k y0 y1 y2 y3 y4 y5) (tree_Filter.l1 (k + 1) y0 y1 y2 y3 y4 y5))
  | 0 => ⟨fun _ _ _ _ _ _ r h => by simp [tree_Filter.l0] at h, fun _ _ _ _ _ _ r h => by simp [tree_Filter.l1] at h⟩
  | k + 1 => by
    obtain ⟨ih0, ih1⟩ := tree_Filter.mono_l k
    refine ⟨?_, ?_⟩
    · intro y0 y1 y2 y3 y4 y5
      unfold tree_Filter.l0
      repeat' first
      | (with_reducible exact ih0 _ _ _ _ _ _)
      | (with_reducible exact ih1 _ _ _ _ _ _)
      | (with_reducible exact tree_Check.mono _ _)
      | (with_reducible exact tree_Pattern.mono _ _)
      | (with_reducible exact tree_fits.mono _ _ _)
      | (with_reducible exact LeO.refl _)
      | (with_reducible exact LeO.none _)
      | (with_reducible refine LeO.ite ?_ ?_)
      | (with_reducible refine LeO.bind ?_ (fun _ => ?_))
      | exact ih0 _ _ _ _ _ _
      | exact ih1 _ _ _ _ _ _
      | exact tree_Check.mono _ _
      | exact tree_Pattern.mono _ _
      | exact tree_fits.mono _ _ _
      | exact LeO.none _
      | refine LeO.ite ?_ ?_
      | refine LeO.bind ?_ (fun _ => ?_)
    · intro y0 y1 y2 y3 y4 y5
      unfold tree_Filter.l1
      repeat' first
      | (with_reducible exact ih0 _ _ _ _ _ _)
      | (with_reducible exact ih1 _ _ _ _ _ _)
      | (with_reducible exact tree_Check.mono _ _)
      | (with_reducible exact tree_Pattern.mono _ _)
      | (with_reducible exact tree_fits.mono _ _ _)
      | (with_reducible exact LeO.refl _)
      | (with_reducible exact LeO.none _)
      | (with_reducible refine LeO.ite ?_ ?_)
      | (with_reducible refine LeO.bind ?_ (fun _ => ?_))
      | exact ih0 _ _ _ _ _ _
      | exact ih1 _ _ _ _ _ _
      | exact tree_Check.mono _ _
      | exact tree_Pattern.mono _ _
      | exact tree_fits.mono _ _ _
      | exact LeO.none _
      | refine LeO.ite ?_ ?_
      | refine LeO.bind ?_ (fun _ => ?_)
theorem tree_Filter.mono : ∀ a0 a1 a2 k, LeO (tree_Filter.f k a0 a1 a2) (tree_Filter.f (k + 1) a0 a1 a2) := by
  intro a0 a1 a2 k
  obtain ⟨ih0, ih1⟩ := tree_Filter.mono_l k
  unfold tree_Filter.f
  repeat' first
      | (with_reducible exact ih0 _ _ _ _ _ _)
      | (with_reducible exact ih1 _ _ _ _ _ _)
      | (with_reducible exact tree_Check.mono _ _)
      | (with_reducible exact tree_Pattern.mono _ _)
      | (with_reducible exact tree_fits.mono _ _ _)
      | (with_reducible exact LeO.refl _)
      | (with_reducible exact LeO.none _)
      | (with_reducible refine LeO.ite ?_ ?_)
      | (with_reducible refine LeO.bind ?_ (fun _ => ?_))
      | exact ih0 _ _ _ _ _ _
      | exact ih1 _ _ _ _ _ _
      | exact tree_Check.mono _ _
      | exact tree_Pattern.mono _ _
      | exact tree_fits.mono _ _ _
      | exact LeO.none _
      | refine LeO.ite ?_ ?_
      | refine LeO.bind ?_ (fun _ => ?_)
set_option maxHeartbeats 8000000 in
set_option maxRecDepth 100000 in
theorem tree_Filter.calls (k : Nat) (A0 : Option Addr) (c0 : Nat) (l0 : List (S58)) (A1 : Option Addr) (c1 : Nat) (l1 : List ByteArray) (A2 : Option Addr) (c2 : Nat) (l2 : List ByteArray) (r1 : List (S58)) (r2 : Int) (w : World) (hr0 : Kd.C k58 w A0 l0.length l0) (hc0 : l0.length ≤ c0) (hr1 : Kd.C Kd.string w A1 l1.length l1) (hc1 : l1.length ≤ c1) (hr2 : Kd.C Kd.string w A2 l2.length l2) (hc2 : l2.length ≤ c2) (h : tree_Filter.f k l0 l1 l2 = some (r1, r2)) :
    Calls Tryd.prog 26 #[.slice A0 l0.length c0, .slice A1 l1.length c1, .slice A2 l2.length c2] w fun e w' => ∃ v0_ : Value, e = .returned (.tuple #[v0_, .int .i64 r2]) ∧ Kd.R k58 58 w' w.heap.size (fun _ => True) v0_ r1 ∧ Below w.heap.size w w' := by
  have hu58 := Tryd.underlying58
  have HR0 := Aside0.mk hr0
  have HC0 := Aside0.mk hc0
  clear hr0 hc0
  have HR1 := Aside0.mk hr1
  have HC1 := Aside0.mk hc1
  clear hr1 hc1
  have HR2 := Aside0.mk hr2
  have HC2 := Aside0.mk hc2
  clear hr2 hc2
  have HB := Aside0.mk (Below.refl w.heap.size w)
  have H : ((tree_Check.f k l0).bind fun t290 => (if t290 = 0 then ((some (([] : List ByteArray) : List ByteArray)).bind fun y291 => (if y291.length + l1.length < 8796093022208 then ((some (y291 ++ l1 : List ByteArray)).bind fun y294 => (if y294.length + l2.length < 8796093022208 then ((some (y294 ++ l2 : List ByteArray)).bind fun y297 => (tree_Filter.l0 k l0 l1 l2 y297 (y297.length : Int) 0)) else (none))) else (none))) else (some (([] : List (S58)), t290)))) = some (r1, r2) := h
  clear h
  replace H := Option.bind_eq_some_iff.mp H
  obtain ⟨t290, A40, H⟩ := H
  replace H : (if t290 = 0 then ((some (([] : List ByteArray) : List ByteArray)).bind fun y291 => (if y291.length + l1.length < 8796093022208 then ((some (y291 ++ l1 : List ByteArray)).bind fun y294 => (if y294.length + l2.length < 8796093022208 then ((some (y294 ++ l2 : List ByteArray)).bind fun y297 => (tree_Filter.l0 k l0 l1 l2 y297 (y297.length : Int) 0)) else (none))) else (none))) else (some (([] : List (S58)), t290))) = some (r1, r2) := H
  have A4 := Aside0.mk A40
  clear A40
  by_cases c5 : t290 = 0
  · rw [if_pos c5] at H
    have c5b0 : (t290 == 0) = true := beq_iff_eq.mpr c5
    have c5b1 : (t290 != 0) = false := bne_eq_false_iff_eq.mpr c5
    clear c5
    obtain ⟨y291, hy291⟩ : ∃ y_ : List ByteArray, y_ = (([] : List ByteArray)) := ⟨_, rfl⟩
    replace H : (if y291.length + l1.length < 8796093022208 then ((some (y291 ++ l1 : List ByteArray)).bind fun y294 => (if y294.length + l2.length < 8796093022208 then ((some (y294 ++ l2 : List ByteArray)).bind fun y297 => (tree_Filter.l0 k l0 l1 l2 y297 (y297.length : Int) 0)) else (none))) else (none)) = some (r1, r2) := by first | (rw [hy291]; with_reducible exact H) | (have H2_ := (Option.bind_some _ _).symm.trans H; rw [hy291]; with_reducible exact H2_) | (have H2_ := (Option.bind_some _ _).symm.trans H; with_reducible exact H2_) | with_reducible exact H | (rw [hy291]; exact H) | exact H
    have Ny291 := Aside0.mk hy291
    clear hy291
    by_cases c6 : y291.length + l1.length < 8796093022208
    · rw [if_pos c6] at H
      have LMc6 := Aside0.mk c6
      clear c6
      obtain ⟨y294, hy294⟩ : ∃ y_ : List ByteArray, y_ = (y291 ++ l1) := ⟨_, rfl⟩
      replace H : (if y294.length + l2.length < 8796093022208 then ((some (y294 ++ l2 : List ByteArray)).bind fun y297 => (tree_Filter.l0 k l0 l1 l2 y297 (y297.length : Int) 0)) else (none)) = some (r1, r2) := by first | (rw [hy294]; with_reducible exact H) | (have H2_ := (Option.bind_some _ _).symm.trans H; rw [hy294]; with_reducible exact H2_) | (have H2_ := (Option.bind_some _ _).symm.trans H; with_reducible exact H2_) | with_reducible exact H | (rw [hy294]; exact H) | exact H
      have Ny294 := Aside0.mk hy294
      clear hy294
      by_cases c7 : y294.length + l2.length < 8796093022208
      · rw [if_pos c7] at H
        have LMc7 := Aside0.mk c7
        clear c7
        obtain ⟨y297, hy297⟩ : ∃ y_ : List ByteArray, y_ = (y294 ++ l2) := ⟨_, rfl⟩
        replace H : (tree_Filter.l0 k l0 l1 l2 y297 (y297.length : Int) 0) = some (r1, r2) := by first | (rw [hy297]; with_reducible exact H) | (have H2_ := (Option.bind_some _ _).symm.trans H; rw [hy297]; with_reducible exact H2_) | (have H2_ := (Option.bind_some _ _).symm.trans H; with_reducible exact H2_) | with_reducible exact H | (rw [hy297]; exact H) | exact H
        have Ny297 := Aside0.mk hy297
        clear hy297
        have H' := Aside0.mk H
        clear H
        go_enter Tryd.func26, Tryd.ntmps26
        go_wp2_with (first | ((with_reducible refine gate_callee (f := 19) rfl ?_); refine goesL_ (some 16) rfl rfl Tryd.func19 (by kernel_rfl) rfl #[.slice A0 l0.length c0] rfl (by (try simp only [List.map_toArray, List.map_cons, List.map_nil]); first | done | rfl | (simp only [List.length_drop, List.length_take]; rfl)) ?_; (with_reducible refine (tree_Check.calls k _ _ l0 t290 _ ?side1 ?side2 A4.out).mono ?_); (case side1 => repeat (first | exact HR0.out | (with_reducible refine Kd.C_alloc ?_ _) | (with_reducible refine Kd.C_drewN ?_ _) | (with_reducible refine Kd.C_drew ?_))); (case side2 => exact HC0.out); rintro e w8 ⟨rfl, hb⟩; refine ⟨_, rfl, ?_⟩; have n0_ := Aside0.mk (below_step (by repeat (first | (with_reducible first | exact HB.out | apply below_alloc | apply pw_below_drewN | apply below_drew1) | exact HB.out)) hb); clear HB; have HB := n0_; clear n0_; (try clear hb); (try clear hb2); (try clear hk); (try clear hi)) | ((with_reducible refine gate_dst (N := 20) rfl ?_); refine Kd.R_lit Kd.string _ 9 ?hg (N := 20) ?hd (xs := ([] : List ByteArray)) (inner := []) (ok := fun _ => True) (okp := fun _ => True) ?hr ?hp (fun _ hk => hk) trivial (Below.refl _ _) (Nat.le_refl _) (by simp) ?_; (case hd => rfl); (case hg => rfl); (case hr => first | (go_simp; done) | (go_simp; rfl)); (case hp => exact (Reps.none _ _)); intro v292 w9 ho10 hb hg_ hnew_; clear hg_ hnew_; (first | rw [← Ny291.out] at ho10 | (simp only [Int.reduceToNat] at ho10; rw [← Ny291.out] at ho10)); have n0_ := Aside0.mk (Kd.R_lower ho10 (below_size (by repeat (first | (with_reducible first | exact HB.out | apply below_alloc | apply pw_below_drewN | apply below_drew1) | exact HB.out)))); have n1_ := Aside0.mk (below_step (by repeat (first | (with_reducible first | exact HB.out | apply below_alloc | apply pw_below_drewN | apply below_drew1) | exact HB.out)) hb); clear HB; have HO293 := n0_; have HB := n1_; clear n0_ n1_; clear hb ho10) | ((with_reducible refine gate_builtin (b := .append) (xs := #[.tmp 20, .tmp 21]) rfl ?_); at_builtin; refine Kd.R_append_rows Kd.string (w0 := w) w.heap.size rfl (.tmp 20) (.tmp 21) 33 9 (.string ⟨#[]⟩) 16 rfl Tryd.underlying33 info9 rfl (by decide) (by omega) v292 y291 l1 _ _ _ (fun _ => True) (fun _ => False) rfl rfl ?aO ?aR (fun _ _ h => h) (fun _ h => h.elim) ?aF ?aB ?aS ?aL ?_; (case aR => repeat (first | exact (Kd.C_below HR1.out HB.out) | (with_reducible refine Kd.C_alloc ?_ _) | (with_reducible refine Kd.C_drewN ?_ _) | (with_reducible refine Kd.C_drew ?_))); (case aB => exact (by repeat (first | (with_reducible first | exact HB.out | apply below_alloc | apply pw_below_drewN | apply below_drew1) | exact HB.out))); (case aF => exact (fun _ _ => trivial)); (case aO => exact (by (with_reducible repeat (first | apply Kd.R_alloc | apply Kd.R_drewN | apply Kd.R_drew)); exact HO293.out)); (case aS => exact (below_size (by repeat (first | (with_reducible first | exact HB.out | apply below_alloc | apply pw_below_drewN | apply below_drew1) | exact HB.out)))); (case aL => have := LMc6.out; omega); intro v295 w11 ho hb hg hat; rw [← Ny294.out] at ho; have n0_ := Aside0.mk (hb); have n1_ := Aside0.mk (ho); clear HB; clear HO293; have HB := n0_; have HO296 := n1_; clear n0_ n1_; clear ho hb hg hat) | ((with_reducible refine gate_builtin (b := .append) (xs := #[.tmp 22, .tmp 23]) rfl ?_); at_builtin; refine Kd.R_append_rows Kd.string (w0 := w) w.heap.size rfl (.tmp 22) (.tmp 23) 33 9 (.string ⟨#[]⟩) 16 rfl Tryd.underlying33 info9 rfl (by decide) (by omega) v295 y294 l2 _ _ _ (fun _ => True) (fun _ => False) rfl rfl ?aO ?aR (fun _ _ h => h) (fun _ h => h.elim) ?aF ?aB ?aS ?aL ?_; (case aR => repeat (first | exact (Kd.C_below HR2.out HB.out) | (with_reducible refine Kd.C_alloc ?_ _) | (with_reducible refine Kd.C_drewN ?_ _) | (with_reducible refine Kd.C_drew ?_))); (case aB => exact (by repeat (first | (with_reducible first | exact HB.out | apply below_alloc | apply pw_below_drewN | apply below_drew1) | exact HB.out))); (case aF => exact (fun _ _ => trivial)); (case aO => exact (by (with_reducible repeat (first | apply Kd.R_alloc | apply Kd.R_drewN | apply Kd.R_drew)); exact HO296.out)); (case aS => exact (below_size (by repeat (first | (with_reducible first | exact HB.out | apply below_alloc | apply pw_below_drewN | apply below_drew1) | exact HB.out)))); (case aL => have := LMc7.out; omega); intro v298 w12 ho hb hg hat; rw [← Ny297.out] at ho; have n0_ := Aside0.mk (hb); have n1_ := Aside0.mk (ho); clear HB; clear HO296; have HB := n0_; have HO299 := n1_; clear n0_ n1_; clear ho hb hg hat; obtain ⟨Ao13, co13, eo13⟩ := Kd.R_slice HO299.out; subst eo13))
        go_loopg [26] k (fun kq v26 w' => ∃ (x26_1 : Int), v26 = .int .i64 x26_1 ∧ Aside0 (tree_Filter.l0 kq l0 l1 l2 y297 (y297.length : Int) x26_1 = some (r1, r2)) ∧ Aside0 (kq ≤ k) ∧ Aside0 (Kd.R Kd.string 9 w' w.heap.size (fun _ => True) (.slice Ao13 y297.length co13) y297) ∧ Aside0 (Below w.heap.size w w'))
        case atStart => exact ⟨(0), (by first | rfl | (simp; done) | (simp [*]; done)), H', ⟨Nat.le_refl _⟩, ⟨by (with_reducible repeat (first | apply Kd.R_alloc | apply Kd.R_drewN | apply Kd.R_drew)); exact HO299.out⟩, ⟨by repeat (first | (with_reducible first | exact HB.out | apply below_alloc | apply pw_below_drewN | apply below_drew1) | exact HB.out)⟩⟩
        case round =>
          clear H'
          try clear c1
          try clear c2
          try clear p2
          try clear c5
          try clear c5b0
          try clear c5b1
          try clear c6
          try clear c7
          obtain ⟨x26_1, rfl, HA, HK1, HO_24, HB⟩ := hrel
          cases gk with
          | zero => exact absurd HA.out (by simp [tree_Filter.l0])
          | succ k1 =>
            have H := HA.out
            clear HA
            simp only [tree_Filter.l0] at H
            by_cases c14 : x26_1 < (y297.length : Int)
            · rw [if_pos c14] at H
              have c14b0 : decide (x26_1 < (y297.length : Int)) = true := decide_eq_true c14
              clear c14
              by_cases c15 : 0 ≤ x26_1
              · rw [if_pos c15] at H
                have c15b0 : decide (0 ≤ x26_1) = true := decide_eq_true c15
                clear c15
                by_cases c16 : x26_1 < (y297.length : Int)
                · rw [if_pos c16] at H
                  have c16b0 : decide (x26_1 < (y297.length : Int)) = true := decide_eq_true c16
                  clear c16
                  replace H := Option.bind_eq_some_iff.mp H
                  obtain ⟨t301, A170, H⟩ := H
                  replace H : (if t301 = 0 then (tree_Filter.l0 k1 l0 l1 l2 y297 (y297.length : Int) (wrap64 (x26_1 + 1))) else (some (([] : List (S58)), t301))) = some (r1, r2) := H
                  have A17 := Aside0.mk A170
                  clear A170
                  by_cases c18 : t301 = 0
                  · rw [if_pos c18] at H
                    have c18b0 : (t301 == 0) = true := beq_iff_eq.mpr c18
                    have c18b1 : (t301 != 0) = false := bne_eq_false_iff_eq.mpr c18
                    clear c18
                    have H' := Aside0.mk H
                    clear H
                    have p300 : 0 ≤ (x26_1 : Int) := of_decide_eq_true (by first | (with_reducible assumption) | assumption)
                    have q300 : x26_1 < (y297.length : Int) := of_decide_eq_true (by first | (with_reducible assumption) | assumption)
                    obtain ⟨ad300, e300, hx300_0⟩ := Kd.at_string (Kd.R_reads' HO_24.out).2.2 x26_1 p300 q300
                    cases e300
                    replace p300 := eq_true p300
                    replace q300 := eq_true q300
                    go_wp2_with (first | ((with_reducible refine gate_callee (f := 21) rfl ?_); refine goesL_ (some 31) rfl rfl Tryd.func21 (by kernel_rfl) rfl #[.string (rdOf ByteArray.empty y297 x26_1)] rfl (by (try simp only [List.map_toArray, List.map_cons, List.map_nil]); first | done | rfl | (simp only [List.length_drop, List.length_take]; rfl)) ?_; (with_reducible refine (tree_Pattern.calls k1 (rdOf ByteArray.empty y297 x26_1) t301 _ A17.out).mono ?_); rintro e w19 ⟨rfl, hb⟩; refine ⟨_, rfl, ?_⟩; have n0_ := Aside0.mk (Kd.R_below (by (with_reducible repeat (first | apply Kd.R_alloc | apply Kd.R_drewN | apply Kd.R_drew)); exact HO_24.out) hb); have n1_ := Aside0.mk (below_step (by repeat (first | (with_reducible first | exact HB.out | apply below_alloc | apply pw_below_drewN | apply below_drew1) | exact HB.out)) hb); clear HO_24; clear HB; have HO_24 := n0_; have HB := n1_; clear n0_ n1_; (try clear hb); (try clear hb2); (try clear hk); (try clear hi)))
                    go_roundg k1
                    case measure => have := HK1.out; omega
                    case rel => exact ⟨(wrap64 (x26_1 + 1)), (by first | rfl | (simp; done) | (simp [*]; done)), H', ⟨by have := HK1.out; omega⟩, ⟨by (with_reducible repeat (first | apply Kd.R_alloc | apply Kd.R_drewN | apply Kd.R_drew)); exact HO_24.out⟩, ⟨by repeat (first | (with_reducible first | exact HB.out | apply below_alloc | apply pw_below_drewN | apply below_drew1) | exact HB.out)⟩⟩
                  · rw [if_neg c18] at H
                    have c18b0 : (t301 == 0) = false := beq_eq_false_iff_ne.mpr c18
                    have c18b1 : (t301 != 0) = true := bne_iff_ne.mpr c18
                    simp only [Option.some.injEq, Prod.mk.injEq] at H
                    obtain ⟨rfl, rfl⟩ := H
                    have p300 : 0 ≤ (x26_1 : Int) := of_decide_eq_true (by first | (with_reducible assumption) | assumption)
                    have q300 : x26_1 < (y297.length : Int) := of_decide_eq_true (by first | (with_reducible assumption) | assumption)
                    obtain ⟨ad300, e300, hx300_0⟩ := Kd.at_string (Kd.R_reads' HO_24.out).2.2 x26_1 p300 q300
                    cases e300
                    replace p300 := eq_true p300
                    replace q300 := eq_true q300
                    go_wp2_with (first | ((with_reducible refine gate_callee (f := 21) rfl ?_); refine goesL_ (some 31) rfl rfl Tryd.func21 (by kernel_rfl) rfl #[.string (rdOf ByteArray.empty y297 x26_1)] rfl (by (try simp only [List.map_toArray, List.map_cons, List.map_nil]); first | done | rfl | (simp only [List.length_drop, List.length_take]; rfl)) ?_; (with_reducible refine (tree_Pattern.calls k1 (rdOf ByteArray.empty y297 x26_1) t301 _ A17.out).mono ?_); rintro e w20 ⟨rfl, hb⟩; refine ⟨_, rfl, ?_⟩; have n0_ := Aside0.mk (Kd.R_below (by (with_reducible repeat (first | apply Kd.R_alloc | apply Kd.R_drewN | apply Kd.R_drew)); exact HO_24.out) hb); have n1_ := Aside0.mk (below_step (by repeat (first | (with_reducible first | exact HB.out | apply below_alloc | apply pw_below_drewN | apply below_drew1) | exact HB.out)) hb); clear HO_24; clear HB; have HO_24 := n0_; have HB := n1_; clear n0_ n1_; (try clear hb); (try clear hb2); (try clear hk); (try clear hi)))
                    go_ret2
                    exact ⟨_, by first | rfl | (simp [errW_none, errW_some] <;> rfl) | (simp [*, errW_none, errW_some] <;> rfl), by first | exact Kd.R_nil _ _ _ _ _ | exact Kd.N_nil _ _ _ _ _ | exact Kd.V_nil _ _ _ _ _ | exact Kd.Q_nil _ _ _ _ _ | exact Kd.S_nil _ _ _ _ _, by repeat (first | (with_reducible first | exact HB.out | apply below_alloc | apply pw_below_drewN | apply below_drew1) | exact HB.out)⟩
                · rw [if_neg c16] at H
                  exact absurd H (by simp)
              · rw [if_neg c15] at H
                exact absurd H (by simp)
            · rw [if_neg c14] at H
              have c14b0 : decide (x26_1 < (y297.length : Int)) = false := decide_eq_false c14
              clear c14
              have H' := Aside0.mk H
              clear H
              go_wp2
              go_loopg [12, 38] k1 (fun kq v12 v38 w' => ∃ (x12_2 : List (S58)) (x38_2 : Int), v38 = .int .i64 x38_2 ∧ Aside0 (tree_Filter.l1 kq l1 l2 x12_2 l0 (l0.length : Int) x38_2 = some (r1, r2)) ∧ Aside0 (kq ≤ k1) ∧ Aside0 (Kd.R k58 58 w' w.heap.size (fun _ => True) v12 x12_2) ∧ Aside0 (Below w.heap.size w w'))
              case atStart => exact ⟨(([] : List (S58))), (0), (by first | rfl | (simp; done) | (simp [*]; done)), H', ⟨Nat.le_refl _⟩, ⟨by first | exact Kd.R_nil _ _ _ _ _ | exact Kd.N_nil _ _ _ _ _ | exact Kd.V_nil _ _ _ _ _ | exact Kd.Q_nil _ _ _ _ _ | exact Kd.S_nil _ _ _ _ _⟩, ⟨by repeat (first | (with_reducible first | exact HB.out | apply below_alloc | apply pw_below_drewN | apply below_drew1) | exact HB.out)⟩⟩
              case round =>
                clear H'
                try clear c1
                try clear c2
                try clear p2
                try clear p3
                try clear q3
                try clear hx3
                try clear c5
                try clear c5b0
                try clear c5b1
                try clear c6
                try clear p6
                try clear c7
                try clear c14
                try clear c14b0
                try clear c15
                try clear c15b0
                try clear c16
                try clear c16b0
                try clear c18
                try clear c18b0
                try clear c18b1
                try clear c19
                try clear hx300_0
                try clear p2
                try clear p300
                try clear q300
                obtain ⟨x12_2, x38_2, rfl, HA, HK2, HO_12, HB⟩ := hrel
                cases gk with
                | zero => exact absurd HA.out (by simp [tree_Filter.l1])
                | succ k2 =>
                  have H := HA.out
                  clear HA
                  simp only [tree_Filter.l1] at H
                  by_cases c21 : x38_2 < (l0.length : Int)
                  · rw [if_pos c21] at H
                    have c21b0 : decide (x38_2 < (l0.length : Int)) = true := decide_eq_true c21
                    clear c21
                    by_cases c22 : 0 ≤ x38_2
                    · rw [if_pos c22] at H
                      have c22b0 : decide (0 ≤ x38_2) = true := decide_eq_true c22
                      clear c22
                      by_cases c23 : x38_2 < (l0.length : Int)
                      · rw [if_pos c23] at H
                        have c23b0 : decide (x38_2 < (l0.length : Int)) = true := decide_eq_true c23
                        clear c23
                        by_cases c24 : (l1.length : Int) = 0
                        · rw [if_pos c24] at H
                          have c24b0 : ((l1.length : Int) == 0) = true := beq_iff_eq.mpr c24
                          have c24b1 : ((l1.length : Int) != 0) = false := bne_eq_false_iff_eq.mpr c24
                          clear c24
                          replace H := Option.bind_eq_some_iff.mp H
                          obtain ⟨t304, A250, H⟩ := H
                          replace H : (if t304 = true then (tree_Filter.l1 k2 l1 l2 x12_2 l0 (l0.length : Int) (wrap64 (x38_2 + 1))) else (if x12_2.length < 3518437208883 then (tree_Filter.l1 k2 l1 l2 (x12_2 ++ [(⟨(rd_T58 l0 x38_2).f0, (rd_T58 l0 x38_2).f1, (rd_T58 l0 x38_2).f2⟩ : S58)]) l0 (l0.length : Int) (wrap64 (x38_2 + 1))) else (none))) = some (r1, r2) := H
                          have A25 := Aside0.mk A250
                          clear A250
                          by_cases c26 : t304 = true
                          · subst c26
                            have H1 : (tree_Filter.l1 k2 l1 l2 x12_2 l0 (l0.length : Int) (wrap64 (x38_2 + 1))) = some (r1, r2) := by rw [if_pos rfl] at H; exact H
                            clear H
                            have H := H1
                            clear H1
                            have H' := Aside0.mk H
                            clear H
                            have p302 : 0 ≤ (x38_2 : Int) := of_decide_eq_true (by first | (with_reducible assumption) | assumption)
                            have q302 : x38_2 < (l0.length : Int) := of_decide_eq_true (by first | (with_reducible assumption) | assumption)
                            obtain ⟨ad302, e302, hx302_0, hx302_1, hx302_2⟩ := at_T58 HR0.out x38_2 p302 q302
                            cases e302
                            replace hx302_0 := (HB.out.cell (World.block_lt_of_cell? w _ hx302_0)).trans hx302_0
                            replace hx302_1 := (HB.out.cell (World.block_lt_of_cell? w _ hx302_1)).trans hx302_1
                            replace hx302_2 := (HB.out.cell (World.block_lt_of_cell? w _ hx302_2)).trans hx302_2
                            replace p302 := eq_true p302
                            replace q302 := eq_true q302
                            go_wp2_with (first | ((with_reducible refine gate_dst (N := 14) rfl ?_); refine box_event ?hg (N := 14) ?hd (cs := #[.string (⟨#[]⟩ : ByteArray), .int .i64 0, .string (⟨#[]⟩ : ByteArray)]) (t := 58) ?hr ?_; (case hd => rfl); (case hg => rfl); (case hr => first | (go_simp; done) | (go_simp; rfl)); intro gb303 hg w27 hbox hb; have n0_ := Aside0.mk (Kd.R_below (Kd.R_elderB (by (with_reducible repeat (first | apply Kd.R_alloc | apply Kd.R_drewN | apply Kd.R_drew)); exact HO_12.out) gb303 (Nat.le_of_eq hg.symm)) hb); have n1_ := Aside0.mk (below_step (by repeat (first | (with_reducible first | exact HB.out | apply below_alloc | apply pw_below_drewN | apply below_drew1) | exact HB.out)) hb); have n2_ := Aside0.mk (hbox); have n3_ := Aside0.mk ((by rw [hg]; exact (below_size (by repeat (first | (with_reducible first | exact HB.out | apply below_alloc | apply pw_below_drewN | apply below_drew1) | exact HB.out))) : w.heap.size ≤ gb303)); have n4_ := Aside0.mk ((by rw [hg]; exact (below_size (by repeat (first | (with_reducible first | exact HB.out | apply below_alloc | apply pw_below_drewN | apply below_drew1) | exact HB.out))) : w.heap.size ≤ gb303)); clear HO_12; clear HB; have HO_12 := n0_; have HB := n1_; have BK303 := n2_; have GW303 := n3_; have GE303 := n4_; clear n0_ n1_ n2_ n3_ n4_; clear hb hbox hg; have hcz28_0 : w27.cell? ⟨gb303, 0, none⟩ = some (.string (⟨#[]⟩ : ByteArray)) := (blk_cell BK303.out 0).trans rfl; have hcz28_1 : w27.cell? ⟨gb303, 1, none⟩ = some (.int .i64 0) := (blk_cell BK303.out 1).trans rfl; have hcz28_2 : w27.cell? ⟨gb303, 2, none⟩ = some (.string (⟨#[]⟩ : ByteArray)) := (blk_cell BK303.out 2).trans rfl; have hfz28_0 := blk_frozen BK303.out 0; have hfz28_1 := blk_frozen BK303.out 1; have hfz28_2 := blk_frozen BK303.out 2) | (go_at_call 54; (with_reducible refine (tree_fits.calls k2 _ _ l2 ((rd_T58 l0 x38_2).f0) true _ ?side1 ?side2 A25.out).mono ?_); (case side1 => exact Kd.C_below HR2.out (by repeat (first | (with_reducible first | exact HB.out | apply below_alloc | apply pw_below_drewN | apply below_drew1 | refine below_set ?_ GE303.out) | exact HB.out))); (case side2 => exact HC2.out); rintro e w29 ⟨rfl, hb⟩; have n0_ := Aside0.mk (Kd.R_below (by (with_reducible repeat (first | apply Kd.R_alloc | apply Kd.R_drewN | apply Kd.R_drew)); exact (Kd.R_mono (Kd.R_far (p := ⟨gb303, 2, none⟩) (Kd.R_far (p := ⟨gb303, 1, none⟩) (Kd.R_far (p := ⟨gb303, 0, none⟩) (Kd.R_mono HO_12.out (fun k_ hk => (⟨hk, hk.2⟩ : _ ∧ k_ ≠ gb303))) (fun _ hk => hk.2) (.string ((rd_T58 l0 x38_2).f0))) (fun _ hk => hk.2) (.int .i64 ((rd_T58 l0 x38_2).f1))) (fun _ hk => hk.2) (.string ((rd_T58 l0 x38_2).f2))) (fun _ h_ => h_.1))) hb); have n1_ := Aside0.mk (blk_below (g := gb303) (o := .cells #[.string ((rd_T58 l0 x38_2).f0), .int .i64 ((rd_T58 l0 x38_2).f1), .string ((rd_T58 l0 x38_2).f2)] 58 (0, 0)) (by (with_reducible repeat (first | refine blk_drewN ?_ _ | refine blk_drew ?_ | refine blk_alloc ?_ _)); refine blk_put (cs := #[.string ((rd_T58 l0 x38_2).f0), .int .i64 ((rd_T58 l0 x38_2).f1), .string (⟨#[]⟩ : ByteArray)]) ?_ 2 _ rfl; (with_reducible repeat (first | refine blk_drewN ?_ _ | refine blk_drew ?_ | refine blk_alloc ?_ _)); refine blk_put (cs := #[.string ((rd_T58 l0 x38_2).f0), .int .i64 0, .string (⟨#[]⟩ : ByteArray)]) ?_ 1 _ rfl; (with_reducible repeat (first | refine blk_drewN ?_ _ | refine blk_drew ?_ | refine blk_alloc ?_ _)); refine blk_put (cs := #[.string (⟨#[]⟩ : ByteArray), .int .i64 0, .string (⟨#[]⟩ : ByteArray)]) ?_ 0 _ rfl; (with_reducible repeat (first | refine blk_drewN ?_ _ | refine blk_drew ?_ | refine blk_alloc ?_ _)); exact BK303.out) hb); have n2_ := Aside0.mk (below_step (by repeat (first | (with_reducible first | exact HB.out | apply below_alloc | apply pw_below_drewN | apply below_drew1 | refine below_set ?_ GE303.out) | exact HB.out)) hb); clear HO_12; clear BK303; clear HB; have HO_12 := n0_; have BK303 := n1_; have HB := n2_; clear n0_ n1_ n2_; (try clear hb); (try clear hb2); (try clear hk); (try clear hi)))
                            go_roundg k2
                            case measure => have := HK1.out; have := HK2.out; omega
                            case rel => exact ⟨(x12_2), (wrap64 (x38_2 + 1)), (by first | rfl | (simp; done) | (simp [*]; done)), H', ⟨by have := HK1.out; have := HK2.out; omega⟩, ⟨by (with_reducible repeat (first | apply Kd.R_alloc | apply Kd.R_drewN | apply Kd.R_drew)); exact Kd.R_mono HO_12.out (fun _ hk => trivial)⟩, ⟨by repeat (first | (with_reducible first | exact HB.out | apply below_alloc | apply pw_below_drewN | apply below_drew1 | refine below_set ?_ GE303.out) | exact HB.out)⟩⟩
                          · replace c26 := Bool.eq_false_iff.mpr c26
                            subst c26
                            have H1 : (if x12_2.length < 3518437208883 then (tree_Filter.l1 k2 l1 l2 (x12_2 ++ [(⟨(rd_T58 l0 x38_2).f0, (rd_T58 l0 x38_2).f1, (rd_T58 l0 x38_2).f2⟩ : S58)]) l0 (l0.length : Int) (wrap64 (x38_2 + 1))) else (none)) = some (r1, r2) := by rw [if_neg (show ¬ (false = true) by decide)] at H; exact H
                            clear H
                            have H := H1
                            clear H1
                            by_cases c30 : x12_2.length < 3518437208883
                            · rw [if_pos c30] at H
                              have LMc30 := Aside0.mk c30
                              clear c30
                              obtain ⟨y305, hy305⟩ : ∃ y_ : List (S58), y_ = (x12_2 ++ [(⟨(rd_T58 l0 x38_2).f0, (rd_T58 l0 x38_2).f1, (rd_T58 l0 x38_2).f2⟩ : S58)]) := ⟨_, rfl⟩
                              replace H : (tree_Filter.l1 k2 l1 l2 y305 l0 (l0.length : Int) (wrap64 (x38_2 + 1))) = some (r1, r2) := by first | (rw [hy305]; with_reducible exact H) | (have H2_ := (Option.bind_some _ _).symm.trans H; rw [hy305]; with_reducible exact H2_) | (have H2_ := (Option.bind_some _ _).symm.trans H; with_reducible exact H2_) | with_reducible exact H | (rw [hy305]; exact H) | exact H
                              have Ny305 := Aside0.mk hy305
                              clear hy305
                              have H' := Aside0.mk H
                              clear H
                              have p302 : 0 ≤ (x38_2 : Int) := of_decide_eq_true (by first | (with_reducible assumption) | assumption)
                              have q302 : x38_2 < (l0.length : Int) := of_decide_eq_true (by first | (with_reducible assumption) | assumption)
                              obtain ⟨ad302, e302, hx302_0, hx302_1, hx302_2⟩ := at_T58 HR0.out x38_2 p302 q302
                              cases e302
                              replace hx302_0 := (HB.out.cell (World.block_lt_of_cell? w _ hx302_0)).trans hx302_0
                              replace hx302_1 := (HB.out.cell (World.block_lt_of_cell? w _ hx302_1)).trans hx302_1
                              replace hx302_2 := (HB.out.cell (World.block_lt_of_cell? w _ hx302_2)).trans hx302_2
                              replace p302 := eq_true p302
                              replace q302 := eq_true q302
                              go_wp2_with (first | ((with_reducible refine gate_dst (N := 14) rfl ?_); refine box_event ?hg (N := 14) ?hd (cs := #[.string (⟨#[]⟩ : ByteArray), .int .i64 0, .string (⟨#[]⟩ : ByteArray)]) (t := 58) ?hr ?_; (case hd => rfl); (case hg => rfl); (case hr => first | (go_simp; done) | (go_simp; rfl)); intro gb303 hg w31 hbox hb; have n0_ := Aside0.mk (Kd.R_below (Kd.R_elderB (by (with_reducible repeat (first | apply Kd.R_alloc | apply Kd.R_drewN | apply Kd.R_drew)); exact HO_12.out) gb303 (Nat.le_of_eq hg.symm)) hb); have n1_ := Aside0.mk (below_step (by repeat (first | (with_reducible first | exact HB.out | apply below_alloc | apply pw_below_drewN | apply below_drew1) | exact HB.out)) hb); have n2_ := Aside0.mk (hbox); have n3_ := Aside0.mk ((by rw [hg]; exact (below_size (by repeat (first | (with_reducible first | exact HB.out | apply below_alloc | apply pw_below_drewN | apply below_drew1) | exact HB.out))) : w.heap.size ≤ gb303)); have n4_ := Aside0.mk ((by rw [hg]; exact (below_size (by repeat (first | (with_reducible first | exact HB.out | apply below_alloc | apply pw_below_drewN | apply below_drew1) | exact HB.out))) : w.heap.size ≤ gb303)); clear HO_12; clear HB; have HO_12 := n0_; have HB := n1_; have BK303 := n2_; have GW303 := n3_; have GE303 := n4_; clear n0_ n1_ n2_ n3_ n4_; clear hb hbox hg; have hcz32_0 : w31.cell? ⟨gb303, 0, none⟩ = some (.string (⟨#[]⟩ : ByteArray)) := (blk_cell BK303.out 0).trans rfl; have hcz32_1 : w31.cell? ⟨gb303, 1, none⟩ = some (.int .i64 0) := (blk_cell BK303.out 1).trans rfl; have hcz32_2 : w31.cell? ⟨gb303, 2, none⟩ = some (.string (⟨#[]⟩ : ByteArray)) := (blk_cell BK303.out 2).trans rfl; have hfz32_0 := blk_frozen BK303.out 0; have hfz32_1 := blk_frozen BK303.out 1; have hfz32_2 := blk_frozen BK303.out 2) | (go_at_call 54; (with_reducible refine (tree_fits.calls k2 _ _ l2 ((rd_T58 l0 x38_2).f0) false _ ?side1 ?side2 A25.out).mono ?_); (case side1 => exact Kd.C_below HR2.out (by repeat (first | (with_reducible first | exact HB.out | apply below_alloc | apply pw_below_drewN | apply below_drew1 | refine below_set ?_ GE303.out) | exact HB.out))); (case side2 => exact HC2.out); rintro e w33 ⟨rfl, hb⟩; have n0_ := Aside0.mk (Kd.R_below (by (with_reducible repeat (first | apply Kd.R_alloc | apply Kd.R_drewN | apply Kd.R_drew)); exact (Kd.R_mono (Kd.R_far (p := ⟨gb303, 2, none⟩) (Kd.R_far (p := ⟨gb303, 1, none⟩) (Kd.R_far (p := ⟨gb303, 0, none⟩) (Kd.R_mono HO_12.out (fun k_ hk => (⟨hk, hk.2⟩ : _ ∧ k_ ≠ gb303))) (fun _ hk => hk.2) (.string ((rd_T58 l0 x38_2).f0))) (fun _ hk => hk.2) (.int .i64 ((rd_T58 l0 x38_2).f1))) (fun _ hk => hk.2) (.string ((rd_T58 l0 x38_2).f2))) (fun _ h_ => h_.1))) hb); have n1_ := Aside0.mk (blk_below (g := gb303) (o := .cells #[.string ((rd_T58 l0 x38_2).f0), .int .i64 ((rd_T58 l0 x38_2).f1), .string ((rd_T58 l0 x38_2).f2)] 58 (0, 0)) (by (with_reducible repeat (first | refine blk_drewN ?_ _ | refine blk_drew ?_ | refine blk_alloc ?_ _)); refine blk_put (cs := #[.string ((rd_T58 l0 x38_2).f0), .int .i64 ((rd_T58 l0 x38_2).f1), .string (⟨#[]⟩ : ByteArray)]) ?_ 2 _ rfl; (with_reducible repeat (first | refine blk_drewN ?_ _ | refine blk_drew ?_ | refine blk_alloc ?_ _)); refine blk_put (cs := #[.string ((rd_T58 l0 x38_2).f0), .int .i64 0, .string (⟨#[]⟩ : ByteArray)]) ?_ 1 _ rfl; (with_reducible repeat (first | refine blk_drewN ?_ _ | refine blk_drew ?_ | refine blk_alloc ?_ _)); refine blk_put (cs := #[.string (⟨#[]⟩ : ByteArray), .int .i64 0, .string (⟨#[]⟩ : ByteArray)]) ?_ 0 _ rfl; (with_reducible repeat (first | refine blk_drewN ?_ _ | refine blk_drew ?_ | refine blk_alloc ?_ _)); exact BK303.out) hb); have n2_ := Aside0.mk (below_step (by repeat (first | (with_reducible first | exact HB.out | apply below_alloc | apply pw_below_drewN | apply below_drew1 | refine below_set ?_ GE303.out) | exact HB.out)) hb); clear HO_12; clear BK303; clear HB; have HO_12 := n0_; have BK303 := n1_; have HB := n2_; clear n0_ n1_ n2_; (try clear hb); (try clear hb2); (try clear hk); (try clear hi); have hcz34_0 : w33.cell? ⟨gb303, 0, none⟩ = some (.string ((rd_T58 l0 x38_2).f0)) := (blk_cell BK303.out 0).trans rfl; have hcz34_1 : w33.cell? ⟨gb303, 1, none⟩ = some (.int .i64 ((rd_T58 l0 x38_2).f1)) := (blk_cell BK303.out 1).trans rfl; have hcz34_2 : w33.cell? ⟨gb303, 2, none⟩ = some (.string ((rd_T58 l0 x38_2).f2)) := (blk_cell BK303.out 2).trans rfl; have hfz34_0 := blk_frozen BK303.out 0; have hfz34_1 := blk_frozen BK303.out 1; have hfz34_2 := blk_frozen BK303.out 2) | ((with_reducible refine gate_builtin (b := .append) (xs := #[.tmp 58, .tmp 60]) rfl ?_); at_builtin; refine Kd.R_append k58 (w0 := w) w.heap.size rfl (.tmp 58) (.tmp 60) 29 58 (.agg #[(.string ⟨#[]⟩), (.int .i64 0), (.string ⟨#[]⟩)]) 40 rfl Tryd.underlying29 info58 rfl (by decide) (by omega) u12 x12_2 (⟨(rd_T58 l0 x38_2).f0, (rd_T58 l0 x38_2).f1, (rd_T58 l0 x38_2).f2⟩ : S58) [.string ((rd_T58 l0 x38_2).f0), .int .i64 ((rd_T58 l0 x38_2).f1), .string ((rd_T58 l0 x38_2).f2)] (fun k_ => k_ ≠ gb303) (fun _ => False) rfl rfl ?aP (fun _ hk => hk.elim) ?aF ?aO ?aB ?aS ?aL ?_; (case aP => exact k58_mkM _ _ _ (⟨(rd_T58 l0 x38_2).f0, (rd_T58 l0 x38_2).f1, (rd_T58 l0 x38_2).f2⟩ : S58)); (case aB => exact (by repeat (first | (with_reducible first | exact HB.out | apply below_alloc | apply pw_below_drewN | apply below_drew1 | refine below_set ?_ GE303.out) | exact HB.out))); (case aF => exact (fun k_ hk => Kd.freshB (g := gb303) (o := .cells #[.string ((rd_T58 l0 x38_2).f0), .int .i64 ((rd_T58 l0 x38_2).f1), .string ((rd_T58 l0 x38_2).f2)] 58 (0, 0)) (by (with_reducible repeat (first | refine blk_drewN ?_ _ | refine blk_drew ?_ | refine blk_alloc ?_ _)); exact BK303.out) k_ hk)); (case aO => exact (by (with_reducible repeat (first | apply Kd.R_alloc | apply Kd.R_drewN | apply Kd.R_drew)); exact Kd.R_mono HO_12.out (fun _ hk => hk.2))); (case aS => exact (below_size (by repeat (first | (with_reducible first | exact HB.out | apply below_alloc | apply pw_below_drewN | apply below_drew1 | refine below_set ?_ GE303.out) | exact HB.out)))); (case aL => have := LMc30.out; omega); intro v306 w35 ho hb hg hat; rw [← Ny305.out] at ho; have n0_ := Aside0.mk (blk_grown (g := gb303) (o := .cells #[.string ((rd_T58 l0 x38_2).f0), .int .i64 ((rd_T58 l0 x38_2).f1), .string ((rd_T58 l0 x38_2).f2)] 58 (0, 0)) (by (with_reducible repeat (first | refine blk_drewN ?_ _ | refine blk_drew ?_ | refine blk_alloc ?_ _)); exact BK303.out) hg (Kd.R_away HO_12.out (fun _ hk => hk.2))); have n1_ := Aside0.mk (hb); have n2_ := Aside0.mk (ho); clear BK303; clear HB; clear HO_12; have BK303 := n0_; have HB := n1_; have HO307 := n2_; clear n0_ n1_ n2_; clear ho hb hg hat))
                              go_roundg k2
                              case measure => have := HK1.out; have := HK2.out; omega
                              case rel => exact ⟨(y305), (wrap64 (x38_2 + 1)), (by first | rfl | (simp; done) | (simp [*]; done)), H', ⟨by have := HK1.out; have := HK2.out; omega⟩, ⟨by (with_reducible repeat (first | apply Kd.R_alloc | apply Kd.R_drewN | apply Kd.R_drew)); exact Kd.R_mono HO307.out (fun _ hk => trivial)⟩, ⟨by repeat (first | (with_reducible first | exact HB.out | apply below_alloc | apply pw_below_drewN | apply below_drew1 | refine below_set ?_ GE303.out) | exact HB.out)⟩⟩
                            · rw [if_neg c30] at H
                              exact absurd H (by simp)
                        · rw [if_neg c24] at H
                          have c24b0 : ((l1.length : Int) == 0) = false := beq_eq_false_iff_ne.mpr c24
                          have c24b1 : ((l1.length : Int) != 0) = true := bne_iff_ne.mpr c24
                          have c24b2 : ¬ (l1 = []) := fun h_ => c24 (by rw [h_]; rfl)
                          replace H := Option.bind_eq_some_iff.mp H
                          obtain ⟨t308, A360, H⟩ := H
                          replace H : (if t308 = true then ((tree_fits.f k2 l2 ((rd_T58 l0 x38_2).f0)).bind fun t309 => (if t309 = true then (tree_Filter.l1 k2 l1 l2 x12_2 l0 (l0.length : Int) (wrap64 (x38_2 + 1))) else (if x12_2.length < 3518437208883 then (tree_Filter.l1 k2 l1 l2 (x12_2 ++ [(⟨(rd_T58 l0 x38_2).f0, (rd_T58 l0 x38_2).f1, (rd_T58 l0 x38_2).f2⟩ : S58)]) l0 (l0.length : Int) (wrap64 (x38_2 + 1))) else (none)))) else (tree_Filter.l1 k2 l1 l2 x12_2 l0 (l0.length : Int) (wrap64 (x38_2 + 1)))) = some (r1, r2) := H
                          have A36 := Aside0.mk A360
                          clear A360
                          by_cases c37 : t308 = true
                          · subst c37
                            have H1 : ((tree_fits.f k2 l2 ((rd_T58 l0 x38_2).f0)).bind fun t309 => (if t309 = true then (tree_Filter.l1 k2 l1 l2 x12_2 l0 (l0.length : Int) (wrap64 (x38_2 + 1))) else (if x12_2.length < 3518437208883 then (tree_Filter.l1 k2 l1 l2 (x12_2 ++ [(⟨(rd_T58 l0 x38_2).f0, (rd_T58 l0 x38_2).f1, (rd_T58 l0 x38_2).f2⟩ : S58)]) l0 (l0.length : Int) (wrap64 (x38_2 + 1))) else (none)))) = some (r1, r2) := by rw [if_pos rfl] at H; exact H
                            clear H
                            have H := H1
                            clear H1
                            replace H := Option.bind_eq_some_iff.mp H
                            obtain ⟨t309, A380, H⟩ := H
                            replace H : (if t309 = true then (tree_Filter.l1 k2 l1 l2 x12_2 l0 (l0.length : Int) (wrap64 (x38_2 + 1))) else (if x12_2.length < 3518437208883 then (tree_Filter.l1 k2 l1 l2 (x12_2 ++ [(⟨(rd_T58 l0 x38_2).f0, (rd_T58 l0 x38_2).f1, (rd_T58 l0 x38_2).f2⟩ : S58)]) l0 (l0.length : Int) (wrap64 (x38_2 + 1))) else (none))) = some (r1, r2) := H
                            have A38 := Aside0.mk A380
                            clear A380
                            by_cases c39 : t309 = true
                            · subst c39
                              have H1 : (tree_Filter.l1 k2 l1 l2 x12_2 l0 (l0.length : Int) (wrap64 (x38_2 + 1))) = some (r1, r2) := by rw [if_pos rfl] at H; exact H
                              clear H
                              have H := H1
                              clear H1
                              have H' := Aside0.mk H
                              clear H
                              have p302 : 0 ≤ (x38_2 : Int) := of_decide_eq_true (by first | (with_reducible assumption) | assumption)
                              have q302 : x38_2 < (l0.length : Int) := of_decide_eq_true (by first | (with_reducible assumption) | assumption)
                              obtain ⟨ad302, e302, hx302_0, hx302_1, hx302_2⟩ := at_T58 HR0.out x38_2 p302 q302
                              cases e302
                              replace hx302_0 := (HB.out.cell (World.block_lt_of_cell? w _ hx302_0)).trans hx302_0
                              replace hx302_1 := (HB.out.cell (World.block_lt_of_cell? w _ hx302_1)).trans hx302_1
                              replace hx302_2 := (HB.out.cell (World.block_lt_of_cell? w _ hx302_2)).trans hx302_2
                              replace p302 := eq_true p302
                              replace q302 := eq_true q302
                              go_wp2_with (first | ((with_reducible refine gate_dst (N := 14) rfl ?_); refine box_event ?hg (N := 14) ?hd (cs := #[.string (⟨#[]⟩ : ByteArray), .int .i64 0, .string (⟨#[]⟩ : ByteArray)]) (t := 58) ?hr ?_; (case hd => rfl); (case hg => rfl); (case hr => first | (go_simp; done) | (go_simp; rfl)); intro gb303 hg w40 hbox hb; have n0_ := Aside0.mk (Kd.R_below (Kd.R_elderB (by (with_reducible repeat (first | apply Kd.R_alloc | apply Kd.R_drewN | apply Kd.R_drew)); exact HO_12.out) gb303 (Nat.le_of_eq hg.symm)) hb); have n1_ := Aside0.mk (below_step (by repeat (first | (with_reducible first | exact HB.out | apply below_alloc | apply pw_below_drewN | apply below_drew1) | exact HB.out)) hb); have n2_ := Aside0.mk (hbox); have n3_ := Aside0.mk ((by rw [hg]; exact (below_size (by repeat (first | (with_reducible first | exact HB.out | apply below_alloc | apply pw_below_drewN | apply below_drew1) | exact HB.out))) : w.heap.size ≤ gb303)); have n4_ := Aside0.mk ((by rw [hg]; exact (below_size (by repeat (first | (with_reducible first | exact HB.out | apply below_alloc | apply pw_below_drewN | apply below_drew1) | exact HB.out))) : w.heap.size ≤ gb303)); clear HO_12; clear HB; have HO_12 := n0_; have HB := n1_; have BK303 := n2_; have GW303 := n3_; have GE303 := n4_; clear n0_ n1_ n2_ n3_ n4_; clear hb hbox hg; have hcz41_0 : w40.cell? ⟨gb303, 0, none⟩ = some (.string (⟨#[]⟩ : ByteArray)) := (blk_cell BK303.out 0).trans rfl; have hcz41_1 : w40.cell? ⟨gb303, 1, none⟩ = some (.int .i64 0) := (blk_cell BK303.out 1).trans rfl; have hcz41_2 : w40.cell? ⟨gb303, 2, none⟩ = some (.string (⟨#[]⟩ : ByteArray)) := (blk_cell BK303.out 2).trans rfl; have hfz41_0 := blk_frozen BK303.out 0; have hfz41_1 := blk_frozen BK303.out 1; have hfz41_2 := blk_frozen BK303.out 2) | (go_at_call 54; (with_reducible refine (tree_fits.calls k2 _ _ l1 ((rd_T58 l0 x38_2).f0) true _ ?side1 ?side2 A36.out).mono ?_); (case side1 => exact Kd.C_below HR1.out (by repeat (first | (with_reducible first | exact HB.out | apply below_alloc | apply pw_below_drewN | apply below_drew1 | refine below_set ?_ GE303.out) | exact HB.out))); (case side2 => exact HC1.out); rintro e w42 ⟨rfl, hb⟩; have n0_ := Aside0.mk (Kd.R_below (by (with_reducible repeat (first | apply Kd.R_alloc | apply Kd.R_drewN | apply Kd.R_drew)); exact (Kd.R_mono (Kd.R_far (p := ⟨gb303, 2, none⟩) (Kd.R_far (p := ⟨gb303, 1, none⟩) (Kd.R_far (p := ⟨gb303, 0, none⟩) (Kd.R_mono HO_12.out (fun k_ hk => (⟨hk, hk.2⟩ : _ ∧ k_ ≠ gb303))) (fun _ hk => hk.2) (.string ((rd_T58 l0 x38_2).f0))) (fun _ hk => hk.2) (.int .i64 ((rd_T58 l0 x38_2).f1))) (fun _ hk => hk.2) (.string ((rd_T58 l0 x38_2).f2))) (fun _ h_ => h_.1))) hb); have n1_ := Aside0.mk (blk_below (g := gb303) (o := .cells #[.string ((rd_T58 l0 x38_2).f0), .int .i64 ((rd_T58 l0 x38_2).f1), .string ((rd_T58 l0 x38_2).f2)] 58 (0, 0)) (by (with_reducible repeat (first | refine blk_drewN ?_ _ | refine blk_drew ?_ | refine blk_alloc ?_ _)); refine blk_put (cs := #[.string ((rd_T58 l0 x38_2).f0), .int .i64 ((rd_T58 l0 x38_2).f1), .string (⟨#[]⟩ : ByteArray)]) ?_ 2 _ rfl; (with_reducible repeat (first | refine blk_drewN ?_ _ | refine blk_drew ?_ | refine blk_alloc ?_ _)); refine blk_put (cs := #[.string ((rd_T58 l0 x38_2).f0), .int .i64 0, .string (⟨#[]⟩ : ByteArray)]) ?_ 1 _ rfl; (with_reducible repeat (first | refine blk_drewN ?_ _ | refine blk_drew ?_ | refine blk_alloc ?_ _)); refine blk_put (cs := #[.string (⟨#[]⟩ : ByteArray), .int .i64 0, .string (⟨#[]⟩ : ByteArray)]) ?_ 0 _ rfl; (with_reducible repeat (first | refine blk_drewN ?_ _ | refine blk_drew ?_ | refine blk_alloc ?_ _)); exact BK303.out) hb); have n2_ := Aside0.mk (below_step (by repeat (first | (with_reducible first | exact HB.out | apply below_alloc | apply pw_below_drewN | apply below_drew1 | refine below_set ?_ GE303.out) | exact HB.out)) hb); clear HO_12; clear BK303; clear HB; have HO_12 := n0_; have BK303 := n1_; have HB := n2_; clear n0_ n1_ n2_; (try clear hb); (try clear hb2); (try clear hk); (try clear hi); have hcz43_0 : w42.cell? ⟨gb303, 0, none⟩ = some (.string ((rd_T58 l0 x38_2).f0)) := (blk_cell BK303.out 0).trans rfl; have hcz43_1 : w42.cell? ⟨gb303, 1, none⟩ = some (.int .i64 ((rd_T58 l0 x38_2).f1)) := (blk_cell BK303.out 1).trans rfl; have hcz43_2 : w42.cell? ⟨gb303, 2, none⟩ = some (.string ((rd_T58 l0 x38_2).f2)) := (blk_cell BK303.out 2).trans rfl; have hfz43_0 := blk_frozen BK303.out 0; have hfz43_1 := blk_frozen BK303.out 1; have hfz43_2 := blk_frozen BK303.out 2) | (go_at_call 54; (with_reducible refine (tree_fits.calls k2 _ _ l2 ((rd_T58 l0 x38_2).f0) true _ ?side1 ?side2 A38.out).mono ?_); (case side1 => repeat (first | exact (Kd.C_below HR2.out HB.out) | (with_reducible refine Kd.C_alloc ?_ _) | (with_reducible refine Kd.C_drewN ?_ _) | (with_reducible refine Kd.C_drew ?_))); (case side2 => exact HC2.out); rintro e w44 ⟨rfl, hb⟩; have n0_ := Aside0.mk (Kd.R_below (by (with_reducible repeat (first | apply Kd.R_alloc | apply Kd.R_drewN | apply Kd.R_drew)); exact HO_12.out) hb); have n1_ := Aside0.mk (blk_below (g := gb303) (o := .cells #[.string ((rd_T58 l0 x38_2).f0), .int .i64 ((rd_T58 l0 x38_2).f1), .string ((rd_T58 l0 x38_2).f2)] 58 (0, 0)) (by (with_reducible repeat (first | refine blk_drewN ?_ _ | refine blk_drew ?_ | refine blk_alloc ?_ _)); exact BK303.out) hb); have n2_ := Aside0.mk (below_step (by repeat (first | (with_reducible first | exact HB.out | apply below_alloc | apply pw_below_drewN | apply below_drew1 | refine below_set ?_ GE303.out) | exact HB.out)) hb); clear HO_12; clear BK303; clear HB; have HO_12 := n0_; have BK303 := n1_; have HB := n2_; clear n0_ n1_ n2_; (try clear hb); (try clear hb2); (try clear hk); (try clear hi)))
                              go_roundg k2
                              case measure => have := HK1.out; have := HK2.out; omega
                              case rel => exact ⟨(x12_2), (wrap64 (x38_2 + 1)), (by first | rfl | (simp; done) | (simp [*]; done)), H', ⟨by have := HK1.out; have := HK2.out; omega⟩, ⟨by (with_reducible repeat (first | apply Kd.R_alloc | apply Kd.R_drewN | apply Kd.R_drew)); exact Kd.R_mono HO_12.out (fun _ hk => trivial)⟩, ⟨by repeat (first | (with_reducible first | exact HB.out | apply below_alloc | apply pw_below_drewN | apply below_drew1 | refine below_set ?_ GE303.out) | exact HB.out)⟩⟩
                            · replace c39 := Bool.eq_false_iff.mpr c39
                              subst c39
                              have H1 : (if x12_2.length < 3518437208883 then (tree_Filter.l1 k2 l1 l2 (x12_2 ++ [(⟨(rd_T58 l0 x38_2).f0, (rd_T58 l0 x38_2).f1, (rd_T58 l0 x38_2).f2⟩ : S58)]) l0 (l0.length : Int) (wrap64 (x38_2 + 1))) else (none)) = some (r1, r2) := by rw [if_neg (show ¬ (false = true) by decide)] at H; exact H
                              clear H
                              have H := H1
                              clear H1
                              by_cases c45 : x12_2.length < 3518437208883
                              · rw [if_pos c45] at H
                                have LMc45 := Aside0.mk c45
                                clear c45
                                obtain ⟨y310, hy310⟩ : ∃ y_ : List (S58), y_ = (x12_2 ++ [(⟨(rd_T58 l0 x38_2).f0, (rd_T58 l0 x38_2).f1, (rd_T58 l0 x38_2).f2⟩ : S58)]) := ⟨_, rfl⟩
                                replace H : (tree_Filter.l1 k2 l1 l2 y310 l0 (l0.length : Int) (wrap64 (x38_2 + 1))) = some (r1, r2) := by first | (rw [hy310]; with_reducible exact H) | (have H2_ := (Option.bind_some _ _).symm.trans H; rw [hy310]; with_reducible exact H2_) | (have H2_ := (Option.bind_some _ _).symm.trans H; with_reducible exact H2_) | with_reducible exact H | (rw [hy310]; exact H) | exact H
                                have Ny310 := Aside0.mk hy310
                                clear hy310
                                have H' := Aside0.mk H
                                clear H
                                have p302 : 0 ≤ (x38_2 : Int) := of_decide_eq_true (by first | (with_reducible assumption) | assumption)
                                have q302 : x38_2 < (l0.length : Int) := of_decide_eq_true (by first | (with_reducible assumption) | assumption)
                                obtain ⟨ad302, e302, hx302_0, hx302_1, hx302_2⟩ := at_T58 HR0.out x38_2 p302 q302
                                cases e302
                                replace hx302_0 := (HB.out.cell (World.block_lt_of_cell? w _ hx302_0)).trans hx302_0
                                replace hx302_1 := (HB.out.cell (World.block_lt_of_cell? w _ hx302_1)).trans hx302_1
                                replace hx302_2 := (HB.out.cell (World.block_lt_of_cell? w _ hx302_2)).trans hx302_2
                                replace p302 := eq_true p302
                                replace q302 := eq_true q302
                                go_wp2_with (first | ((with_reducible refine gate_dst (N := 14) rfl ?_); refine box_event ?hg (N := 14) ?hd (cs := #[.string (⟨#[]⟩ : ByteArray), .int .i64 0, .string (⟨#[]⟩ : ByteArray)]) (t := 58) ?hr ?_; (case hd => rfl); (case hg => rfl); (case hr => first | (go_simp; done) | (go_simp; rfl)); intro gb303 hg w46 hbox hb; have n0_ := Aside0.mk (Kd.R_below (Kd.R_elderB (by (with_reducible repeat (first | apply Kd.R_alloc | apply Kd.R_drewN | apply Kd.R_drew)); exact HO_12.out) gb303 (Nat.le_of_eq hg.symm)) hb); have n1_ := Aside0.mk (below_step (by repeat (first | (with_reducible first | exact HB.out | apply below_alloc | apply pw_below_drewN | apply below_drew1) | exact HB.out)) hb); have n2_ := Aside0.mk (hbox); have n3_ := Aside0.mk ((by rw [hg]; exact (below_size (by repeat (first | (with_reducible first | exact HB.out | apply below_alloc | apply pw_below_drewN | apply below_drew1) | exact HB.out))) : w.heap.size ≤ gb303)); have n4_ := Aside0.mk ((by rw [hg]; exact (below_size (by repeat (first | (with_reducible first | exact HB.out | apply below_alloc | apply pw_below_drewN | apply below_drew1) | exact HB.out))) : w.heap.size ≤ gb303)); clear HO_12; clear HB; have HO_12 := n0_; have HB := n1_; have BK303 := n2_; have GW303 := n3_; have GE303 := n4_; clear n0_ n1_ n2_ n3_ n4_; clear hb hbox hg; have hcz47_0 : w46.cell? ⟨gb303, 0, none⟩ = some (.string (⟨#[]⟩ : ByteArray)) := (blk_cell BK303.out 0).trans rfl; have hcz47_1 : w46.cell? ⟨gb303, 1, none⟩ = some (.int .i64 0) := (blk_cell BK303.out 1).trans rfl; have hcz47_2 : w46.cell? ⟨gb303, 2, none⟩ = some (.string (⟨#[]⟩ : ByteArray)) := (blk_cell BK303.out 2).trans rfl; have hfz47_0 := blk_frozen BK303.out 0; have hfz47_1 := blk_frozen BK303.out 1; have hfz47_2 := blk_frozen BK303.out 2) | (go_at_call 54; (with_reducible refine (tree_fits.calls k2 _ _ l1 ((rd_T58 l0 x38_2).f0) true _ ?side1 ?side2 A36.out).mono ?_); (case side1 => exact Kd.C_below HR1.out (by repeat (first | (with_reducible first | exact HB.out | apply below_alloc | apply pw_below_drewN | apply below_drew1 | refine below_set ?_ GE303.out) | exact HB.out))); (case side2 => exact HC1.out); rintro e w48 ⟨rfl, hb⟩; have n0_ := Aside0.mk (Kd.R_below (by (with_reducible repeat (first | apply Kd.R_alloc | apply Kd.R_drewN | apply Kd.R_drew)); exact (Kd.R_mono (Kd.R_far (p := ⟨gb303, 2, none⟩) (Kd.R_far (p := ⟨gb303, 1, none⟩) (Kd.R_far (p := ⟨gb303, 0, none⟩) (Kd.R_mono HO_12.out (fun k_ hk => (⟨hk, hk.2⟩ : _ ∧ k_ ≠ gb303))) (fun _ hk => hk.2) (.string ((rd_T58 l0 x38_2).f0))) (fun _ hk => hk.2) (.int .i64 ((rd_T58 l0 x38_2).f1))) (fun _ hk => hk.2) (.string ((rd_T58 l0 x38_2).f2))) (fun _ h_ => h_.1))) hb); have n1_ := Aside0.mk (blk_below (g := gb303) (o := .cells #[.string ((rd_T58 l0 x38_2).f0), .int .i64 ((rd_T58 l0 x38_2).f1), .string ((rd_T58 l0 x38_2).f2)] 58 (0, 0)) (by (with_reducible repeat (first | refine blk_drewN ?_ _ | refine blk_drew ?_ | refine blk_alloc ?_ _)); refine blk_put (cs := #[.string ((rd_T58 l0 x38_2).f0), .int .i64 ((rd_T58 l0 x38_2).f1), .string (⟨#[]⟩ : ByteArray)]) ?_ 2 _ rfl; (with_reducible repeat (first | refine blk_drewN ?_ _ | refine blk_drew ?_ | refine blk_alloc ?_ _)); refine blk_put (cs := #[.string ((rd_T58 l0 x38_2).f0), .int .i64 0, .string (⟨#[]⟩ : ByteArray)]) ?_ 1 _ rfl; (with_reducible repeat (first | refine blk_drewN ?_ _ | refine blk_drew ?_ | refine blk_alloc ?_ _)); refine blk_put (cs := #[.string (⟨#[]⟩ : ByteArray), .int .i64 0, .string (⟨#[]⟩ : ByteArray)]) ?_ 0 _ rfl; (with_reducible repeat (first | refine blk_drewN ?_ _ | refine blk_drew ?_ | refine blk_alloc ?_ _)); exact BK303.out) hb); have n2_ := Aside0.mk (below_step (by repeat (first | (with_reducible first | exact HB.out | apply below_alloc | apply pw_below_drewN | apply below_drew1 | refine below_set ?_ GE303.out) | exact HB.out)) hb); clear HO_12; clear BK303; clear HB; have HO_12 := n0_; have BK303 := n1_; have HB := n2_; clear n0_ n1_ n2_; (try clear hb); (try clear hb2); (try clear hk); (try clear hi); have hcz49_0 : w48.cell? ⟨gb303, 0, none⟩ = some (.string ((rd_T58 l0 x38_2).f0)) := (blk_cell BK303.out 0).trans rfl; have hcz49_1 : w48.cell? ⟨gb303, 1, none⟩ = some (.int .i64 ((rd_T58 l0 x38_2).f1)) := (blk_cell BK303.out 1).trans rfl; have hcz49_2 : w48.cell? ⟨gb303, 2, none⟩ = some (.string ((rd_T58 l0 x38_2).f2)) := (blk_cell BK303.out 2).trans rfl; have hfz49_0 := blk_frozen BK303.out 0; have hfz49_1 := blk_frozen BK303.out 1; have hfz49_2 := blk_frozen BK303.out 2) | (go_at_call 54; (with_reducible refine (tree_fits.calls k2 _ _ l2 ((rd_T58 l0 x38_2).f0) false _ ?side1 ?side2 A38.out).mono ?_); (case side1 => repeat (first | exact (Kd.C_below HR2.out HB.out) | (with_reducible refine Kd.C_alloc ?_ _) | (with_reducible refine Kd.C_drewN ?_ _) | (with_reducible refine Kd.C_drew ?_))); (case side2 => exact HC2.out); rintro e w50 ⟨rfl, hb⟩; have n0_ := Aside0.mk (Kd.R_below (by (with_reducible repeat (first | apply Kd.R_alloc | apply Kd.R_drewN | apply Kd.R_drew)); exact HO_12.out) hb); have n1_ := Aside0.mk (blk_below (g := gb303) (o := .cells #[.string ((rd_T58 l0 x38_2).f0), .int .i64 ((rd_T58 l0 x38_2).f1), .string ((rd_T58 l0 x38_2).f2)] 58 (0, 0)) (by (with_reducible repeat (first | refine blk_drewN ?_ _ | refine blk_drew ?_ | refine blk_alloc ?_ _)); exact BK303.out) hb); have n2_ := Aside0.mk (below_step (by repeat (first | (with_reducible first | exact HB.out | apply below_alloc | apply pw_below_drewN | apply below_drew1 | refine below_set ?_ GE303.out) | exact HB.out)) hb); clear HO_12; clear BK303; clear HB; have HO_12 := n0_; have BK303 := n1_; have HB := n2_; clear n0_ n1_ n2_; (try clear hb); (try clear hb2); (try clear hk); (try clear hi); have hcz51_0 : w50.cell? ⟨gb303, 0, none⟩ = some (.string ((rd_T58 l0 x38_2).f0)) := (blk_cell BK303.out 0).trans rfl; have hcz51_1 : w50.cell? ⟨gb303, 1, none⟩ = some (.int .i64 ((rd_T58 l0 x38_2).f1)) := (blk_cell BK303.out 1).trans rfl; have hcz51_2 : w50.cell? ⟨gb303, 2, none⟩ = some (.string ((rd_T58 l0 x38_2).f2)) := (blk_cell BK303.out 2).trans rfl; have hfz51_0 := blk_frozen BK303.out 0; have hfz51_1 := blk_frozen BK303.out 1; have hfz51_2 := blk_frozen BK303.out 2) | ((with_reducible refine gate_builtin (b := .append) (xs := #[.tmp 58, .tmp 60]) rfl ?_); at_builtin; refine Kd.R_append k58 (w0 := w) w.heap.size rfl (.tmp 58) (.tmp 60) 29 58 (.agg #[(.string ⟨#[]⟩), (.int .i64 0), (.string ⟨#[]⟩)]) 40 rfl Tryd.underlying29 info58 rfl (by decide) (by omega) u12 x12_2 (⟨(rd_T58 l0 x38_2).f0, (rd_T58 l0 x38_2).f1, (rd_T58 l0 x38_2).f2⟩ : S58) [.string ((rd_T58 l0 x38_2).f0), .int .i64 ((rd_T58 l0 x38_2).f1), .string ((rd_T58 l0 x38_2).f2)] (fun k_ => k_ ≠ gb303) (fun _ => False) rfl rfl ?aP (fun _ hk => hk.elim) ?aF ?aO ?aB ?aS ?aL ?_; (case aP => exact k58_mkM _ _ _ (⟨(rd_T58 l0 x38_2).f0, (rd_T58 l0 x38_2).f1, (rd_T58 l0 x38_2).f2⟩ : S58)); (case aB => exact (by repeat (first | (with_reducible first | exact HB.out | apply below_alloc | apply pw_below_drewN | apply below_drew1 | refine below_set ?_ GE303.out) | exact HB.out))); (case aF => exact (fun k_ hk => Kd.freshB (g := gb303) (o := .cells #[.string ((rd_T58 l0 x38_2).f0), .int .i64 ((rd_T58 l0 x38_2).f1), .string ((rd_T58 l0 x38_2).f2)] 58 (0, 0)) (by (with_reducible repeat (first | refine blk_drewN ?_ _ | refine blk_drew ?_ | refine blk_alloc ?_ _)); exact BK303.out) k_ hk)); (case aO => exact (by (with_reducible repeat (first | apply Kd.R_alloc | apply Kd.R_drewN | apply Kd.R_drew)); exact Kd.R_mono HO_12.out (fun _ hk => hk.2))); (case aS => exact (below_size (by repeat (first | (with_reducible first | exact HB.out | apply below_alloc | apply pw_below_drewN | apply below_drew1 | refine below_set ?_ GE303.out) | exact HB.out)))); (case aL => have := LMc45.out; omega); intro v311 w52 ho hb hg hat; rw [← Ny310.out] at ho; have n0_ := Aside0.mk (blk_grown (g := gb303) (o := .cells #[.string ((rd_T58 l0 x38_2).f0), .int .i64 ((rd_T58 l0 x38_2).f1), .string ((rd_T58 l0 x38_2).f2)] 58 (0, 0)) (by (with_reducible repeat (first | refine blk_drewN ?_ _ | refine blk_drew ?_ | refine blk_alloc ?_ _)); exact BK303.out) hg (Kd.R_away HO_12.out (fun _ hk => hk.2))); have n1_ := Aside0.mk (hb); have n2_ := Aside0.mk (ho); clear BK303; clear HB; clear HO_12; have BK303 := n0_; have HB := n1_; have HO312 := n2_; clear n0_ n1_ n2_; clear ho hb hg hat))
                                go_roundg k2
                                case measure => have := HK1.out; have := HK2.out; omega
                                case rel => exact ⟨(y310), (wrap64 (x38_2 + 1)), (by first | rfl | (simp; done) | (simp [*]; done)), H', ⟨by have := HK1.out; have := HK2.out; omega⟩, ⟨by (with_reducible repeat (first | apply Kd.R_alloc | apply Kd.R_drewN | apply Kd.R_drew)); exact Kd.R_mono HO312.out (fun _ hk => trivial)⟩, ⟨by repeat (first | (with_reducible first | exact HB.out | apply below_alloc | apply pw_below_drewN | apply below_drew1 | refine below_set ?_ GE303.out) | exact HB.out)⟩⟩
                              · rw [if_neg c45] at H
                                exact absurd H (by simp)
                          · replace c37 := Bool.eq_false_iff.mpr c37
                            subst c37
                            have H1 : (tree_Filter.l1 k2 l1 l2 x12_2 l0 (l0.length : Int) (wrap64 (x38_2 + 1))) = some (r1, r2) := by rw [if_neg (show ¬ (false = true) by decide)] at H; exact H
                            clear H
                            have H := H1
                            clear H1
                            have H' := Aside0.mk H
                            clear H
                            have p302 : 0 ≤ (x38_2 : Int) := of_decide_eq_true (by first | (with_reducible assumption) | assumption)
                            have q302 : x38_2 < (l0.length : Int) := of_decide_eq_true (by first | (with_reducible assumption) | assumption)
                            obtain ⟨ad302, e302, hx302_0, hx302_1, hx302_2⟩ := at_T58 HR0.out x38_2 p302 q302
                            cases e302
                            replace hx302_0 := (HB.out.cell (World.block_lt_of_cell? w _ hx302_0)).trans hx302_0
                            replace hx302_1 := (HB.out.cell (World.block_lt_of_cell? w _ hx302_1)).trans hx302_1
                            replace hx302_2 := (HB.out.cell (World.block_lt_of_cell? w _ hx302_2)).trans hx302_2
                            replace p302 := eq_true p302
                            replace q302 := eq_true q302
                            go_wp2_with (first | ((with_reducible refine gate_dst (N := 14) rfl ?_); refine box_event ?hg (N := 14) ?hd (cs := #[.string (⟨#[]⟩ : ByteArray), .int .i64 0, .string (⟨#[]⟩ : ByteArray)]) (t := 58) ?hr ?_; (case hd => rfl); (case hg => rfl); (case hr => first | (go_simp; done) | (go_simp; rfl)); intro gb303 hg w53 hbox hb; have n0_ := Aside0.mk (Kd.R_below (Kd.R_elderB (by (with_reducible repeat (first | apply Kd.R_alloc | apply Kd.R_drewN | apply Kd.R_drew)); exact HO_12.out) gb303 (Nat.le_of_eq hg.symm)) hb); have n1_ := Aside0.mk (below_step (by repeat (first | (with_reducible first | exact HB.out | apply below_alloc | apply pw_below_drewN | apply below_drew1) | exact HB.out)) hb); have n2_ := Aside0.mk (hbox); have n3_ := Aside0.mk ((by rw [hg]; exact (below_size (by repeat (first | (with_reducible first | exact HB.out | apply below_alloc | apply pw_below_drewN | apply below_drew1) | exact HB.out))) : w.heap.size ≤ gb303)); have n4_ := Aside0.mk ((by rw [hg]; exact (below_size (by repeat (first | (with_reducible first | exact HB.out | apply below_alloc | apply pw_below_drewN | apply below_drew1) | exact HB.out))) : w.heap.size ≤ gb303)); clear HO_12; clear HB; have HO_12 := n0_; have HB := n1_; have BK303 := n2_; have GW303 := n3_; have GE303 := n4_; clear n0_ n1_ n2_ n3_ n4_; clear hb hbox hg; have hcz54_0 : w53.cell? ⟨gb303, 0, none⟩ = some (.string (⟨#[]⟩ : ByteArray)) := (blk_cell BK303.out 0).trans rfl; have hcz54_1 : w53.cell? ⟨gb303, 1, none⟩ = some (.int .i64 0) := (blk_cell BK303.out 1).trans rfl; have hcz54_2 : w53.cell? ⟨gb303, 2, none⟩ = some (.string (⟨#[]⟩ : ByteArray)) := (blk_cell BK303.out 2).trans rfl; have hfz54_0 := blk_frozen BK303.out 0; have hfz54_1 := blk_frozen BK303.out 1; have hfz54_2 := blk_frozen BK303.out 2) | (go_at_call 54; (with_reducible refine (tree_fits.calls k2 _ _ l1 ((rd_T58 l0 x38_2).f0) false _ ?side1 ?side2 A36.out).mono ?_); (case side1 => exact Kd.C_below HR1.out (by repeat (first | (with_reducible first | exact HB.out | apply below_alloc | apply pw_below_drewN | apply below_drew1 | refine below_set ?_ GE303.out) | exact HB.out))); (case side2 => exact HC1.out); rintro e w55 ⟨rfl, hb⟩; have n0_ := Aside0.mk (Kd.R_below (by (with_reducible repeat (first | apply Kd.R_alloc | apply Kd.R_drewN | apply Kd.R_drew)); exact (Kd.R_mono (Kd.R_far (p := ⟨gb303, 2, none⟩) (Kd.R_far (p := ⟨gb303, 1, none⟩) (Kd.R_far (p := ⟨gb303, 0, none⟩) (Kd.R_mono HO_12.out (fun k_ hk => (⟨hk, hk.2⟩ : _ ∧ k_ ≠ gb303))) (fun _ hk => hk.2) (.string ((rd_T58 l0 x38_2).f0))) (fun _ hk => hk.2) (.int .i64 ((rd_T58 l0 x38_2).f1))) (fun _ hk => hk.2) (.string ((rd_T58 l0 x38_2).f2))) (fun _ h_ => h_.1))) hb); have n1_ := Aside0.mk (blk_below (g := gb303) (o := .cells #[.string ((rd_T58 l0 x38_2).f0), .int .i64 ((rd_T58 l0 x38_2).f1), .string ((rd_T58 l0 x38_2).f2)] 58 (0, 0)) (by (with_reducible repeat (first | refine blk_drewN ?_ _ | refine blk_drew ?_ | refine blk_alloc ?_ _)); refine blk_put (cs := #[.string ((rd_T58 l0 x38_2).f0), .int .i64 ((rd_T58 l0 x38_2).f1), .string (⟨#[]⟩ : ByteArray)]) ?_ 2 _ rfl; (with_reducible repeat (first | refine blk_drewN ?_ _ | refine blk_drew ?_ | refine blk_alloc ?_ _)); refine blk_put (cs := #[.string ((rd_T58 l0 x38_2).f0), .int .i64 0, .string (⟨#[]⟩ : ByteArray)]) ?_ 1 _ rfl; (with_reducible repeat (first | refine blk_drewN ?_ _ | refine blk_drew ?_ | refine blk_alloc ?_ _)); refine blk_put (cs := #[.string (⟨#[]⟩ : ByteArray), .int .i64 0, .string (⟨#[]⟩ : ByteArray)]) ?_ 0 _ rfl; (with_reducible repeat (first | refine blk_drewN ?_ _ | refine blk_drew ?_ | refine blk_alloc ?_ _)); exact BK303.out) hb); have n2_ := Aside0.mk (below_step (by repeat (first | (with_reducible first | exact HB.out | apply below_alloc | apply pw_below_drewN | apply below_drew1 | refine below_set ?_ GE303.out) | exact HB.out)) hb); clear HO_12; clear BK303; clear HB; have HO_12 := n0_; have BK303 := n1_; have HB := n2_; clear n0_ n1_ n2_; (try clear hb); (try clear hb2); (try clear hk); (try clear hi)))
                            go_roundg k2
                            case measure => have := HK1.out; have := HK2.out; omega
                            case rel => exact ⟨(x12_2), (wrap64 (x38_2 + 1)), (by first | rfl | (simp; done) | (simp [*]; done)), H', ⟨by have := HK1.out; have := HK2.out; omega⟩, ⟨by (with_reducible repeat (first | apply Kd.R_alloc | apply Kd.R_drewN | apply Kd.R_drew)); exact Kd.R_mono HO_12.out (fun _ hk => trivial)⟩, ⟨by repeat (first | (with_reducible first | exact HB.out | apply below_alloc | apply pw_below_drewN | apply below_drew1 | refine below_set ?_ GE303.out) | exact HB.out)⟩⟩
                      · rw [if_neg c23] at H
                        exact absurd H (by simp)
                    · rw [if_neg c22] at H
                      exact absurd H (by simp)
                  · rw [if_neg c21] at H
                    have c21b0 : decide (x38_2 < (l0.length : Int)) = false := decide_eq_false c21
                    clear c21
                    simp only [Option.some.injEq, Prod.mk.injEq] at H
                    obtain ⟨rfl, rfl⟩ := H
                    go_wp2
                    go_ret2
                    exact ⟨_, by first | rfl | (simp [errW_none, errW_some] <;> rfl) | (simp [*, errW_none, errW_some] <;> rfl), by (with_reducible repeat (first | apply Kd.R_alloc | apply Kd.R_drewN | apply Kd.R_drew)); exact HO_12.out, by repeat (first | (with_reducible first | exact HB.out | apply below_alloc | apply pw_below_drewN | apply below_drew1) | exact HB.out)⟩
      · rw [if_neg c7] at H
        exact absurd H (by simp)
    · rw [if_neg c6] at H
      exact absurd H (by simp)
  · rw [if_neg c5] at H
    have c5b0 : (t290 == 0) = false := beq_eq_false_iff_ne.mpr c5
    have c5b1 : (t290 != 0) = true := bne_iff_ne.mpr c5
    simp only [Option.some.injEq, Prod.mk.injEq] at H
    obtain ⟨rfl, rfl⟩ := H
    go_enter Tryd.func26, Tryd.ntmps26
    go_wp2_with (first | ((with_reducible refine gate_callee (f := 19) rfl ?_); refine goesL_ (some 16) rfl rfl Tryd.func19 (by kernel_rfl) rfl #[.slice A0 l0.length c0] rfl (by (try simp only [List.map_toArray, List.map_cons, List.map_nil]); first | done | rfl | (simp only [List.length_drop, List.length_take]; rfl)) ?_; (with_reducible refine (tree_Check.calls k _ _ l0 t290 _ ?side1 ?side2 A4.out).mono ?_); (case side1 => repeat (first | exact HR0.out | (with_reducible refine Kd.C_alloc ?_ _) | (with_reducible refine Kd.C_drewN ?_ _) | (with_reducible refine Kd.C_drew ?_))); (case side2 => exact HC0.out); rintro e w56 ⟨rfl, hb⟩; refine ⟨_, rfl, ?_⟩; have n0_ := Aside0.mk (below_step (by repeat (first | (with_reducible first | exact HB.out | apply below_alloc | apply pw_below_drewN | apply below_drew1) | exact HB.out)) hb); clear HB; have HB := n0_; clear n0_; (try clear hb); (try clear hb2); (try clear hk); (try clear hi)))
    go_ret2
    exact ⟨_, by first | rfl | (simp [errW_none, errW_some] <;> rfl) | (simp [*, errW_none, errW_some] <;> rfl), by first | exact Kd.R_nil _ _ _ _ _ | exact Kd.N_nil _ _ _ _ _ | exact Kd.V_nil _ _ _ _ _ | exact Kd.Q_nil _ _ _ _ _ | exact Kd.S_nil _ _ _ _ _, by repeat (first | (with_reducible first | exact HB.out | apply below_alloc | apply pw_below_drewN | apply below_drew1) | exact HB.out)⟩
end Go.Proofs.YtafjlibcdlihcaaDoor.G
end
section
namespace Go.Proofs.YtafjlibcdlihcaaDoor.G
open Go.RowKit Go.Proofs.YtafjlibcdlihcaaDoorW.PrintWords Go.Proofs.YtafjlibcdlihcaaDoorW.PrintLast Go.Proofs.YtafjlibcdlihcaaDoorW.PrintMore
attribute [local go_sem] max2_int min2_int max_two min_two max_three min_three max_four min_four   -- for this text's walks alone
set_option linter.unusedVariables false
set_option linter.unusedSimpArgs false
def barqueref09_one.l0 : Nat → List ByteArray → ByteArray → Int → Option (Bool)
  | 0, _, _, _ => none
  | k + 1, x0, x1, x5 => if x5 < (x0.length : Int) then (if 0 ≤ x5 then ((barqueref09_Match.f k (rdOf ByteArray.empty x0 x5) x1).bind fun t314 => (if t314 = true then (some true) else (barqueref09_one.l0 k x0 x1 (wrap64 (x5 + 1))))) else (none)) else (some false)
def barqueref09_one.f (k : Nat) (l0 : List ByteArray) (a1 : ByteArray) : Option (Bool) := barqueref09_one.l0 k l0 a1 0
theorem barqueref09_one.mono_l : ∀ k, (∀ y0 y1 y2, LeO (barqueref09_one.l0 k y0 y1 y2) (barqueref09_one.l0 (k + 1) y0 y1 y2))
  | 0 => fun _ _ _ r h => by simp [barqueref09_one.l0] at h
  | k + 1 => by
    have ih0 := barqueref09_one.mono_l k
    · intro y0 y1 y2
      unfold barqueref09_one.l0
      repeat' first
      | (with_reducible exact ih0 _ _ _)
      | (with_reducible exact barqueref09_Match.mono _ _ _)
      | (with_reducible exact LeO.refl _)
      | (with_reducible exact LeO.none _)
      | (with_reducible refine LeO.ite ?_ ?_)
      | (with_reducible refine LeO.bind ?_ (fun _ => ?_))
      | exact ih0 _ _ _
      | exact barqueref09_Match.mono _ _ _
      | exact LeO.none _
      | refine LeO.ite ?_ ?_
      | refine LeO.bind ?_ (fun _ => ?_)
theorem barqueref09_one.mono : ∀ a0 a1 k, LeO (barqueref09_one.f k a0 a1) (barqueref09_one.f (k + 1) a0 a1) := by
  intro a0 a1 k
  have ih0 := barqueref09_one.mono_l k
  unfold barqueref09_one.f
  repeat' first
      | (with_reducible exact ih0 _ _ _)
      | (with_reducible exact barqueref09_Match.mono _ _ _)
      | (with_reducible exact LeO.refl _)
      | (with_reducible exact LeO.none _)
      | (with_reducible refine LeO.ite ?_ ?_)
      | (with_reducible refine LeO.bind ?_ (fun _ => ?_))
      | exact ih0 _ _ _
      | exact barqueref09_Match.mono _ _ _
      | exact LeO.none _
      | refine LeO.ite ?_ ?_
      | refine LeO.bind ?_ (fun _ => ?_)
set_option maxHeartbeats 8000000 in
set_option maxRecDepth 100000 in
theorem barqueref09_one.calls (k : Nat) (A0 : Option Addr) (c0 : Nat) (l0 : List ByteArray) (a1 : ByteArray) (r : Bool) (w : World) (hr0 : Kd.C Kd.string w A0 l0.length l0) (hc0 : l0.length ≤ c0) (h : barqueref09_one.f k l0 a1 = some r) :
    Calls Tryd.prog 55 #[.slice A0 l0.length c0, .string a1] w fun e w' => e = .returned (.bool r) ∧ Below w.heap.size w w' := by
  have HR0 := Aside0.mk hr0
  have HC0 := Aside0.mk hc0
  clear hr0 hc0
  have HB := Aside0.mk (Below.refl w.heap.size w)
  have H : (barqueref09_one.l0 k l0 a1 0) = some r := h
  clear h
  have H' := Aside0.mk H
  clear H
  go_enter Tryd.func55, Tryd.ntmps55
  go_wp2
  go_loopg [5] k (fun kq v5 w' => ∃ (x5_1 : Int), v5 = .int .i64 x5_1 ∧ Aside0 (barqueref09_one.l0 kq l0 a1 x5_1 = some r) ∧ Aside0 (kq ≤ k) ∧ Aside0 (Below w.heap.size w w'))
  case atStart => exact ⟨(0), (by first | rfl | (simp; done) | (simp [*]; done)), H', ⟨Nat.le_refl _⟩, ⟨by repeat (first | (with_reducible first | exact HB.out | apply below_alloc | apply pw_below_drewN | apply below_drew1) | exact HB.out)⟩⟩
  case round =>
    clear H'
    try clear p2
    obtain ⟨x5_1, rfl, HA, HK1, HB⟩ := hrel
    cases gk with
    | zero => exact absurd HA.out (by simp [barqueref09_one.l0])
    | succ k1 =>
      have H := HA.out
      clear HA
      simp only [barqueref09_one.l0] at H
      by_cases c3 : x5_1 < (l0.length : Int)
      · rw [if_pos c3] at H
        have c3b0 : decide (x5_1 < (l0.length : Int)) = true := decide_eq_true c3
        clear c3
        by_cases c4 : 0 ≤ x5_1
        · rw [if_pos c4] at H
          have c4b0 : decide (0 ≤ x5_1) = true := decide_eq_true c4
          clear c4
          replace H := Option.bind_eq_some_iff.mp H
          obtain ⟨t314, A50, H⟩ := H
          replace H : (if t314 = true then (some true) else (barqueref09_one.l0 k1 l0 a1 (wrap64 (x5_1 + 1)))) = some r := H
          have A5 := Aside0.mk A50
          clear A50
          by_cases c6 : t314 = true
          · subst c6
            have H1 : (some true) = some r := by rw [if_pos rfl] at H; exact H
            clear H
            have H := H1
            clear H1
            obtain rfl := Option.some.inj H
            have p313 : 0 ≤ (x5_1 : Int) := of_decide_eq_true (by first | (with_reducible assumption) | assumption)
            have q313 : x5_1 < (l0.length : Int) := of_decide_eq_true (by first | (with_reducible assumption) | assumption)
            obtain ⟨ad313, e313, hx313_0⟩ := Kd.at_string HR0.out x5_1 p313 q313
            cases e313
            replace hx313_0 := (HB.out.cell (World.block_lt_of_cell? w _ hx313_0)).trans hx313_0
            replace p313 := eq_true p313
            replace q313 := eq_true q313
            go_wp2_with (first | ((with_reducible refine gate_callee (f := 24) rfl ?_); refine goesL_ (some 17) rfl rfl Tryd.func24 (by kernel_rfl) rfl #[.string (rdOf ByteArray.empty l0 x5_1), .string a1] rfl (by (try simp only [List.map_toArray, List.map_cons, List.map_nil]); first | done | rfl | (simp only [List.length_drop, List.length_take]; rfl)) ?_; (with_reducible refine (barqueref09_Match.calls k1 (rdOf ByteArray.empty l0 x5_1) a1 true _ A5.out).mono ?_); rintro e w7 ⟨rfl, hb⟩; refine ⟨_, rfl, ?_⟩; have n0_ := Aside0.mk (below_step (by repeat (first | (with_reducible first | exact HB.out | apply below_alloc | apply pw_below_drewN | apply below_drew1) | exact HB.out)) hb); clear HB; have HB := n0_; clear n0_; (try clear hb); (try clear hb2); (try clear hk); (try clear hi)))
            go_ret
            exact ⟨by first | rfl | (simp [errW_none, errW_some] <;> rfl) | (simp [*, errW_none, errW_some] <;> rfl), by repeat (first | (with_reducible first | exact HB.out | apply below_alloc | apply pw_below_drewN | apply below_drew1) | exact HB.out)⟩
          · replace c6 := Bool.eq_false_iff.mpr c6
            subst c6
            have H1 : (barqueref09_one.l0 k1 l0 a1 (wrap64 (x5_1 + 1))) = some r := by rw [if_neg (show ¬ (false = true) by decide)] at H; exact H
            clear H
            have H := H1
            clear H1
            have H' := Aside0.mk H
            clear H
            have p313 : 0 ≤ (x5_1 : Int) := of_decide_eq_true (by first | (with_reducible assumption) | assumption)
            have q313 : x5_1 < (l0.length : Int) := of_decide_eq_true (by first | (with_reducible assumption) | assumption)
            obtain ⟨ad313, e313, hx313_0⟩ := Kd.at_string HR0.out x5_1 p313 q313
            cases e313
            replace hx313_0 := (HB.out.cell (World.block_lt_of_cell? w _ hx313_0)).trans hx313_0
            replace p313 := eq_true p313
            replace q313 := eq_true q313
            go_wp2_with (first | ((with_reducible refine gate_callee (f := 24) rfl ?_); refine goesL_ (some 17) rfl rfl Tryd.func24 (by kernel_rfl) rfl #[.string (rdOf ByteArray.empty l0 x5_1), .string a1] rfl (by (try simp only [List.map_toArray, List.map_cons, List.map_nil]); first | done | rfl | (simp only [List.length_drop, List.length_take]; rfl)) ?_; (with_reducible refine (barqueref09_Match.calls k1 (rdOf ByteArray.empty l0 x5_1) a1 false _ A5.out).mono ?_); rintro e w8 ⟨rfl, hb⟩; refine ⟨_, rfl, ?_⟩; have n0_ := Aside0.mk (below_step (by repeat (first | (with_reducible first | exact HB.out | apply below_alloc | apply pw_below_drewN | apply below_drew1) | exact HB.out)) hb); clear HB; have HB := n0_; clear n0_; (try clear hb); (try clear hb2); (try clear hk); (try clear hi)))
            go_roundg k1
            case measure => have := HK1.out; omega
            case rel => exact ⟨(wrap64 (x5_1 + 1)), (by first | rfl | (simp; done) | (simp [*]; done)), H', ⟨by have := HK1.out; omega⟩, ⟨by repeat (first | (with_reducible first | exact HB.out | apply below_alloc | apply pw_below_drewN | apply below_drew1) | exact HB.out)⟩⟩
        · rw [if_neg c4] at H
          exact absurd H (by simp)
      · rw [if_neg c3] at H
        have c3b0 : decide (x5_1 < (l0.length : Int)) = false := decide_eq_false c3
        clear c3
        obtain rfl := Option.some.inj H
        go_wp2
        go_ret
        exact ⟨by first | rfl | (simp [errW_none, errW_some] <;> rfl) | (simp [*, errW_none, errW_some] <;> rfl), by repeat (first | (with_reducible first | exact HB.out | apply below_alloc | apply pw_below_drewN | apply below_drew1) | exact HB.out)⟩
end Go.Proofs.YtafjlibcdlihcaaDoor.G
end
section
namespace Go.Proofs.YtafjlibcdlihcaaDoor.G
open Go.RowKit Go.Proofs.YtafjlibcdlihcaaDoorW.PrintWords Go.Proofs.YtafjlibcdlihcaaDoorW.PrintLast Go.Proofs.YtafjlibcdlihcaaDoorW.PrintMore
set_option linter.unusedVariables false
set_option linter.unusedSimpArgs false
def oneE (l : List ByteArray) (p : ByteArray) : Bool := l.any (fun n => matchE n p)
def patsE : List ByteArray → Int
  | [] => 0
  | n :: l => if patE n = 0 then patsE l else patE n
def keepE (ins outs : List ByteArray) (x : S58) : Bool := (decide (ins.length = 0) || oneE ins x.f0) && !oneE outs x.f0
def filterE (l : List S58) (ins outs : List ByteArray) : List S58 × Int :=
  if checkE l = 0 then (if patsE (ins ++ outs) = 0 then (l.filter (keepE ins outs), 0) else ([], patsE (ins ++ outs))) else ([], checkE l)
theorem patsE_append : ∀ a b : List ByteArray, patsE (a ++ b) = if patsE a = 0 then patsE b else patsE a
  | [], b => by simp [patsE]
  | n :: a, b => by
    rw [List.cons_append, patsE, patsE]
    by_cases h : patE n = 0
    · rw [if_pos h, if_pos h, patsE_append a b]
    · rw [if_neg h, if_neg h, if_neg h]
theorem fits_l0 (l : List ByteArray) (p : ByteArray) (hl : l.length ≤ 4294967296) : ∀ (d i : Nat), l.length - i = d → i ≤ l.length →
    Ev (fun k => tree_fits.l0 k p l l.length i) (oneE (l.drop i) p) := by
  intro d
  induction d with
  | zero =>
    intro i hd hi
    have e : i = l.length := by omega
    subst e
    apply Ev.step
    · intro k; rw [tree_fits.l0]
    have c1 : ¬ ((l.length : Int) < (l.length : Int)) := by omega
    simp only [c1, ↓reduceIte]
    rw [List.drop_eq_nil_of_le (Nat.le_refl _)]
    exact Ev.now _
  | succ d ih =>
    intro i hd hi
    have hlt : i < l.length := by omega
    apply Ev.step
    · intro k; rw [tree_fits.l0]
    have c1 : ((i : Int) < (l.length : Int)) := by omega
    have c2 : (0 : Int) ≤ (i : Int) := by omega
    have hw : wrap64 ((i : Int) + 1) = ((i + 1 : Nat) : Int) := by rw [w64_ (by omega) (by omega)]; omega
    simp only [c1, c2, ↓reduceIte, rdOf_nat _ l i hlt, hw]
    refine Ev.bind (match_ev _ _) ?_
    rw [List.drop_eq_getElem_cons hlt]
    unfold oneE
    rw [List.any_cons]
    cases matchE (l[i]'hlt) p with
    | true => exact Ev.now _
    | false => exact ih (i + 1) (by omega) (by omega)
theorem fits_ev (l : List ByteArray) (p : ByteArray) (hl : l.length ≤ 4294967296) : Ev (fun k => tree_fits.f k l p) (oneE l p) := by
  unfold tree_fits.f
  have h := fits_l0 l p hl l.length 0 (by omega) (by omega)
  simpa using h
theorem one_l0 (l : List ByteArray) (p : ByteArray) (hl : l.length ≤ 4294967296) : ∀ (d i : Nat), l.length - i = d → i ≤ l.length →
    Ev (fun k => barqueref09_one.l0 k l p i) (oneE (l.drop i) p) := by
  intro d
  induction d with
  | zero =>
    intro i hd hi
    have e : i = l.length := by omega
    subst e
    apply Ev.step
    · intro k; rw [barqueref09_one.l0]
    have c1 : ¬ ((l.length : Int) < (l.length : Int)) := by omega
    simp only [c1, ↓reduceIte]
    rw [List.drop_eq_nil_of_le (Nat.le_refl _)]
    exact Ev.now _
  | succ d ih =>
    intro i hd hi
    have hlt : i < l.length := by omega
    apply Ev.step
    · intro k; rw [barqueref09_one.l0]
    have c1 : ((i : Int) < (l.length : Int)) := by omega
    have c2 : (0 : Int) ≤ (i : Int) := by omega
    have hw : wrap64 ((i : Int) + 1) = ((i + 1 : Nat) : Int) := by rw [w64_ (by omega) (by omega)]; omega
    simp only [c1, c2, ↓reduceIte, rdOf_nat _ l i hlt, hw]
    refine Ev.bind (refmatch_ev _ _) ?_
    rw [List.drop_eq_getElem_cons hlt]
    unfold oneE
    rw [List.any_cons]
    cases matchE (l[i]'hlt) p with
    | true => exact Ev.now _
    | false => exact ih (i + 1) (by omega) (by omega)
theorem one_ev (l : List ByteArray) (p : ByteArray) (hl : l.length ≤ 4294967296) : Ev (fun k => barqueref09_one.f k l p) (oneE l p) := by
  unfold barqueref09_one.f
  have h := one_l0 l p hl l.length 0 (by omega) (by omega)
  simpa using h
theorem filter_snoc_ (l : List S58) (q : S58 → Bool) (i : Nat) (h : i < l.length) : (l.take (i + 1)).filter q = (l.take i).filter q ++ (if q (l[i]'h) then [l[i]'h] else []) := by
  rw [List.take_succ_eq_append_getElem h, List.filter_append]
  congr 1
  cases hq : q (l[i]'h) <;> simp [hq]
theorem filter_le_ (l : List S58) (q : S58 → Bool) (i : Nat) : ((l.take i).filter q).length ≤ l.length :=
  Nat.le_trans (List.length_filter_le _ _) (by rw [List.length_take]; exact Nat.min_le_right _ _)
theorem filter_l1 (l : List S58) (ins outs : List ByteArray) (hl : l.length ≤ 4294967296) (h1 : ins.length ≤ 4294967296) (h2 : outs.length ≤ 4294967296) : ∀ (d i : Nat) (acc : List S58), l.length - i = d → i ≤ l.length → acc = (l.take i).filter (keepE ins outs) →
    Ev (fun k => tree_Filter.l1 k ins outs acc l l.length i) (l.filter (keepE ins outs), 0) := by
  intro d
  induction d with
  | zero =>
    intro i acc hd hi ha
    have e : i = l.length := by omega
    subst e
    apply Ev.step
    · intro k; rw [tree_Filter.l1]
    have c1 : ¬ ((l.length : Int) < (l.length : Int)) := by omega
    simp only [c1, ↓reduceIte]
    rw [List.take_length] at ha
    rw [ha]
    exact Ev.now _
  | succ d ih =>
    intro i acc hd hi ha
    have hlt : i < l.length := by omega
    apply Ev.step
    · intro k; rw [tree_Filter.l1]
    have c1 : ((i : Int) < (l.length : Int)) := by omega
    have c2 : (0 : Int) ≤ (i : Int) := by omega
    have hw : wrap64 ((i : Int) + 1) = ((i + 1 : Nat) : Int) := by rw [w64_ (by omega) (by omega)]; omega
    have hal : acc.length < 3518437208883 := by
      have := filter_le_ l (keepE ins outs) i
      rw [ha]; omega
    have hs := filter_snoc_ l (keepE ins outs) i hlt
    have hyes : keepE ins outs (l[i]'hlt) = true → Ev (fun k => tree_Filter.l1 k ins outs (acc ++ [l[i]'hlt]) l l.length ((i + 1 : Nat) : Int)) (l.filter (keepE ins outs), 0) := fun hk =>
      ih (i + 1) _ (by omega) (by omega) (by rw [hs, hk, ← ha]; rfl)
    have hno : keepE ins outs (l[i]'hlt) = false → Ev (fun k => tree_Filter.l1 k ins outs acc l l.length ((i + 1 : Nat) : Int)) (l.filter (keepE ins outs), 0) := fun hk =>
      ih (i + 1) _ (by omega) (by omega) (by rw [hs, hk, ← ha]; simp)
    simp only [c1, c2, ↓reduceIte, rdF_nat l i hlt, hw, hal]
    by_cases h0 : ins.length = 0
    · have h0' : (ins.length : Int) = 0 := by omega
      simp only [h0', ↓reduceIte]
      refine Ev.bind (fits_ev _ _ h2) ?_
      cases ho : oneE outs (l[i]'hlt).f0 with
      | true => exact hno (by unfold keepE; rw [ho]; simp)
      | false => exact hyes (by unfold keepE; rw [ho]; simp [h0])
    · have h0' : ¬ (ins.length : Int) = 0 := by omega
      simp only [h0', ↓reduceIte]
      refine Ev.bind (fits_ev _ _ h1) ?_
      cases hi1 : oneE ins (l[i]'hlt).f0 with
      | false => exact hno (by unfold keepE; rw [hi1]; simp [h0])
      | true =>
        simp only [↓reduceIte]
        refine Ev.bind (fits_ev _ _ h2) ?_
        cases ho : oneE outs (l[i]'hlt).f0 with
        | true => exact hno (by unfold keepE; rw [ho]; simp)
        | false => exact hyes (by unfold keepE; rw [ho, hi1]; simp)
theorem filter_l0 (l : List S58) (ins outs ps : List ByteArray) (r : List S58 × Int) (hp : ps.length ≤ 8589934592) (hr : Ev (fun k => tree_Filter.l1 k ins outs [] l l.length 0) r) :
    ∀ (d i : Nat), ps.length - i = d → i ≤ ps.length → Ev (fun k => tree_Filter.l0 k l ins outs ps ps.length i) (if patsE (ps.drop i) = 0 then r else ([], patsE (ps.drop i))) := by
  intro d
  induction d with
  | zero =>
    intro i hd hi
    have e : i = ps.length := by omega
    subst e
    apply Ev.step
    · intro k; rw [tree_Filter.l0]
    have c1 : ¬ ((ps.length : Int) < (ps.length : Int)) := by omega
    simp only [c1, ↓reduceIte]
    rw [List.drop_eq_nil_of_le (Nat.le_refl _), patsE, if_pos rfl]
    exact hr
  | succ d ih =>
    intro i hd hi
    have hlt : i < ps.length := by omega
    apply Ev.step
    · intro k; rw [tree_Filter.l0]
    have c1 : ((i : Int) < (ps.length : Int)) := by omega
    have c2 : (0 : Int) ≤ (i : Int) := by omega
    have hw : wrap64 ((i : Int) + 1) = ((i + 1 : Nat) : Int) := by rw [w64_ (by omega) (by omega)]; omega
    simp only [c1, c2, ↓reduceIte, rdOf_nat _ ps i hlt, hw]
    refine Ev.bind (pat_ev _) ?_
    rw [List.drop_eq_getElem_cons hlt, patsE]
    by_cases h : patE (ps[i]'hlt) = 0
    · simp only [h, ↓reduceIte]
      exact ih (i + 1) (by omega) (by omega)
    · simp only [h, ↓reduceIte]
      exact Ev.now _
theorem treefilter_ev (l : List S58) (ins outs : List ByteArray) (hl : l.length ≤ 4294967296) (h1 : ins.length ≤ 8) (h2 : outs.length ≤ 8) : Ev (fun k => tree_Filter.f k l ins outs) (filterE l ins outs) := by
  unfold tree_Filter.f filterE
  refine Ev.bind (check_ev l hl) ?_
  by_cases h : checkE l = 0
  · have c1 : ([] : List ByteArray).length + ins.length < 8796093022208 := by rw [List.length_nil]; omega
    have c2 : (([] : List ByteArray) ++ ins).length + outs.length < 8796093022208 := by rw [List.nil_append]; omega
    simp only [h, ↓reduceIte, Option.bind_some, c1, c2, List.nil_append]
    have c3 : ins.length + outs.length < 8796093022208 := by omega
    simp only [c3, ↓reduceIte]
    have hf := filter_l0 l ins outs (ins ++ outs) _ (by rw [List.length_append]; omega) (filter_l1 l ins outs hl (by omega) (by omega) l.length 0 [] (by omega) (by omega) rfl) (ins ++ outs).length 0 (by omega) (by omega)
    simpa using hf
  · simp only [h, ↓reduceIte]
    exact Ev.now _
end Go.Proofs.YtafjlibcdlihcaaDoor.G
end
section
namespace Go.Proofs.YtafjlibcdlihcaaDoor.G
open Go.RowKit Go.Proofs.YtafjlibcdlihcaaDoorW.PrintWords Go.Proofs.YtafjlibcdlihcaaDoorW.PrintLast Go.Proofs.YtafjlibcdlihcaaDoorW.PrintMore
attribute [local go_sem] max2_int min2_int max_two min_two max_three min_three max_four min_four   -- for this text's walks alone
set_option linter.unusedVariables false
set_option linter.unusedSimpArgs false
mutual
def barqueref09_Filter.j1 : Nat → List (S58) → List ByteArray → List ByteArray → Int → Option ((List (S58)) × Int)
  | 0, _, _, _, _ => none
  | k + 1, x0, x1, x2, x8 => barqueref09_Filter.l1 k x0 x1 x2 x8 0
def barqueref09_Filter.j3 : Nat → List (S58) → List ByteArray → List ByteArray → Int → Option ((List (S58)) × Int)
  | 0, _, _, _, _ => none
  | k + 1, x0, x1, x2, x8 => if x8 = 0 then (barqueref09_Filter.l2 k x0 x1 x2 ([] : List (S58)) 0) else (some (([] : List (S58)), x8))
def barqueref09_Filter.l2 : Nat → List (S58) → List ByteArray → List ByteArray → List (S58) → Int → Option ((List (S58)) × Int)
  | 0, _, _, _, _, _ => none
  | k + 1, x0, x1, x2, x11, x12 => if x12 < (x0.length : Int) then (if (x1.length : Int) = 0 then (if 0 ≤ x12 then ((barqueref09_one.f k x2 ((rd_T58 x0 x12).f0)).bind fun t321 => (if t321 = true then (barqueref09_Filter.l2 k x0 x1 x2 x11 (wrap64 (x12 + 1))) else (if x11.length < 3518437208883 then (barqueref09_Filter.l2 k x0 x1 x2 (x11 ++ [(⟨(rd_T58 x0 x12).f0, (rd_T58 x0 x12).f1, (rd_T58 x0 x12).f2⟩ : S58)]) (wrap64 (x12 + 1))) else (none)))) else (none)) else (if 0 ≤ x12 then ((barqueref09_one.f k x1 ((rd_T58 x0 x12).f0)).bind fun t327 => (if t327 = true then ((barqueref09_one.f k x2 ((rd_T58 x0 x12).f0)).bind fun t329 => (if t329 = true then (barqueref09_Filter.l2 k x0 x1 x2 x11 (wrap64 (x12 + 1))) else (if x11.length < 3518437208883 then (barqueref09_Filter.l2 k x0 x1 x2 (x11 ++ [(⟨(rd_T58 x0 x12).f0, (rd_T58 x0 x12).f1, (rd_T58 x0 x12).f2⟩ : S58)]) (wrap64 (x12 + 1))) else (none)))) else (barqueref09_Filter.l2 k x0 x1 x2 x11 (wrap64 (x12 + 1))))) else (none))) else (some (x11, 0))
def barqueref09_Filter.l1 : Nat → List (S58) → List ByteArray → List ByteArray → Int → Int → Option ((List (S58)) × Int)
  | 0, _, _, _, _, _ => none
  | k + 1, x0, x1, x2, x8, x10 => if x10 < (x2.length : Int) then (if x8 = 0 then (if 0 ≤ x10 then ((barqueref09_Pattern.f k (rdOf ByteArray.empty x2 x10)).bind fun t319 => (barqueref09_Filter.l1 k x0 x1 x2 t319 (wrap64 (x10 + 1)))) else (none)) else (barqueref09_Filter.j3 k x0 x1 x2 x8)) else (barqueref09_Filter.j3 k x0 x1 x2 x8)
def barqueref09_Filter.l0 : Nat → List (S58) → List ByteArray → List ByteArray → Int → Int → Option ((List (S58)) × Int)
  | 0, _, _, _, _, _ => none
  | k + 1, x0, x1, x2, x8, x9 => if x9 < (x1.length : Int) then (if x8 = 0 then (if 0 ≤ x9 then ((barqueref09_Pattern.f k (rdOf ByteArray.empty x1 x9)).bind fun t317 => (barqueref09_Filter.l0 k x0 x1 x2 t317 (wrap64 (x9 + 1)))) else (none)) else (barqueref09_Filter.j1 k x0 x1 x2 x8)) else (barqueref09_Filter.j1 k x0 x1 x2 x8)
end
def barqueref09_Filter.f (k : Nat) (l0 : List (S58)) (l1 : List ByteArray) (l2 : List ByteArray) : Option ((List (S58)) × Int) := (barqueref09_Check.f k l0).bind fun t315 => (barqueref09_Filter.l0 k l0 l1 l2 t315 0)
theorem barqueref09_Filter.mono_l : ∀ k, (∀ y0 y1 y2 y3, LeO (barqueref09_Filter.j1 k y0 y1 y2 y3) (barqueref09_Filter.j1 (k + 1) y0 y1 y2 y3)) ∧ (∀ y0 y1 y2 y3, LeO (barqueref09_Filter.j3 k y0 y1 y2 y3) (barqueref09_Filter.j3 (k + 1) y0 y1 y2 y3)) ∧ (∀ y0 y1 y2 y3 y4, LeO (barqueref09_Filter.l2 k y0 y1 y2 y3 y4) (barqueref09_Filter.l2 (k + 1) y0 y1 y2 y3 y4)) ∧ (∀ y0 y1 y2 y3 y4, LeO (barqueref09_Filter.l1 k y0 y1 y2 y3 y4) (barqueref09_Filter.l1 (k + 1) y0 y1 y2 y3 y4)) ∧ (∀ y0 y1 y2 y3 y4, LeO (barqueref09_Filter.l0 k y0 y1 y2 y3 y4) (barqueref09_Filter.l0 (k + 1) y0 y1 y2 y3 y4))
  | 0 => ⟨fun _ _ _ _ r h => by simp [barqueref09_Filter.j1] at h, fun _ _ _ _ r h => by simp [barqueref09_Filter.j3] at h, fun _ _ _ _ _ r h => by simp [barqueref09_Filter.l2] at h, fun _ _ _ _ _ r h => by simp [barqueref09_Filter.l1] at h, fun _ _ _ _ _ r h => by simp [barqueref09_Filter.l0] at h⟩
  | k + 1 => by
    obtain ⟨ih0, ih1, ih2, ih3, ih4⟩ := barqueref09_Filter.mono_l k
    refine ⟨?_, ?_, ?_, ?_, ?_⟩
    · intro y0 y1 y2 y3
      unfold barqueref09_Filter.j1
      repeat' first
      | (with_reducible exact ih0 _ _ _ _)
      | (with_reducible exact ih1 _ _ _ _)
      | (with_reducible exact ih2 _ _ _ _ _)
      | (with_reducible exact ih3 _ _ _ _ _)
      | (with_reducible exact ih4 _ _ _ _ _)
      | (with_reducible exact barqueref09_Check.mono _ _)
      | (with_reducible exact barqueref09_Pattern.mono _ _)
      | (with_reducible exact barqueref09_one.mono _ _ _)
      | (with_reducible exact LeO.refl _)
      | (with_reducible exact LeO.none _)
      | (with_reducible refine LeO.ite ?_ ?_)
      | (with_reducible refine LeO.bind ?_ (fun _ => ?_))
      | exact ih0 _ _ _ _
      | exact ih1 _ _ _ _
      | exact ih2 _ _ _ _ _
      | exact ih3 _ _ _ _ _
      | exact ih4 _ _ _ _ _
      | exact barqueref09_Check.mono _ _
      | exact barqueref09_Pattern.mono _ _
      | exact barqueref09_one.mono _ _ _
      | exact LeO.none _
      | refine LeO.ite ?_ ?_
      | refine LeO.bind ?_ (fun _ => ?_)
    · intro y0 y1 y2 y3
      unfold barqueref09_Filter.j3
      repeat' first
      | (with_reducible exact ih0 _ _ _ _)
      | (with_reducible exact ih1 _ _ _ _)
      | (with_reducible exact ih2 _ _ _ _ _)
      | (with_reducible exact ih3 _ _ _ _ _)
      | (with_reducible exact ih4 _ _ _ _ _)
      | (with_reducible exact barqueref09_Check.mono _ _)
      | (with_reducible exact barqueref09_Pattern.mono _ _)
      | (with_reducible exact barqueref09_one.mono _ _ _)
      | (with_reducible exact LeO.refl _)
      | (with_reducible exact LeO.none _)
      | (with_reducible refine LeO.ite ?_ ?_)
      | (with_reducible refine LeO.bind ?_ (fun _ => ?_))
      | exact ih0 _ _ _ _
      | exact ih1 _ _ _ _
      | exact ih2 _ _ _ _ _
      | exact ih3 _ _ _ _ _
      | exact ih4 _ _ _ _ _
      | exact barqueref09_Check.mono _ _
      | exact barqueref09_Pattern.mono _ _
      | exact barqueref09_one.mono _ _ _
      | exact LeO.none _
      | refine LeO.ite ?_ ?_
      | refine LeO.bind ?_ (fun _ => ?_)
    · intro y0 y1 y2 y3 y4
      unfold barqueref09_Filter.l2
      repeat' first
      | (with_reducible exact ih0 _ _ _ _)
      | (with_reducible exact ih1 _ _ _ _)
      | (with_reducible exact ih2 _ _ _ _ _)
      | (with_reducible exact ih3 _ _ _ _ _)
      | (with_reducible exact ih4 _ _ _ _ _)
      | (with_reducible exact barqueref09_Check.mono _ _)
      | (with_reducible exact barqueref09_Pattern.mono _ _)
      | (with_reducible exact barqueref09_one.mono _ _ _)
      | (with_reducible exact LeO.refl _)
      | (with_reducible exact LeO.none _)
      | (with_reducible refine LeO.ite ?_ ?_)
      | (with_reducible refine LeO.bind ?_ (fun _ => ?_))
      | exact ih0 _ _ _ _
      | exact ih1 _ _ _ _
      | exact ih2 _ _ _ _ _
      | exact ih3 _ _ _ _ _
      | exact ih4 _ _ _ _ _
      | exact barqueref09_Check.mono _ _
      | exact barqueref09_Pattern.mono _ _
      | exact barqueref09_one.mono _ _ _
      | exact LeO.none _
      | refine LeO.ite ?_ ?_
      | refine LeO.bind ?_ (fun _ => ?_)
    · intro y0 y1 y2 y3 y4
      unfold barqueref09_Filter.l1
      repeat' first
      | (with_reducible exact ih0 _ _ _ _)
      | (with_reducible exact ih1 _ _ _ _)
      | (with_reducible exact ih2 _ _ _ _ _)
      | (with_reducible exact ih3 _ _ _ _ _)
      | (with_reducible exact ih4 _ _ _ _ _)
      | (with_reducible exact barqueref09_Check.mono _ _)
      | (with_reducible exact barqueref09_Pattern.mono _ _)
      | (with_reducible exact barqueref09_one.mono _ _ _)
      | (with_reducible exact LeO.refl _)
      | (with_reducible exact LeO.none _)
      | (with_reducible refine LeO.ite ?_ ?_)
      | (with_reducible refine LeO.bind ?_ (fun _ => ?_))
      | exact ih0 _ _ _ _
      | exact ih1 _ _ _ _
      | exact ih2 _ _ _ _ _
      | exact ih3 _ _ _ _ _
      | exact ih4 _ _ _ _ _
      | exact barqueref09_Check.mono _ _
      | exact barqueref09_Pattern.mono _ _
      | exact barqueref09_one.mono _ _ _
      | exact LeO.none _
      | refine LeO.ite ?_ ?_
      | refine LeO.bind ?_ (fun _ => ?_)
    · intro y0 y1 y2 y3 y4
      unfold barqueref09_Filter.l0
      repeat' first
      | (with_reducible exact ih0 _ _ _ _)
      | (with_reducible exact ih1 _ _ _ _)
      | (with_reducible exact ih2 _ _ _ _ _)
      | (with_reducible exact ih3 _ _ _ _ _)
      | (with_reducible exact ih4 _ _ _ _ _)
      | (with_reducible exact barqueref09_Check.mono _ _)
      | (with_reducible exact barqueref09_Pattern.mono _ _)
      | (with_reducible exact barqueref09_one.mono _ _ _)
      | (with_reducible exact LeO.refl _)
      | (with_reducible exact LeO.none _)
      | (with_reducible refine LeO.ite ?_ ?_)
      | (with_reducible refine LeO.bind ?_ (fun _ => ?_))
      | exact ih0 _ _ _ _
      | exact ih1 _ _ _ _
      | exact ih2 _ _ _ _ _
      | exact ih3 _ _ _ _ _
      | exact ih4 _ _ _ _ _
      | exact barqueref09_Check.mono _ _
      | exact barqueref09_Pattern.mono _ _
      | exact barqueref09_one.mono _ _ _
      | exact LeO.none _
      | refine LeO.ite ?_ ?_
      | refine LeO.bind ?_ (fun _ => ?_)
theorem barqueref09_Filter.mono : ∀ a0 a1 a2 k, LeO (barqueref09_Filter.f k a0 a1 a2) (barqueref09_Filter.f (k + 1) a0 a1 a2) := by
  intro a0 a1 a2 k
  obtain ⟨ih0, ih1, ih2, ih3, ih4⟩ := barqueref09_Filter.mono_l k
  unfold barqueref09_Filter.f
  repeat' first
      | (with_reducible exact ih0 _ _ _ _)
      | (with_reducible exact ih1 _ _ _ _)
      | (with_reducible exact ih2 _ _ _ _ _)
      | (with_reducible exact ih3 _ _ _ _ _)
      | (with_reducible exact ih4 _ _ _ _ _)
      | (with_reducible exact barqueref09_Check.mono _ _)
      | (with_reducible exact barqueref09_Pattern.mono _ _)
      | (with_reducible exact barqueref09_one.mono _ _ _)
      | (with_reducible exact LeO.refl _)
      | (with_reducible exact LeO.none _)
      | (with_reducible refine LeO.ite ?_ ?_)
      | (with_reducible refine LeO.bind ?_ (fun _ => ?_))
      | exact ih0 _ _ _ _
      | exact ih1 _ _ _ _
      | exact ih2 _ _ _ _ _
      | exact ih3 _ _ _ _ _
      | exact ih4 _ _ _ _ _
      | exact barqueref09_Check.mono _ _
      | exact barqueref09_Pattern.mono _ _
      | exact barqueref09_one.mono _ _ _
      | exact LeO.none _
      | refine LeO.ite ?_ ?_
      | refine LeO.bind ?_ (fun _ => ?_)
set_option maxHeartbeats 8000000 in
set_option maxRecDepth 100000 in
theorem barqueref09_Filter.calls (k : Nat) (A0 : Option Addr) (c0 : Nat) (l0 : List (S58)) (A1 : Option Addr) (c1 : Nat) (l1 : List ByteArray) (A2 : Option Addr) (c2 : Nat) (l2 : List ByteArray) (r1 : List (S58)) (r2 : Int) (w : World) (hr0 : Kd.C k58 w A0 l0.length l0) (hc0 : l0.length ≤ c0) (hr1 : Kd.C Kd.string w A1 l1.length l1) (hc1 : l1.length ≤ c1) (hr2 : Kd.C Kd.string w A2 l2.length l2) (hc2 : l2.length ≤ c2) (h : barqueref09_Filter.f k l0 l1 l2 = some (r1, r2)) :
    Calls Tryd.prog 27 #[.slice A0 l0.length c0, .slice A1 l1.length c1, .slice A2 l2.length c2] w fun e w' => ∃ v0_ : Value, e = .returned (.tuple #[v0_, .int .i64 r2]) ∧ Kd.R k58 58 w' w.heap.size (fun _ => True) v0_ r1 ∧ Below w.heap.size w w' := by
  have hu58 := Tryd.underlying58
  have HR0 := Aside0.mk hr0
  have HC0 := Aside0.mk hc0
  clear hr0 hc0
  have HR1 := Aside0.mk hr1
  have HC1 := Aside0.mk hc1
  clear hr1 hc1
  have HR2 := Aside0.mk hr2
  have HC2 := Aside0.mk hc2
  clear hr2 hc2
  have HB := Aside0.mk (Below.refl w.heap.size w)
  have H : ((barqueref09_Check.f k l0).bind fun t315 => (barqueref09_Filter.l0 k l0 l1 l2 t315 0)) = some (r1, r2) := h
  clear h
  replace H := Option.bind_eq_some_iff.mp H
  obtain ⟨t315, A40, H⟩ := H
  replace H : (barqueref09_Filter.l0 k l0 l1 l2 t315 0) = some (r1, r2) := H
  have A4 := Aside0.mk A40
  clear A40
  have HC5 := Aside0.mk H
  clear H
  go_enter Tryd.func27, Tryd.ntmps27
  go_upto_block 0 with (first | ((with_reducible refine gate_callee (f := 20) rfl ?_); refine goesL_ (some 14) rfl rfl Tryd.func20 (by kernel_rfl) rfl #[.slice A0 l0.length c0] rfl (by (try simp only [List.map_toArray, List.map_cons, List.map_nil]); first | done | rfl | (simp only [List.length_drop, List.length_take]; rfl)) ?_; (with_reducible refine (barqueref09_Check.calls k _ _ l0 t315 _ ?side1 ?side2 A4.out).mono ?_); (case side1 => repeat (first | exact HR0.out | (with_reducible refine Kd.C_alloc ?_ _) | (with_reducible refine Kd.C_drewN ?_ _) | (with_reducible refine Kd.C_drew ?_))); (case side2 => exact HC0.out); rintro e w6 ⟨rfl, hb⟩; refine ⟨_, rfl, ?_⟩; have n0_ := Aside0.mk (below_step (by repeat (first | (with_reducible first | exact HB.out | apply below_alloc | apply pw_below_drewN | apply below_drew1) | exact HB.out)) hb); clear HB; have HB := n0_; clear n0_; (try clear hb); (try clear hb2); (try clear hk); (try clear hi)))
  (try simp only [Act.put, List.setIfInBounds_toArray, List.set_cons_zero, List.set_cons_succ])
  go_cut [8] (fun v8 wc => ∃ (kq : Nat) (x8_4 : Int), v8 = .int .i64 x8_4 ∧ Aside0 (barqueref09_Filter.j1 kq l0 l1 l2 x8_4 = some (r1, r2)) ∧ Aside0 (kq ≤ k) ∧ Aside0 (Below w.heap.size w wc))
  case first =>
    have H := HC5.out
    clear HC5
    have H' := Aside0.mk H
    clear H
    go_wp2
    go_loopg [8, 9] k (fun kq v8 v9 w' => ∃ (x8_1 : Int) (x9_1 : Int), v8 = .int .i64 x8_1 ∧ v9 = .int .i64 x9_1 ∧ Aside0 (barqueref09_Filter.l0 kq l0 l1 l2 x8_1 x9_1 = some (r1, r2)) ∧ Aside0 (kq ≤ k) ∧ Aside0 (Below w.heap.size w w'))
    case atStart => exact ⟨(t315), (0), (by first | rfl | (simp; done) | (simp [*]; done)), (by first | rfl | (simp; done) | (simp [*]; done)), H', ⟨Nat.le_refl _⟩, ⟨by repeat (first | (with_reducible first | exact HB.out | apply below_alloc | apply pw_below_drewN | apply below_drew1) | exact HB.out)⟩⟩
    case round =>
      clear H'
      try clear c1
      try clear c2
      try clear p2
      obtain ⟨x8_1, x9_1, rfl, rfl, HA, HK1, HB⟩ := hrel
      cases gk with
      | zero => exact absurd HA.out (by simp [barqueref09_Filter.l0])
      | succ k1 =>
        have H := HA.out
        clear HA
        simp only [barqueref09_Filter.l0] at H
        by_cases c7 : x9_1 < (l1.length : Int)
        · rw [if_pos c7] at H
          have c7b0 : decide (x9_1 < (l1.length : Int)) = true := decide_eq_true c7
          clear c7
          (first | rw [c7b0] | (simp only [i64_w, i32_w]; rw [c7b0]) | skip)
          by_cases c8 : x8_1 = 0
          · rw [if_pos c8] at H
            have c8b0 : (x8_1 == 0) = true := beq_iff_eq.mpr c8
            have c8b1 : (x8_1 != 0) = false := bne_eq_false_iff_eq.mpr c8
            clear c8
            by_cases c9 : 0 ≤ x9_1
            · rw [if_pos c9] at H
              have c9b0 : decide (0 ≤ x9_1) = true := decide_eq_true c9
              clear c9
              replace H := Option.bind_eq_some_iff.mp H
              obtain ⟨t317, A100, H⟩ := H
              replace H : (barqueref09_Filter.l0 k1 l0 l1 l2 t317 (wrap64 (x9_1 + 1))) = some (r1, r2) := H
              have A10 := Aside0.mk A100
              clear A100
              have H' := Aside0.mk H
              clear H
              have p316 : 0 ≤ (x9_1 : Int) := of_decide_eq_true (by first | (with_reducible assumption) | assumption)
              have q316 : x9_1 < (l1.length : Int) := of_decide_eq_true (by first | (with_reducible assumption) | assumption)
              obtain ⟨ad316, e316, hx316_0⟩ := Kd.at_string HR1.out x9_1 p316 q316
              cases e316
              replace hx316_0 := (HB.out.cell (World.block_lt_of_cell? w _ hx316_0)).trans hx316_0
              replace p316 := eq_true p316
              replace q316 := eq_true q316
              go_wp2_with (first | ((with_reducible refine gate_callee (f := 22) rfl ?_); refine goesL_ (some 29) rfl rfl Tryd.func22 (by kernel_rfl) rfl #[.string (rdOf ByteArray.empty l1 x9_1)] rfl (by (try simp only [List.map_toArray, List.map_cons, List.map_nil]); first | done | rfl | (simp only [List.length_drop, List.length_take]; rfl)) ?_; (with_reducible refine (barqueref09_Pattern.calls k1 (rdOf ByteArray.empty l1 x9_1) t317 _ A10.out).mono ?_); rintro e w11 ⟨rfl, hb⟩; refine ⟨_, rfl, ?_⟩; have n0_ := Aside0.mk (below_step (by repeat (first | (with_reducible first | exact HB.out | apply below_alloc | apply pw_below_drewN | apply below_drew1) | exact HB.out)) hb); clear HB; have HB := n0_; clear n0_; (try clear hb); (try clear hb2); (try clear hk); (try clear hi)))
              go_roundg k1
              case measure => have := HK1.out; omega
              case rel => exact ⟨(t317), (wrap64 (x9_1 + 1)), (by first | rfl | (simp; done) | (simp [*]; done)), (by first | rfl | (simp; done) | (simp [*]; done)), H', ⟨by have := HK1.out; omega⟩, ⟨by repeat (first | (with_reducible first | exact HB.out | apply below_alloc | apply pw_below_drewN | apply below_drew1) | exact HB.out)⟩⟩
            · rw [if_neg c9] at H
              exact absurd H (by simp)
          · rw [if_neg c8] at H
            have c8b0 : (x8_1 == 0) = false := beq_eq_false_iff_ne.mpr c8
            have c8b1 : (x8_1 != 0) = true := bne_iff_ne.mpr c8
            have H' := Aside0.mk H
            clear H
            go_wp2
            go_meet
            case rel => exact ⟨_, (x8_1), (by first | rfl | (simp; done) | (simp [*]; done)), H', ⟨by have := HK1.out; first | omega | exact Nat.le_refl _⟩, ⟨by repeat (first | (with_reducible first | exact HB.out | apply below_alloc | apply pw_below_drewN | apply below_drew1) | exact HB.out)⟩⟩
        · rw [if_neg c7] at H
          have c7b0 : decide (x9_1 < (l1.length : Int)) = false := decide_eq_false c7
          clear c7
          (first | rw [c7b0] | (simp only [i64_w, i32_w]; rw [c7b0]) | skip)
          have H' := Aside0.mk H
          clear H
          go_wp2
          go_meet
          case rel => exact ⟨_, (x8_1), (by first | rfl | (simp; done) | (simp [*]; done)), H', ⟨by have := HK1.out; first | omega | exact Nat.le_refl _⟩, ⟨by repeat (first | (with_reducible first | exact HB.out | apply below_alloc | apply pw_below_drewN | apply below_drew1) | exact HB.out)⟩⟩
  case rest =>
    clear HC5
    try clear c1
    try clear c2
    try clear p2
    try clear p3
    try clear q3
    try clear hx3
    try clear p6
    try clear c7
    try clear c7b0
    try clear c8
    try clear c8b0
    try clear c8b1
    try clear c9
    try clear c9b0
    try clear hx316_0
    try clear p2
    try clear p316
    try clear q316
    obtain ⟨kq, x8_4, rfl, HA, HJ4, HB⟩ := hcut
    cases kq with
    | zero => exact absurd HA.out (by simp [barqueref09_Filter.j1])
    | succ kj4 =>
      have H := HA.out
      clear HA
      simp only [barqueref09_Filter.j1] at H
      have HC12 := Aside0.mk H
      clear H
      go_upto_block 2 with (fail)
      go_cut [8] (fun v8 wc => ∃ (kq : Nat) (x8_11 : Int), v8 = .int .i64 x8_11 ∧ Aside0 (barqueref09_Filter.j3 kq l0 l1 l2 x8_11 = some (r1, r2)) ∧ Aside0 (kq ≤ kj4) ∧ Aside0 (Below w.heap.size w wc))
      case first =>
        have H := HC12.out
        clear HC12
        have H' := Aside0.mk H
        clear H
        go_wp2
        go_loopg [8, 10] kj4 (fun kq v8 v10 w' => ∃ (x8_2 : Int) (x10_2 : Int), v8 = .int .i64 x8_2 ∧ v10 = .int .i64 x10_2 ∧ Aside0 (barqueref09_Filter.l1 kq l0 l1 l2 x8_2 x10_2 = some (r1, r2)) ∧ Aside0 (kq ≤ kj4) ∧ Aside0 (Below w.heap.size w w'))
        case atStart => exact ⟨(x8_4), (0), (by first | rfl | (simp; done) | (simp [*]; done)), (by first | rfl | (simp; done) | (simp [*]; done)), H', ⟨Nat.le_refl _⟩, ⟨by repeat (first | (with_reducible first | exact HB.out | apply below_alloc | apply pw_below_drewN | apply below_drew1) | exact HB.out)⟩⟩
        case round =>
          clear H'
          try clear c1
          try clear c2
          try clear p2
          try clear p3
          try clear q3
          try clear hx3
          try clear p6
          try clear c7
          try clear c7b0
          try clear c8
          try clear c8b0
          try clear c8b1
          try clear c9
          try clear c9b0
          try clear hx316_0
          try clear p2
          try clear p3
          try clear p316
          try clear p6
          try clear q3
          try clear q316
          obtain ⟨x8_2, x10_2, rfl, rfl, HA, HK2, HB⟩ := hrel
          cases gk with
          | zero => exact absurd HA.out (by simp [barqueref09_Filter.l1])
          | succ k2 =>
            have H := HA.out
            clear HA
            simp only [barqueref09_Filter.l1] at H
            by_cases c13 : x10_2 < (l2.length : Int)
            · rw [if_pos c13] at H
              have c13b0 : decide (x10_2 < (l2.length : Int)) = true := decide_eq_true c13
              clear c13
              (first | rw [c13b0] | (simp only [i64_w, i32_w]; rw [c13b0]) | skip)
              by_cases c14 : x8_2 = 0
              · rw [if_pos c14] at H
                have c14b0 : (x8_2 == 0) = true := beq_iff_eq.mpr c14
                have c14b1 : (x8_2 != 0) = false := bne_eq_false_iff_eq.mpr c14
                clear c14
                by_cases c15 : 0 ≤ x10_2
                · rw [if_pos c15] at H
                  have c15b0 : decide (0 ≤ x10_2) = true := decide_eq_true c15
                  clear c15
                  replace H := Option.bind_eq_some_iff.mp H
                  obtain ⟨t319, A160, H⟩ := H
                  replace H : (barqueref09_Filter.l1 k2 l0 l1 l2 t319 (wrap64 (x10_2 + 1))) = some (r1, r2) := H
                  have A16 := Aside0.mk A160
                  clear A160
                  have H' := Aside0.mk H
                  clear H
                  have p318 : 0 ≤ (x10_2 : Int) := of_decide_eq_true (by first | (with_reducible assumption) | assumption)
                  have q318 : x10_2 < (l2.length : Int) := of_decide_eq_true (by first | (with_reducible assumption) | assumption)
                  obtain ⟨ad318, e318, hx318_0⟩ := Kd.at_string HR2.out x10_2 p318 q318
                  cases e318
                  replace hx318_0 := (HB.out.cell (World.block_lt_of_cell? w _ hx318_0)).trans hx318_0
                  replace p318 := eq_true p318
                  replace q318 := eq_true q318
                  go_wp2_with (first | ((with_reducible refine gate_callee (f := 22) rfl ?_); refine goesL_ (some 44) rfl rfl Tryd.func22 (by kernel_rfl) rfl #[.string (rdOf ByteArray.empty l2 x10_2)] rfl (by (try simp only [List.map_toArray, List.map_cons, List.map_nil]); first | done | rfl | (simp only [List.length_drop, List.length_take]; rfl)) ?_; (with_reducible refine (barqueref09_Pattern.calls k2 (rdOf ByteArray.empty l2 x10_2) t319 _ A16.out).mono ?_); rintro e w17 ⟨rfl, hb⟩; refine ⟨_, rfl, ?_⟩; have n0_ := Aside0.mk (below_step (by repeat (first | (with_reducible first | exact HB.out | apply below_alloc | apply pw_below_drewN | apply below_drew1) | exact HB.out)) hb); clear HB; have HB := n0_; clear n0_; (try clear hb); (try clear hb2); (try clear hk); (try clear hi)))
                  go_roundg k2
                  case measure => have := HJ4.out; have := HK2.out; omega
                  case rel => exact ⟨(t319), (wrap64 (x10_2 + 1)), (by first | rfl | (simp; done) | (simp [*]; done)), (by first | rfl | (simp; done) | (simp [*]; done)), H', ⟨by have := HJ4.out; have := HK2.out; omega⟩, ⟨by repeat (first | (with_reducible first | exact HB.out | apply below_alloc | apply pw_below_drewN | apply below_drew1) | exact HB.out)⟩⟩
                · rw [if_neg c15] at H
                  exact absurd H (by simp)
              · rw [if_neg c14] at H
                have c14b0 : (x8_2 == 0) = false := beq_eq_false_iff_ne.mpr c14
                have c14b1 : (x8_2 != 0) = true := bne_iff_ne.mpr c14
                have H' := Aside0.mk H
                clear H
                go_wp2
                go_meet
                case rel => exact ⟨_, (x8_2), (by first | rfl | (simp; done) | (simp [*]; done)), H', ⟨by have := HJ4.out; have := HK2.out; first | omega | exact Nat.le_refl _⟩, ⟨by repeat (first | (with_reducible first | exact HB.out | apply below_alloc | apply pw_below_drewN | apply below_drew1) | exact HB.out)⟩⟩
            · rw [if_neg c13] at H
              have c13b0 : decide (x10_2 < (l2.length : Int)) = false := decide_eq_false c13
              clear c13
              (first | rw [c13b0] | (simp only [i64_w, i32_w]; rw [c13b0]) | skip)
              have H' := Aside0.mk H
              clear H
              go_wp2
              go_meet
              case rel => exact ⟨_, (x8_2), (by first | rfl | (simp; done) | (simp [*]; done)), H', ⟨by have := HJ4.out; have := HK2.out; first | omega | exact Nat.le_refl _⟩, ⟨by repeat (first | (with_reducible first | exact HB.out | apply below_alloc | apply pw_below_drewN | apply below_drew1) | exact HB.out)⟩⟩
      case rest =>
        clear HC12
        try clear c1
        try clear c2
        try clear p2
        try clear p3
        try clear q3
        try clear hx3
        try clear p6
        try clear c7
        try clear c7b0
        try clear c8
        try clear c8b0
        try clear c8b1
        try clear c9
        try clear c9b0
        try clear c13
        try clear c13b0
        try clear c14
        try clear c14b0
        try clear c14b1
        try clear c15
        try clear c15b0
        try clear hx316_0
        try clear hx318_0
        try clear p2
        try clear p3
        try clear p316
        try clear p318
        try clear p6
        try clear q3
        try clear q316
        try clear q318
        obtain ⟨kq, x8_11, rfl, HA, HJ11, HB⟩ := hcut
        cases kq with
        | zero => exact absurd HA.out (by simp [barqueref09_Filter.j3])
        | succ kj11 =>
          have H := HA.out
          clear HA
          simp only [barqueref09_Filter.j3] at H
          by_cases c18 : x8_11 = 0
          · rw [if_pos c18] at H
            have c18b0 : (x8_11 == 0) = true := beq_iff_eq.mpr c18
            have c18b1 : (x8_11 != 0) = false := bne_eq_false_iff_eq.mpr c18
            clear c18
            have H' := Aside0.mk H
            clear H
            go_wp2
            go_loopg [11, 12] kj11 (fun kq v11 v12 w' => ∃ (x11_3 : List (S58)) (x12_3 : Int), v12 = .int .i64 x12_3 ∧ Aside0 (barqueref09_Filter.l2 kq l0 l1 l2 x11_3 x12_3 = some (r1, r2)) ∧ Aside0 (kq ≤ kj11) ∧ Aside0 (Kd.R k58 58 w' w.heap.size (fun _ => True) v11 x11_3) ∧ Aside0 (Below w.heap.size w w'))
            case atStart => exact ⟨(([] : List (S58))), (0), (by first | rfl | (simp; done) | (simp [*]; done)), H', ⟨Nat.le_refl _⟩, ⟨by first | exact Kd.R_nil _ _ _ _ _ | exact Kd.N_nil _ _ _ _ _ | exact Kd.V_nil _ _ _ _ _ | exact Kd.Q_nil _ _ _ _ _ | exact Kd.S_nil _ _ _ _ _⟩, ⟨by repeat (first | (with_reducible first | exact HB.out | apply below_alloc | apply pw_below_drewN | apply below_drew1) | exact HB.out)⟩⟩
            case round =>
              clear H'
              try clear c1
              try clear c2
              try clear p2
              try clear p3
              try clear q3
              try clear hx3
              try clear p6
              try clear c7
              try clear c7b0
              try clear c8
              try clear c8b0
              try clear c8b1
              try clear c9
              try clear c9b0
              try clear c13
              try clear c13b0
              try clear c14
              try clear c14b0
              try clear c14b1
              try clear c15
              try clear c15b0
              try clear c18
              try clear c18b0
              try clear c18b1
              try clear hx316_0
              try clear hx318_0
              try clear p2
              try clear p3
              try clear p316
              try clear p318
              try clear p6
              try clear q3
              try clear q316
              try clear q318
              obtain ⟨x11_3, x12_3, rfl, HA, HK3, HO_11, HB⟩ := hrel
              cases gk with
              | zero => exact absurd HA.out (by simp [barqueref09_Filter.l2])
              | succ k3 =>
                have H := HA.out
                clear HA
                simp only [barqueref09_Filter.l2] at H
                by_cases c19 : x12_3 < (l0.length : Int)
                · rw [if_pos c19] at H
                  have c19b0 : decide (x12_3 < (l0.length : Int)) = true := decide_eq_true c19
                  clear c19
                  by_cases c20 : (l1.length : Int) = 0
                  · rw [if_pos c20] at H
                    have c20b0 : ((l1.length : Int) == 0) = true := beq_iff_eq.mpr c20
                    have c20b1 : ((l1.length : Int) != 0) = false := bne_eq_false_iff_eq.mpr c20
                    clear c20
                    by_cases c21 : 0 ≤ x12_3
                    · rw [if_pos c21] at H
                      have c21b0 : decide (0 ≤ x12_3) = true := decide_eq_true c21
                      clear c21
                      replace H := Option.bind_eq_some_iff.mp H
                      obtain ⟨t321, A220, H⟩ := H
                      replace H : (if t321 = true then (barqueref09_Filter.l2 k3 l0 l1 l2 x11_3 (wrap64 (x12_3 + 1))) else (if x11_3.length < 3518437208883 then (barqueref09_Filter.l2 k3 l0 l1 l2 (x11_3 ++ [(⟨(rd_T58 l0 x12_3).f0, (rd_T58 l0 x12_3).f1, (rd_T58 l0 x12_3).f2⟩ : S58)]) (wrap64 (x12_3 + 1))) else (none))) = some (r1, r2) := H
                      have A22 := Aside0.mk A220
                      clear A220
                      by_cases c23 : t321 = true
                      · subst c23
                        have H1 : (barqueref09_Filter.l2 k3 l0 l1 l2 x11_3 (wrap64 (x12_3 + 1))) = some (r1, r2) := by rw [if_pos rfl] at H; exact H
                        clear H
                        have H := H1
                        clear H1
                        have H' := Aside0.mk H
                        clear H
                        have p320 : 0 ≤ (x12_3 : Int) := of_decide_eq_true (by first | (with_reducible assumption) | assumption)
                        have q320 : x12_3 < (l0.length : Int) := of_decide_eq_true (by first | (with_reducible assumption) | assumption)
                        obtain ⟨ad320, e320, hx320_0, hx320_1, hx320_2⟩ := at_T58 HR0.out x12_3 p320 q320
                        cases e320
                        replace hx320_0 := (HB.out.cell (World.block_lt_of_cell? w _ hx320_0)).trans hx320_0
                        replace hx320_1 := (HB.out.cell (World.block_lt_of_cell? w _ hx320_1)).trans hx320_1
                        replace hx320_2 := (HB.out.cell (World.block_lt_of_cell? w _ hx320_2)).trans hx320_2
                        replace p320 := eq_true p320
                        replace q320 := eq_true q320
                        go_wp2_with (first | (go_at_call 55; (with_reducible refine (barqueref09_one.calls k3 _ _ l2 ((rd_T58 l0 x12_3).f0) true _ ?side1 ?side2 A22.out).mono ?_); (case side1 => repeat (first | exact (Kd.C_below HR2.out HB.out) | (with_reducible refine Kd.C_alloc ?_ _) | (with_reducible refine Kd.C_drewN ?_ _) | (with_reducible refine Kd.C_drew ?_))); (case side2 => exact HC2.out); rintro e w24 ⟨rfl, hb⟩; have n0_ := Aside0.mk (Kd.R_below (by (with_reducible repeat (first | apply Kd.R_alloc | apply Kd.R_drewN | apply Kd.R_drew)); exact HO_11.out) hb); have n1_ := Aside0.mk (below_step (by repeat (first | (with_reducible first | exact HB.out | apply below_alloc | apply pw_below_drewN | apply below_drew1) | exact HB.out)) hb); clear HO_11; clear HB; have HO_11 := n0_; have HB := n1_; clear n0_ n1_; (try clear hb); (try clear hb2); (try clear hk); (try clear hi)))
                        go_roundg k3
                        case measure => have := HJ4.out; have := HJ11.out; have := HK3.out; omega
                        case rel => exact ⟨(x11_3), (wrap64 (x12_3 + 1)), (by first | rfl | (simp; done) | (simp [*]; done)), H', ⟨by have := HJ4.out; have := HJ11.out; have := HK3.out; omega⟩, ⟨by (with_reducible repeat (first | apply Kd.R_alloc | apply Kd.R_drewN | apply Kd.R_drew)); exact HO_11.out⟩, ⟨by repeat (first | (with_reducible first | exact HB.out | apply below_alloc | apply pw_below_drewN | apply below_drew1) | exact HB.out)⟩⟩
                      · replace c23 := Bool.eq_false_iff.mpr c23
                        subst c23
                        have H1 : (if x11_3.length < 3518437208883 then (barqueref09_Filter.l2 k3 l0 l1 l2 (x11_3 ++ [(⟨(rd_T58 l0 x12_3).f0, (rd_T58 l0 x12_3).f1, (rd_T58 l0 x12_3).f2⟩ : S58)]) (wrap64 (x12_3 + 1))) else (none)) = some (r1, r2) := by rw [if_neg (show ¬ (false = true) by decide)] at H; exact H
                        clear H
                        have H := H1
                        clear H1
                        by_cases c25 : x11_3.length < 3518437208883
                        · rw [if_pos c25] at H
                          have LMc25 := Aside0.mk c25
                          clear c25
                          obtain ⟨y323, hy323⟩ : ∃ y_ : List (S58), y_ = (x11_3 ++ [(⟨(rd_T58 l0 x12_3).f0, (rd_T58 l0 x12_3).f1, (rd_T58 l0 x12_3).f2⟩ : S58)]) := ⟨_, rfl⟩
                          replace H : (barqueref09_Filter.l2 k3 l0 l1 l2 y323 (wrap64 (x12_3 + 1))) = some (r1, r2) := by first | (rw [hy323]; with_reducible exact H) | (have H2_ := (Option.bind_some _ _).symm.trans H; rw [hy323]; with_reducible exact H2_) | (have H2_ := (Option.bind_some _ _).symm.trans H; with_reducible exact H2_) | with_reducible exact H | (rw [hy323]; exact H) | exact H
                          have Ny323 := Aside0.mk hy323
                          clear hy323
                          have H' := Aside0.mk H
                          clear H
                          have p320 : 0 ≤ (x12_3 : Int) := of_decide_eq_true (by first | (with_reducible assumption) | assumption)
                          have q320 : x12_3 < (l0.length : Int) := of_decide_eq_true (by first | (with_reducible assumption) | assumption)
                          obtain ⟨ad320, e320, hx320_0, hx320_1, hx320_2⟩ := at_T58 HR0.out x12_3 p320 q320
                          cases e320
                          replace hx320_0 := (HB.out.cell (World.block_lt_of_cell? w _ hx320_0)).trans hx320_0
                          replace hx320_1 := (HB.out.cell (World.block_lt_of_cell? w _ hx320_1)).trans hx320_1
                          replace hx320_2 := (HB.out.cell (World.block_lt_of_cell? w _ hx320_2)).trans hx320_2
                          replace p320 := eq_true p320
                          replace q320 := eq_true q320
                          go_wp2_with (first | (go_at_call 55; (with_reducible refine (barqueref09_one.calls k3 _ _ l2 ((rd_T58 l0 x12_3).f0) false _ ?side1 ?side2 A22.out).mono ?_); (case side1 => repeat (first | exact (Kd.C_below HR2.out HB.out) | (with_reducible refine Kd.C_alloc ?_ _) | (with_reducible refine Kd.C_drewN ?_ _) | (with_reducible refine Kd.C_drew ?_))); (case side2 => exact HC2.out); rintro e w26 ⟨rfl, hb⟩; have n0_ := Aside0.mk (Kd.R_below (by (with_reducible repeat (first | apply Kd.R_alloc | apply Kd.R_drewN | apply Kd.R_drew)); exact HO_11.out) hb); have n1_ := Aside0.mk (below_step (by repeat (first | (with_reducible first | exact HB.out | apply below_alloc | apply pw_below_drewN | apply below_drew1) | exact HB.out)) hb); clear HO_11; clear HB; have HO_11 := n0_; have HB := n1_; clear n0_ n1_; (try clear hb); (try clear hb2); (try clear hk); (try clear hi); have p322 : 0 ≤ (x12_3 : Int) := of_decide_eq_true (by first | (with_reducible assumption) | assumption); have q322 : x12_3 < (l0.length : Int) := of_decide_eq_true (by first | (with_reducible assumption) | assumption); obtain ⟨ad322, e322, hx322_0, hx322_1, hx322_2⟩ := at_T58 HR0.out x12_3 p322 q322; obtain rfl : ad320 = ad322 := (by injection e322); replace hx322_0 := (HB.out.cell (World.block_lt_of_cell? w _ hx322_0)).trans hx322_0; replace hx322_1 := (HB.out.cell (World.block_lt_of_cell? w _ hx322_1)).trans hx322_1; replace hx322_2 := (HB.out.cell (World.block_lt_of_cell? w _ hx322_2)).trans hx322_2; replace p322 := eq_true p322; replace q322 := eq_true q322) | ((with_reducible refine gate_builtin (b := .append) (xs := #[.tmp 76, .tmp 81]) rfl ?_); at_builtin; refine Kd.R_append k58 (w0 := w) w.heap.size rfl (.tmp 76) (.tmp 81) 29 58 (.agg #[(.string ⟨#[]⟩), (.int .i64 0), (.string ⟨#[]⟩)]) 40 rfl Tryd.underlying29 info58 rfl (by decide) (by omega) u11 x11_3 (⟨(rd_T58 l0 x12_3).f0, (rd_T58 l0 x12_3).f1, (rd_T58 l0 x12_3).f2⟩ : S58) [.string ((rd_T58 l0 x12_3).f0), .int .i64 ((rd_T58 l0 x12_3).f1), .string ((rd_T58 l0 x12_3).f2)] (fun _ => True) (fun _ => False) rfl rfl ?aP (fun _ hk => hk.elim) ?aF ?aO ?aB ?aS ?aL ?_; (case aP => exact k58_mkM _ _ _ (⟨(rd_T58 l0 x12_3).f0, (rd_T58 l0 x12_3).f1, (rd_T58 l0 x12_3).f2⟩ : S58)); (case aB => exact (by repeat (first | (with_reducible first | exact HB.out | apply below_alloc | apply pw_below_drewN | apply below_drew1) | exact HB.out))); (case aF => exact (fun _ _ => trivial)); (case aO => exact (by (with_reducible repeat (first | apply Kd.R_alloc | apply Kd.R_drewN | apply Kd.R_drew)); exact HO_11.out)); (case aS => exact (below_size (by repeat (first | (with_reducible first | exact HB.out | apply below_alloc | apply pw_below_drewN | apply below_drew1) | exact HB.out)))); (case aL => have := LMc25.out; omega); intro v324 w27 ho hb hg hat; rw [← Ny323.out] at ho; have n0_ := Aside0.mk (hb); have n1_ := Aside0.mk (ho); clear HB; clear HO_11; have HB := n0_; have HO325 := n1_; clear n0_ n1_; clear ho hb hg hat))
                          go_roundg k3
                          case measure => have := HJ4.out; have := HJ11.out; have := HK3.out; omega
                          case rel => exact ⟨(y323), (wrap64 (x12_3 + 1)), (by first | rfl | (simp; done) | (simp [*]; done)), H', ⟨by have := HJ4.out; have := HJ11.out; have := HK3.out; omega⟩, ⟨by (with_reducible repeat (first | apply Kd.R_alloc | apply Kd.R_drewN | apply Kd.R_drew)); exact HO325.out⟩, ⟨by repeat (first | (with_reducible first | exact HB.out | apply below_alloc | apply pw_below_drewN | apply below_drew1) | exact HB.out)⟩⟩
                        · rw [if_neg c25] at H
                          exact absurd H (by simp)
                    · rw [if_neg c21] at H
                      exact absurd H (by simp)
                  · rw [if_neg c20] at H
                    have c20b0 : ((l1.length : Int) == 0) = false := beq_eq_false_iff_ne.mpr c20
                    have c20b1 : ((l1.length : Int) != 0) = true := bne_iff_ne.mpr c20
                    have c20b2 : ¬ (l1 = []) := fun h_ => c20 (by rw [h_]; rfl)
                    by_cases c28 : 0 ≤ x12_3
                    · rw [if_pos c28] at H
                      have c28b0 : decide (0 ≤ x12_3) = true := decide_eq_true c28
                      clear c28
                      replace H := Option.bind_eq_some_iff.mp H
                      obtain ⟨t327, A290, H⟩ := H
                      replace H : (if t327 = true then ((barqueref09_one.f k3 l2 ((rd_T58 l0 x12_3).f0)).bind fun t329 => (if t329 = true then (barqueref09_Filter.l2 k3 l0 l1 l2 x11_3 (wrap64 (x12_3 + 1))) else (if x11_3.length < 3518437208883 then (barqueref09_Filter.l2 k3 l0 l1 l2 (x11_3 ++ [(⟨(rd_T58 l0 x12_3).f0, (rd_T58 l0 x12_3).f1, (rd_T58 l0 x12_3).f2⟩ : S58)]) (wrap64 (x12_3 + 1))) else (none)))) else (barqueref09_Filter.l2 k3 l0 l1 l2 x11_3 (wrap64 (x12_3 + 1)))) = some (r1, r2) := H
                      have A29 := Aside0.mk A290
                      clear A290
                      by_cases c30 : t327 = true
                      · subst c30
                        have H1 : ((barqueref09_one.f k3 l2 ((rd_T58 l0 x12_3).f0)).bind fun t329 => (if t329 = true then (barqueref09_Filter.l2 k3 l0 l1 l2 x11_3 (wrap64 (x12_3 + 1))) else (if x11_3.length < 3518437208883 then (barqueref09_Filter.l2 k3 l0 l1 l2 (x11_3 ++ [(⟨(rd_T58 l0 x12_3).f0, (rd_T58 l0 x12_3).f1, (rd_T58 l0 x12_3).f2⟩ : S58)]) (wrap64 (x12_3 + 1))) else (none)))) = some (r1, r2) := by rw [if_pos rfl] at H; exact H
                        clear H
                        have H := H1
                        clear H1
                        replace H := Option.bind_eq_some_iff.mp H
                        obtain ⟨t329, A310, H⟩ := H
                        replace H : (if t329 = true then (barqueref09_Filter.l2 k3 l0 l1 l2 x11_3 (wrap64 (x12_3 + 1))) else (if x11_3.length < 3518437208883 then (barqueref09_Filter.l2 k3 l0 l1 l2 (x11_3 ++ [(⟨(rd_T58 l0 x12_3).f0, (rd_T58 l0 x12_3).f1, (rd_T58 l0 x12_3).f2⟩ : S58)]) (wrap64 (x12_3 + 1))) else (none))) = some (r1, r2) := H
                        have A31 := Aside0.mk A310
                        clear A310
                        by_cases c32 : t329 = true
                        · subst c32
                          have H1 : (barqueref09_Filter.l2 k3 l0 l1 l2 x11_3 (wrap64 (x12_3 + 1))) = some (r1, r2) := by rw [if_pos rfl] at H; exact H
                          clear H
                          have H := H1
                          clear H1
                          have H' := Aside0.mk H
                          clear H
                          have p326 : 0 ≤ (x12_3 : Int) := of_decide_eq_true (by first | (with_reducible assumption) | assumption)
                          have q326 : x12_3 < (l0.length : Int) := of_decide_eq_true (by first | (with_reducible assumption) | assumption)
                          obtain ⟨ad326, e326, hx326_0, hx326_1, hx326_2⟩ := at_T58 HR0.out x12_3 p326 q326
                          cases e326
                          replace hx326_0 := (HB.out.cell (World.block_lt_of_cell? w _ hx326_0)).trans hx326_0
                          replace hx326_1 := (HB.out.cell (World.block_lt_of_cell? w _ hx326_1)).trans hx326_1
                          replace hx326_2 := (HB.out.cell (World.block_lt_of_cell? w _ hx326_2)).trans hx326_2
                          replace p326 := eq_true p326
                          replace q326 := eq_true q326
                          go_wp2_with (first | (go_at_call 55; (with_reducible refine (barqueref09_one.calls k3 _ _ l1 ((rd_T58 l0 x12_3).f0) true _ ?side1 ?side2 A29.out).mono ?_); (case side1 => repeat (first | exact (Kd.C_below HR1.out HB.out) | (with_reducible refine Kd.C_alloc ?_ _) | (with_reducible refine Kd.C_drewN ?_ _) | (with_reducible refine Kd.C_drew ?_))); (case side2 => exact HC1.out); rintro e w33 ⟨rfl, hb⟩; have n0_ := Aside0.mk (Kd.R_below (by (with_reducible repeat (first | apply Kd.R_alloc | apply Kd.R_drewN | apply Kd.R_drew)); exact HO_11.out) hb); have n1_ := Aside0.mk (below_step (by repeat (first | (with_reducible first | exact HB.out | apply below_alloc | apply pw_below_drewN | apply below_drew1) | exact HB.out)) hb); clear HO_11; clear HB; have HO_11 := n0_; have HB := n1_; clear n0_ n1_; (try clear hb); (try clear hb2); (try clear hk); (try clear hi); have p328 : 0 ≤ (x12_3 : Int) := of_decide_eq_true (by first | (with_reducible assumption) | assumption); have q328 : x12_3 < (l0.length : Int) := of_decide_eq_true (by first | (with_reducible assumption) | assumption); obtain ⟨ad328, e328, hx328_0, hx328_1, hx328_2⟩ := at_T58 HR0.out x12_3 p328 q328; obtain rfl : ad326 = ad328 := (by injection e328); replace hx328_0 := (HB.out.cell (World.block_lt_of_cell? w _ hx328_0)).trans hx328_0; replace hx328_1 := (HB.out.cell (World.block_lt_of_cell? w _ hx328_1)).trans hx328_1; replace hx328_2 := (HB.out.cell (World.block_lt_of_cell? w _ hx328_2)).trans hx328_2; replace p328 := eq_true p328; replace q328 := eq_true q328) | (go_at_call 55; (with_reducible refine (barqueref09_one.calls k3 _ _ l2 ((rd_T58 l0 x12_3).f0) true _ ?side1 ?side2 A31.out).mono ?_); (case side1 => repeat (first | exact (Kd.C_below HR2.out HB.out) | (with_reducible refine Kd.C_alloc ?_ _) | (with_reducible refine Kd.C_drewN ?_ _) | (with_reducible refine Kd.C_drew ?_))); (case side2 => exact HC2.out); rintro e w34 ⟨rfl, hb⟩; have n0_ := Aside0.mk (Kd.R_below (by (with_reducible repeat (first | apply Kd.R_alloc | apply Kd.R_drewN | apply Kd.R_drew)); exact HO_11.out) hb); have n1_ := Aside0.mk (below_step (by repeat (first | (with_reducible first | exact HB.out | apply below_alloc | apply pw_below_drewN | apply below_drew1) | exact HB.out)) hb); clear HO_11; clear HB; have HO_11 := n0_; have HB := n1_; clear n0_ n1_; (try clear hb); (try clear hb2); (try clear hk); (try clear hi)))
                          go_roundg k3
                          case measure => have := HJ4.out; have := HJ11.out; have := HK3.out; omega
                          case rel => exact ⟨(x11_3), (wrap64 (x12_3 + 1)), (by first | rfl | (simp; done) | (simp [*]; done)), H', ⟨by have := HJ4.out; have := HJ11.out; have := HK3.out; omega⟩, ⟨by (with_reducible repeat (first | apply Kd.R_alloc | apply Kd.R_drewN | apply Kd.R_drew)); exact HO_11.out⟩, ⟨by repeat (first | (with_reducible first | exact HB.out | apply below_alloc | apply pw_below_drewN | apply below_drew1) | exact HB.out)⟩⟩
                        · replace c32 := Bool.eq_false_iff.mpr c32
                          subst c32
                          have H1 : (if x11_3.length < 3518437208883 then (barqueref09_Filter.l2 k3 l0 l1 l2 (x11_3 ++ [(⟨(rd_T58 l0 x12_3).f0, (rd_T58 l0 x12_3).f1, (rd_T58 l0 x12_3).f2⟩ : S58)]) (wrap64 (x12_3 + 1))) else (none)) = some (r1, r2) := by rw [if_neg (show ¬ (false = true) by decide)] at H; exact H
                          clear H
                          have H := H1
                          clear H1
                          by_cases c35 : x11_3.length < 3518437208883
                          · rw [if_pos c35] at H
                            have LMc35 := Aside0.mk c35
                            clear c35
                            obtain ⟨y331, hy331⟩ : ∃ y_ : List (S58), y_ = (x11_3 ++ [(⟨(rd_T58 l0 x12_3).f0, (rd_T58 l0 x12_3).f1, (rd_T58 l0 x12_3).f2⟩ : S58)]) := ⟨_, rfl⟩
                            replace H : (barqueref09_Filter.l2 k3 l0 l1 l2 y331 (wrap64 (x12_3 + 1))) = some (r1, r2) := by first | (rw [hy331]; with_reducible exact H) | (have H2_ := (Option.bind_some _ _).symm.trans H; rw [hy331]; with_reducible exact H2_) | (have H2_ := (Option.bind_some _ _).symm.trans H; with_reducible exact H2_) | with_reducible exact H | (rw [hy331]; exact H) | exact H
                            have Ny331 := Aside0.mk hy331
                            clear hy331
                            have H' := Aside0.mk H
                            clear H
                            have p326 : 0 ≤ (x12_3 : Int) := of_decide_eq_true (by first | (with_reducible assumption) | assumption)
                            have q326 : x12_3 < (l0.length : Int) := of_decide_eq_true (by first | (with_reducible assumption) | assumption)
                            obtain ⟨ad326, e326, hx326_0, hx326_1, hx326_2⟩ := at_T58 HR0.out x12_3 p326 q326
                            cases e326
                            replace hx326_0 := (HB.out.cell (World.block_lt_of_cell? w _ hx326_0)).trans hx326_0
                            replace hx326_1 := (HB.out.cell (World.block_lt_of_cell? w _ hx326_1)).trans hx326_1
                            replace hx326_2 := (HB.out.cell (World.block_lt_of_cell? w _ hx326_2)).trans hx326_2
                            replace p326 := eq_true p326
                            replace q326 := eq_true q326
                            go_wp2_with (first | (go_at_call 55; (with_reducible refine (barqueref09_one.calls k3 _ _ l1 ((rd_T58 l0 x12_3).f0) true _ ?side1 ?side2 A29.out).mono ?_); (case side1 => repeat (first | exact (Kd.C_below HR1.out HB.out) | (with_reducible refine Kd.C_alloc ?_ _) | (with_reducible refine Kd.C_drewN ?_ _) | (with_reducible refine Kd.C_drew ?_))); (case side2 => exact HC1.out); rintro e w36 ⟨rfl, hb⟩; have n0_ := Aside0.mk (Kd.R_below (by (with_reducible repeat (first | apply Kd.R_alloc | apply Kd.R_drewN | apply Kd.R_drew)); exact HO_11.out) hb); have n1_ := Aside0.mk (below_step (by repeat (first | (with_reducible first | exact HB.out | apply below_alloc | apply pw_below_drewN | apply below_drew1) | exact HB.out)) hb); clear HO_11; clear HB; have HO_11 := n0_; have HB := n1_; clear n0_ n1_; (try clear hb); (try clear hb2); (try clear hk); (try clear hi); have p328 : 0 ≤ (x12_3 : Int) := of_decide_eq_true (by first | (with_reducible assumption) | assumption); have q328 : x12_3 < (l0.length : Int) := of_decide_eq_true (by first | (with_reducible assumption) | assumption); obtain ⟨ad328, e328, hx328_0, hx328_1, hx328_2⟩ := at_T58 HR0.out x12_3 p328 q328; obtain rfl : ad326 = ad328 := (by injection e328); replace hx328_0 := (HB.out.cell (World.block_lt_of_cell? w _ hx328_0)).trans hx328_0; replace hx328_1 := (HB.out.cell (World.block_lt_of_cell? w _ hx328_1)).trans hx328_1; replace hx328_2 := (HB.out.cell (World.block_lt_of_cell? w _ hx328_2)).trans hx328_2; replace p328 := eq_true p328; replace q328 := eq_true q328) | (go_at_call 55; (with_reducible refine (barqueref09_one.calls k3 _ _ l2 ((rd_T58 l0 x12_3).f0) false _ ?side1 ?side2 A31.out).mono ?_); (case side1 => repeat (first | exact (Kd.C_below HR2.out HB.out) | (with_reducible refine Kd.C_alloc ?_ _) | (with_reducible refine Kd.C_drewN ?_ _) | (with_reducible refine Kd.C_drew ?_))); (case side2 => exact HC2.out); rintro e w37 ⟨rfl, hb⟩; have n0_ := Aside0.mk (Kd.R_below (by (with_reducible repeat (first | apply Kd.R_alloc | apply Kd.R_drewN | apply Kd.R_drew)); exact HO_11.out) hb); have n1_ := Aside0.mk (below_step (by repeat (first | (with_reducible first | exact HB.out | apply below_alloc | apply pw_below_drewN | apply below_drew1) | exact HB.out)) hb); clear HO_11; clear HB; have HO_11 := n0_; have HB := n1_; clear n0_ n1_; (try clear hb); (try clear hb2); (try clear hk); (try clear hi); have p330 : 0 ≤ (x12_3 : Int) := of_decide_eq_true (by first | (with_reducible assumption) | assumption); have q330 : x12_3 < (l0.length : Int) := of_decide_eq_true (by first | (with_reducible assumption) | assumption); obtain ⟨ad330, e330, hx330_0, hx330_1, hx330_2⟩ := at_T58 HR0.out x12_3 p330 q330; obtain rfl : ad326 = ad330 := (by injection e330); replace hx330_0 := (HB.out.cell (World.block_lt_of_cell? w _ hx330_0)).trans hx330_0; replace hx330_1 := (HB.out.cell (World.block_lt_of_cell? w _ hx330_1)).trans hx330_1; replace hx330_2 := (HB.out.cell (World.block_lt_of_cell? w _ hx330_2)).trans hx330_2; replace p330 := eq_true p330; replace q330 := eq_true q330) | ((with_reducible refine gate_builtin (b := .append) (xs := #[.tmp 76, .tmp 81]) rfl ?_); at_builtin; refine Kd.R_append k58 (w0 := w) w.heap.size rfl (.tmp 76) (.tmp 81) 29 58 (.agg #[(.string ⟨#[]⟩), (.int .i64 0), (.string ⟨#[]⟩)]) 40 rfl Tryd.underlying29 info58 rfl (by decide) (by omega) u11 x11_3 (⟨(rd_T58 l0 x12_3).f0, (rd_T58 l0 x12_3).f1, (rd_T58 l0 x12_3).f2⟩ : S58) [.string ((rd_T58 l0 x12_3).f0), .int .i64 ((rd_T58 l0 x12_3).f1), .string ((rd_T58 l0 x12_3).f2)] (fun _ => True) (fun _ => False) rfl rfl ?aP (fun _ hk => hk.elim) ?aF ?aO ?aB ?aS ?aL ?_; (case aP => exact k58_mkM _ _ _ (⟨(rd_T58 l0 x12_3).f0, (rd_T58 l0 x12_3).f1, (rd_T58 l0 x12_3).f2⟩ : S58)); (case aB => exact (by repeat (first | (with_reducible first | exact HB.out | apply below_alloc | apply pw_below_drewN | apply below_drew1) | exact HB.out))); (case aF => exact (fun _ _ => trivial)); (case aO => exact (by (with_reducible repeat (first | apply Kd.R_alloc | apply Kd.R_drewN | apply Kd.R_drew)); exact HO_11.out)); (case aS => exact (below_size (by repeat (first | (with_reducible first | exact HB.out | apply below_alloc | apply pw_below_drewN | apply below_drew1) | exact HB.out)))); (case aL => have := LMc35.out; omega); intro v332 w38 ho hb hg hat; rw [← Ny331.out] at ho; have n0_ := Aside0.mk (hb); have n1_ := Aside0.mk (ho); clear HB; clear HO_11; have HB := n0_; have HO333 := n1_; clear n0_ n1_; clear ho hb hg hat))
                            go_roundg k3
                            case measure => have := HJ4.out; have := HJ11.out; have := HK3.out; omega
                            case rel => exact ⟨(y331), (wrap64 (x12_3 + 1)), (by first | rfl | (simp; done) | (simp [*]; done)), H', ⟨by have := HJ4.out; have := HJ11.out; have := HK3.out; omega⟩, ⟨by (with_reducible repeat (first | apply Kd.R_alloc | apply Kd.R_drewN | apply Kd.R_drew)); exact HO333.out⟩, ⟨by repeat (first | (with_reducible first | exact HB.out | apply below_alloc | apply pw_below_drewN | apply below_drew1) | exact HB.out)⟩⟩
                          · rw [if_neg c35] at H
                            exact absurd H (by simp)
                      · replace c30 := Bool.eq_false_iff.mpr c30
                        subst c30
                        have H1 : (barqueref09_Filter.l2 k3 l0 l1 l2 x11_3 (wrap64 (x12_3 + 1))) = some (r1, r2) := by rw [if_neg (show ¬ (false = true) by decide)] at H; exact H
                        clear H
                        have H := H1
                        clear H1
                        have H' := Aside0.mk H
                        clear H
                        have p326 : 0 ≤ (x12_3 : Int) := of_decide_eq_true (by first | (with_reducible assumption) | assumption)
                        have q326 : x12_3 < (l0.length : Int) := of_decide_eq_true (by first | (with_reducible assumption) | assumption)
                        obtain ⟨ad326, e326, hx326_0, hx326_1, hx326_2⟩ := at_T58 HR0.out x12_3 p326 q326
                        cases e326
                        replace hx326_0 := (HB.out.cell (World.block_lt_of_cell? w _ hx326_0)).trans hx326_0
                        replace hx326_1 := (HB.out.cell (World.block_lt_of_cell? w _ hx326_1)).trans hx326_1
                        replace hx326_2 := (HB.out.cell (World.block_lt_of_cell? w _ hx326_2)).trans hx326_2
                        replace p326 := eq_true p326
                        replace q326 := eq_true q326
                        go_wp2_with (first | (go_at_call 55; (with_reducible refine (barqueref09_one.calls k3 _ _ l1 ((rd_T58 l0 x12_3).f0) false _ ?side1 ?side2 A29.out).mono ?_); (case side1 => repeat (first | exact (Kd.C_below HR1.out HB.out) | (with_reducible refine Kd.C_alloc ?_ _) | (with_reducible refine Kd.C_drewN ?_ _) | (with_reducible refine Kd.C_drew ?_))); (case side2 => exact HC1.out); rintro e w39 ⟨rfl, hb⟩; have n0_ := Aside0.mk (Kd.R_below (by (with_reducible repeat (first | apply Kd.R_alloc | apply Kd.R_drewN | apply Kd.R_drew)); exact HO_11.out) hb); have n1_ := Aside0.mk (below_step (by repeat (first | (with_reducible first | exact HB.out | apply below_alloc | apply pw_below_drewN | apply below_drew1) | exact HB.out)) hb); clear HO_11; clear HB; have HO_11 := n0_; have HB := n1_; clear n0_ n1_; (try clear hb); (try clear hb2); (try clear hk); (try clear hi)))
                        go_roundg k3
                        case measure => have := HJ4.out; have := HJ11.out; have := HK3.out; omega
                        case rel => exact ⟨(x11_3), (wrap64 (x12_3 + 1)), (by first | rfl | (simp; done) | (simp [*]; done)), H', ⟨by have := HJ4.out; have := HJ11.out; have := HK3.out; omega⟩, ⟨by (with_reducible repeat (first | apply Kd.R_alloc | apply Kd.R_drewN | apply Kd.R_drew)); exact HO_11.out⟩, ⟨by repeat (first | (with_reducible first | exact HB.out | apply below_alloc | apply pw_below_drewN | apply below_drew1) | exact HB.out)⟩⟩
                    · rw [if_neg c28] at H
                      exact absurd H (by simp)
                · rw [if_neg c19] at H
                  have c19b0 : decide (x12_3 < (l0.length : Int)) = false := decide_eq_false c19
                  clear c19
                  simp only [Option.some.injEq, Prod.mk.injEq] at H
                  obtain ⟨rfl, rfl⟩ := H
                  go_wp2
                  go_ret2
                  exact ⟨_, by first | rfl | (simp [errW_none, errW_some] <;> rfl) | (simp [*, errW_none, errW_some] <;> rfl), by (with_reducible repeat (first | apply Kd.R_alloc | apply Kd.R_drewN | apply Kd.R_drew)); exact HO_11.out, by repeat (first | (with_reducible first | exact HB.out | apply below_alloc | apply pw_below_drewN | apply below_drew1) | exact HB.out)⟩
          · rw [if_neg c18] at H
            have c18b0 : (x8_11 == 0) = false := beq_eq_false_iff_ne.mpr c18
            have c18b1 : (x8_11 != 0) = true := bne_iff_ne.mpr c18
            simp only [Option.some.injEq, Prod.mk.injEq] at H
            obtain ⟨rfl, rfl⟩ := H
            go_wp2
            go_ret2
            exact ⟨_, by first | rfl | (simp [errW_none, errW_some] <;> rfl) | (simp [*, errW_none, errW_some] <;> rfl), by first | exact Kd.R_nil _ _ _ _ _ | exact Kd.N_nil _ _ _ _ _ | exact Kd.V_nil _ _ _ _ _ | exact Kd.Q_nil _ _ _ _ _ | exact Kd.S_nil _ _ _ _ _, by repeat (first | (with_reducible first | exact HB.out | apply below_alloc | apply pw_below_drewN | apply below_drew1) | exact HB.out)⟩
end Go.Proofs.YtafjlibcdlihcaaDoor.G
end
section
namespace Go.Proofs.YtafjlibcdlihcaaDoor.G
open Go.RowKit Go.Proofs.YtafjlibcdlihcaaDoorW.PrintWords Go.Proofs.YtafjlibcdlihcaaDoorW.PrintLast Go.Proofs.YtafjlibcdlihcaaDoorW.PrintMore
attribute [local go_sem] max2_int min2_int max_two min_two max_three min_three max_four min_four   -- for this text's walks alone
set_option linter.unusedVariables false
set_option linter.unusedSimpArgs false
theorem eqA58 (d : Nat) (w : World) (x0 y0 : ByteArray) (x1 y1 : Int) (x2 y2 : ByteArray) :
    (Op.equalIn (d + 2) 58 (.agg #[.string x0, .int .i64 x1, .string x2]) (.agg #[.string y0, .int .i64 y1, .string y2])).run Tryd.prog w = .ok (x0.toList == y0.toList && (x1 == y1 && (x2.toList == y2.toList))) w := by
  refine eqA_of Tryd.underlying58 (by kernel_rfl) ?_
  refine eqf_cons (by rfl) (by go_simp; rfl) (by go_simp; rfl) (by go_simp) ?_
  refine eqf_cons (by rfl) (by go_simp; rfl) (by go_simp; rfl) (by go_simp) ?_
  exact eqf_last (by rfl) (by go_simp; rfl) (by go_simp; rfl) (by go_simp)
end Go.Proofs.YtafjlibcdlihcaaDoor.G
end
