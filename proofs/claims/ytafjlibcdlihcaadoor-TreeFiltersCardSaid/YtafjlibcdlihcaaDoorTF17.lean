/- Texts of this session's claim of TreeFilters, less what its theorem does not reach. No condition. -/
import Derived.Test.YtafjlibcdlihcaaDoorTF14
import Derived.Test.YtafjlibcdlihcaaDoorTF15
section
namespace Go.Proofs.YtafjlibcdlihcaaDoor.G
open Go.RowKit Go.Proofs.YtafjlibcdlihcaaDoorW.PrintWords Go.Proofs.YtafjlibcdlihcaaDoorW.PrintLast Go.Proofs.YtafjlibcdlihcaaDoorW.PrintMore
attribute [local go_sem] max2_int min2_int max_two min_two max_three min_three max_four min_four   -- for this text's walks alone
set_option linter.unusedVariables false
set_option linter.unusedSimpArgs false
mutual
def barqueref09_inName.l0 : Nat → ByteArray → ByteArray → List Bool → Int → Int → Option (Bool)
  | 0, _, _, _, _, _ => none
  | k + 1, x0, x1, x5, x6, x7 => if x7 ≥ 0 then (barqueref09_inName.l1 k x0 x1 x5 x6 x7 (x1.size : Int)) else (if 0 < (x5.length : Int) then (some (rdOf false x5 0)) else (none))
def barqueref09_inName.l1 : Nat → ByteArray → ByteArray → List Bool → Int → Int → Int → Option (Bool)
  | 0, _, _, _, _, _, _ => none
  | k + 1, x0, x1, x5, x6, x7, x8 => if x8 ≥ 0 then (if x7 = (x0.size : Int) then (if 0 ≤ (wrap64 ((wrap64 (x7 * x6)) + x8)) then (if (wrap64 ((wrap64 (x7 * x6)) + x8)) < (x5.length : Int) then (barqueref09_inName.l1 k x0 x1 (x5.set ((wrap64 ((wrap64 (x7 * x6)) + x8)) : Int).toNat (x8 == (x1.size : Int))) x6 x7 (wrap64 (x8 - 1))) else (none)) else (none)) else (if 0 ≤ x7 then (if x7 < (x0.size : Int) then (if (bt x0 x7) = 42 then (if 0 ≤ (wrap64 ((wrap64 ((wrap64 (x7 + 1)) * x6)) + x8)) then (if (wrap64 ((wrap64 ((wrap64 (x7 + 1)) * x6)) + x8)) < (x5.length : Int) then (if rdOf false x5 (wrap64 ((wrap64 ((wrap64 (x7 + 1)) * x6)) + x8)) = true then (if 0 ≤ (wrap64 ((wrap64 (x7 * x6)) + x8)) then (if (wrap64 ((wrap64 (x7 * x6)) + x8)) < (x5.length : Int) then (barqueref09_inName.l1 k x0 x1 (x5.set ((wrap64 ((wrap64 (x7 * x6)) + x8)) : Int).toNat true) x6 x7 (wrap64 (x8 - 1))) else (none)) else (none)) else (if x8 < (x1.size : Int) then (if 0 ≤ (wrap64 ((wrap64 ((wrap64 (x7 * x6)) + x8)) + 1)) then (if (wrap64 ((wrap64 ((wrap64 (x7 * x6)) + x8)) + 1)) < (x5.length : Int) then (if 0 ≤ (wrap64 ((wrap64 (x7 * x6)) + x8)) then (if (wrap64 ((wrap64 (x7 * x6)) + x8)) < (x5.length : Int) then (barqueref09_inName.l1 k x0 x1 (x5.set ((wrap64 ((wrap64 (x7 * x6)) + x8)) : Int).toNat (rdOf false x5 (wrap64 ((wrap64 ((wrap64 (x7 * x6)) + x8)) + 1)))) x6 x7 (wrap64 (x8 - 1))) else (none)) else (none)) else (none)) else (none)) else (if 0 ≤ (wrap64 ((wrap64 (x7 * x6)) + x8)) then (if (wrap64 ((wrap64 (x7 * x6)) + x8)) < (x5.length : Int) then (barqueref09_inName.l1 k x0 x1 (x5.set ((wrap64 ((wrap64 (x7 * x6)) + x8)) : Int).toNat false) x6 x7 (wrap64 (x8 - 1))) else (none)) else (none)))) else (none)) else (none)) else (if x8 < (x1.size : Int) then (if (bt x0 x7) = 63 then (if 0 ≤ (wrap64 ((wrap64 ((wrap64 ((wrap64 (x7 + 1)) * x6)) + x8)) + 1)) then (if (wrap64 ((wrap64 ((wrap64 ((wrap64 (x7 + 1)) * x6)) + x8)) + 1)) < (x5.length : Int) then (if 0 ≤ (wrap64 ((wrap64 (x7 * x6)) + x8)) then (if (wrap64 ((wrap64 (x7 * x6)) + x8)) < (x5.length : Int) then (barqueref09_inName.l1 k x0 x1 (x5.set ((wrap64 ((wrap64 (x7 * x6)) + x8)) : Int).toNat (rdOf false x5 (wrap64 ((wrap64 ((wrap64 ((wrap64 (x7 + 1)) * x6)) + x8)) + 1)))) x6 x7 (wrap64 (x8 - 1))) else (none)) else (none)) else (none)) else (none)) else (if 0 ≤ x8 then (if (bt x0 x7) = (bt x1 x8) then (if 0 ≤ (wrap64 ((wrap64 ((wrap64 ((wrap64 (x7 + 1)) * x6)) + x8)) + 1)) then (if (wrap64 ((wrap64 ((wrap64 ((wrap64 (x7 + 1)) * x6)) + x8)) + 1)) < (x5.length : Int) then (if 0 ≤ (wrap64 ((wrap64 (x7 * x6)) + x8)) then (if (wrap64 ((wrap64 (x7 * x6)) + x8)) < (x5.length : Int) then (barqueref09_inName.l1 k x0 x1 (x5.set ((wrap64 ((wrap64 (x7 * x6)) + x8)) : Int).toNat (rdOf false x5 (wrap64 ((wrap64 ((wrap64 ((wrap64 (x7 + 1)) * x6)) + x8)) + 1)))) x6 x7 (wrap64 (x8 - 1))) else (none)) else (none)) else (none)) else (none)) else (if 0 ≤ (wrap64 ((wrap64 (x7 * x6)) + x8)) then (if (wrap64 ((wrap64 (x7 * x6)) + x8)) < (x5.length : Int) then (barqueref09_inName.l1 k x0 x1 (x5.set ((wrap64 ((wrap64 (x7 * x6)) + x8)) : Int).toNat false) x6 x7 (wrap64 (x8 - 1))) else (none)) else (none))) else (none))) else (if 0 ≤ (wrap64 ((wrap64 (x7 * x6)) + x8)) then (if (wrap64 ((wrap64 (x7 * x6)) + x8)) < (x5.length : Int) then (barqueref09_inName.l1 k x0 x1 (x5.set ((wrap64 ((wrap64 (x7 * x6)) + x8)) : Int).toNat false) x6 x7 (wrap64 (x8 - 1))) else (none)) else (none)))) else (none)) else (none))) else (barqueref09_inName.l0 k x0 x1 x5 x6 (wrap64 (x7 - 1)))
end
def barqueref09_inName.f (k : Nat) (a0 : ByteArray) (a1 : ByteArray) : Option (Bool) := if 0 ≤ (wrap64 ((wrap64 ((a0.size : Int) + 1)) * (wrap64 ((a1.size : Int) + 1)))) then (if (wrap64 ((wrap64 ((a0.size : Int) + 1)) * (wrap64 ((a1.size : Int) + 1))) : Int).toNat ≤ 281474976710656 then (barqueref09_inName.l0 k a0 a1 (List.replicate (wrap64 ((wrap64 ((a0.size : Int) + 1)) * (wrap64 ((a1.size : Int) + 1))) : Int).toNat false) (wrap64 ((a1.size : Int) + 1)) (a0.size : Int)) else (none)) else (none)
theorem barqueref09_inName.mono_l : ∀ k, (∀ y0 y1 y2 y3 y4, LeO (barqueref09_inName.l0 k y0 y1 y2 y3 y4) (barqueref09_inName.l0 (k + 1) y0 y1 y2 y3 y4)) ∧ (∀ y0 y1 y2 y3 y4 y5, LeO (barqueref09_inName.l1 k y0 y1 y2 y3 y4 y5) (barqueref09_inName.l1 (k + 1) y0 y1 y2 y3 y4 y5))
  | 0 => ⟨fun _ _ _ _ _ r h => by simp [barqueref09_inName.l0] at h, fun _ _ _ _ _ _ r h => by simp [barqueref09_inName.l1] at h⟩
  | k + 1 => by
    obtain ⟨ih0, ih1⟩ := barqueref09_inName.mono_l k
    refine ⟨?_, ?_⟩
    · intro y0 y1 y2 y3 y4
      unfold barqueref09_inName.l0
      repeat' first
      | (with_reducible exact ih0 _ _ _ _ _)
      | (with_reducible exact ih1 _ _ _ _ _ _)
      | (with_reducible exact LeO.refl _)
      | (with_reducible exact LeO.none _)
      | (with_reducible refine LeO.ite ?_ ?_)
      | (with_reducible refine LeO.bind ?_ (fun _ => ?_))
      | exact ih0 _ _ _ _ _
      | exact ih1 _ _ _ _ _ _
      | exact LeO.none _
      | refine LeO.ite ?_ ?_
      | refine LeO.bind ?_ (fun _ => ?_)
    · intro y0 y1 y2 y3 y4 y5
      unfold barqueref09_inName.l1
      repeat' first
      | (with_reducible exact ih0 _ _ _ _ _)
      | (with_reducible exact ih1 _ _ _ _ _ _)
      | (with_reducible exact LeO.refl _)
      | (with_reducible exact LeO.none _)
      | (with_reducible refine LeO.ite ?_ ?_)
      | (with_reducible refine LeO.bind ?_ (fun _ => ?_))
      | exact ih0 _ _ _ _ _
      | exact ih1 _ _ _ _ _ _
      | exact LeO.none _
      | refine LeO.ite ?_ ?_
      | refine LeO.bind ?_ (fun _ => ?_)
theorem barqueref09_inName.mono : ∀ a0 a1 k, LeO (barqueref09_inName.f k a0 a1) (barqueref09_inName.f (k + 1) a0 a1) := by
  intro a0 a1 k
  obtain ⟨ih0, ih1⟩ := barqueref09_inName.mono_l k
  unfold barqueref09_inName.f
  repeat' first
      | (with_reducible exact ih0 _ _ _ _ _)
      | (with_reducible exact ih1 _ _ _ _ _ _)
      | (with_reducible exact LeO.refl _)
      | (with_reducible exact LeO.none _)
      | (with_reducible refine LeO.ite ?_ ?_)
      | (with_reducible refine LeO.bind ?_ (fun _ => ?_))
      | exact ih0 _ _ _ _ _
      | exact ih1 _ _ _ _ _ _
      | exact LeO.none _
      | refine LeO.ite ?_ ?_
      | refine LeO.bind ?_ (fun _ => ?_)
set_option maxHeartbeats 8000000 in
set_option maxRecDepth 100000 in
theorem barqueref09_inName.calls (k : Nat) (a0 : ByteArray) (a1 : ByteArray) (r : Bool) (w : World) (h : barqueref09_inName.f k a0 a1 = some r) :
    Calls Tryd.prog 53 #[.string a0, .string a1] w fun e w' => e = .returned (.bool r) ∧ Below w.heap.size w w' := by
  have HB := Aside0.mk (Below.refl w.heap.size w)
  have H : (if 0 ≤ (wrap64 ((wrap64 ((a0.size : Int) + 1)) * (wrap64 ((a1.size : Int) + 1)))) then (if (wrap64 ((wrap64 ((a0.size : Int) + 1)) * (wrap64 ((a1.size : Int) + 1))) : Int).toNat ≤ 281474976710656 then (barqueref09_inName.l0 k a0 a1 (List.replicate (wrap64 ((wrap64 ((a0.size : Int) + 1)) * (wrap64 ((a1.size : Int) + 1))) : Int).toNat false) (wrap64 ((a1.size : Int) + 1)) (a0.size : Int)) else (none)) else (none)) = some r := h
  clear h
  obtain ⟨ji3, hji3⟩ : ∃ j_ : Int, (wrap64 ((wrap64 ((a0.size : Int) + 1)) * (wrap64 ((a1.size : Int) + 1)))) = j_ := ⟨_, rfl⟩
  replace H : (if 0 ≤ (ji3) then (if (ji3 : Int).toNat ≤ 281474976710656 then (barqueref09_inName.l0 k a0 a1 (List.replicate (ji3 : Int).toNat false) (wrap64 ((a1.size : Int) + 1)) (a0.size : Int)) else (none)) else (none)) = some r := by first | (rw [hji3] at H; exact H) | (simp only [hji3] at H ⊢; exact H)
  have hji3w : (IntKind.i64.wrap ((wrap64 ((a0.size : Int) + 1)) * (wrap64 ((a1.size : Int) + 1)))) = ji3 := (i64_w _).trans hji3
  by_cases c4 : 0 ≤ (ji3)
  · rw [if_pos c4] at H
    have c4b0 := eq_true c4
    have c4b1 : decide (0 ≤ (ji3)) = true := decide_eq_true c4
    clear c4
    by_cases c5 : (ji3 : Int).toNat ≤ 281474976710656
    · rw [if_pos c5] at H
      have c5b0 := eq_true c5
      have c5b1 : decide ((ji3 : Int).toNat ≤ 281474976710656) = true := decide_eq_true c5
      clear c5
      obtain ⟨y236, hy236⟩ : ∃ y_ : List Bool, y_ = (List.replicate (ji3 : Int).toNat false) := ⟨_, rfl⟩
      replace H : (barqueref09_inName.l0 k a0 a1 y236 (wrap64 ((a1.size : Int) + 1)) (a0.size : Int)) = some r := by first | (rw [hy236]; with_reducible exact H) | (have H2_ := (Option.bind_some _ _).symm.trans H; rw [hy236]; with_reducible exact H2_) | (have H2_ := (Option.bind_some _ _).symm.trans H; with_reducible exact H2_) | with_reducible exact H | (rw [hy236]; exact H) | exact H
      have Ny236 := Aside0.mk hy236
      clear hy236
      have H' := Aside0.mk H
      clear H
      go_enter Tryd.func53, Tryd.ntmps53
      go_wp2_with (first | ((with_reducible refine gate_dst (N := 17) rfl ?_); (try (refine gate_guard (by rfl) ?_; dsimp only)); refine Kd.R_make Kd.bool _ 4 rfl (N := 17) rfl 67 _ _ rfl ji3 rfl rfl Tryd.underlying67 (.bool false) 1 info4 rfl (by decide) (by omega) false (ok := fun _ => True) (okp := fun _ => True) rfl (fun _ hk => hk) trivial (of_decide_eq_true (by first | (with_reducible assumption) | assumption)) (Nat.le_trans (Nat.mul_le_mul_right _ (of_decide_eq_true (by first | (with_reducible assumption) | assumption) : ji3.toNat ≤ 281474976710656)) (by omega)) (Below.refl _ _) (Nat.le_refl _) ?_; intro v237 w6 ho7 hb hg_ hnew_; clear hg_ hnew_; (first | rw [← Ny236.out] at ho7 | (simp only [Int.reduceToNat] at ho7; rw [← Ny236.out] at ho7)); have n0_ := Aside0.mk (Kd.R_lower ho7 (below_size (by repeat (first | (with_reducible first | exact HB.out | apply below_alloc | apply pw_below_drewN | apply below_drew1) | exact HB.out)))); have n1_ := Aside0.mk (below_step (by repeat (first | (with_reducible first | exact HB.out | apply below_alloc | apply pw_below_drewN | apply below_drew1) | exact HB.out)) hb); clear HB; have HO238 := n0_; have HB := n1_; clear n0_ n1_; clear hb ho7))
      repeat (go_quiet (first | ((with_reducible refine gate_dst (N := 17) rfl ?_); (try (refine gate_guard (by rfl) ?_; dsimp only)); refine Kd.R_make Kd.bool _ 4 rfl (N := 17) rfl 67 _ _ rfl ji3 rfl rfl Tryd.underlying67 (.bool false) 1 info4 rfl (by decide) (by omega) false (ok := fun _ => True) (okp := fun _ => True) rfl (fun _ hk => hk) trivial (of_decide_eq_true (by first | (with_reducible assumption) | assumption)) (Nat.le_trans (Nat.mul_le_mul_right _ (of_decide_eq_true (by first | (with_reducible assumption) | assumption) : ji3.toNat ≤ 281474976710656)) (by omega)) (Below.refl _ _) (Nat.le_refl _) ?_; intro v237 w6 ho7 hb hg_ hnew_; clear hg_ hnew_; (first | rw [← Ny236.out] at ho7 | (simp only [Int.reduceToNat] at ho7; rw [← Ny236.out] at ho7)); have n0_ := Aside0.mk (Kd.R_lower ho7 (below_size (by repeat (first | (with_reducible first | exact HB.out | apply below_alloc | apply pw_below_drewN | apply below_drew1) | exact HB.out)))); have n1_ := Aside0.mk (below_step (by repeat (first | (with_reducible first | exact HB.out | apply below_alloc | apply pw_below_drewN | apply below_drew1) | exact HB.out)) hb); clear HB; have HO238 := n0_; have HB := n1_; clear n0_ n1_; clear hb ho7)); try go_wp2_with (first | ((with_reducible refine gate_dst (N := 17) rfl ?_); (try (refine gate_guard (by rfl) ?_; dsimp only)); refine Kd.R_make Kd.bool _ 4 rfl (N := 17) rfl 67 _ _ rfl ji3 rfl rfl Tryd.underlying67 (.bool false) 1 info4 rfl (by decide) (by omega) false (ok := fun _ => True) (okp := fun _ => True) rfl (fun _ hk => hk) trivial (of_decide_eq_true (by first | (with_reducible assumption) | assumption)) (Nat.le_trans (Nat.mul_le_mul_right _ (of_decide_eq_true (by first | (with_reducible assumption) | assumption) : ji3.toNat ≤ 281474976710656)) (by omega)) (Below.refl _ _) (Nat.le_refl _) ?_; intro v237 w6 ho7 hb hg_ hnew_; clear hg_ hnew_; (first | rw [← Ny236.out] at ho7 | (simp only [Int.reduceToNat] at ho7; rw [← Ny236.out] at ho7)); have n0_ := Aside0.mk (Kd.R_lower ho7 (below_size (by repeat (first | (with_reducible first | exact HB.out | apply below_alloc | apply pw_below_drewN | apply below_drew1) | exact HB.out)))); have n1_ := Aside0.mk (below_step (by repeat (first | (with_reducible first | exact HB.out | apply below_alloc | apply pw_below_drewN | apply below_drew1) | exact HB.out)) hb); clear HB; have HO238 := n0_; have HB := n1_; clear n0_ n1_; clear hb ho7)))
      go_loopg [7] k (fun kq v7 w' => ∃ (x5_1 : List Bool) (x7_1 : Int), v7 = .int .i64 x7_1 ∧ Aside0 (barqueref09_inName.l0 kq a0 a1 x5_1 (wrap64 ((a1.size : Int) + 1)) x7_1 = some r) ∧ Aside0 (kq ≤ k) ∧ Aside0 (Kd.R Kd.bool 4 w' w.heap.size (fun _ => True) v237 x5_1) ∧ Aside0 (Below w.heap.size w w'))
      case atStart => exact ⟨(y236), ((a0.size : Int)), (by first | rfl | (simp; done) | (simp [*]; done)), H', ⟨Nat.le_refl _⟩, ⟨by (with_reducible repeat (first | apply Kd.R_alloc | apply Kd.R_drewN | apply Kd.R_drew)); exact HO238.out⟩, ⟨by repeat (first | (with_reducible first | exact HB.out | apply below_alloc | apply pw_below_drewN | apply below_drew1) | exact HB.out)⟩⟩
      case round =>
        clear H'
        try clear p2
        try clear c4
        try clear c4b0
        try clear c4b1
        try clear c5
        try clear c5b0
        try clear c5b1
        try clear p6
        obtain ⟨x5_1, x7_1, rfl, HA, HK1, HO_5, HB⟩ := hrel
        cases gk with
        | zero => exact absurd HA.out (by simp [barqueref09_inName.l0])
        | succ k1 =>
          have H := HA.out
          clear HA
          simp only [barqueref09_inName.l0] at H
          by_cases c8 : x7_1 ≥ 0
          · rw [if_pos c8] at H
            have c8b0 : decide (0 ≤ x7_1) = true := decide_eq_true c8
            clear c8
            have H' := Aside0.mk H
            clear H
            go_wp2
            repeat (go_quiet (fail); try go_wp2)
            go_loopg [8] k1 (fun kq v8 w' => ∃ (x5_2 : List Bool) (x8_2 : Int), v8 = .int .i64 x8_2 ∧ Aside0 (barqueref09_inName.l1 kq a0 a1 x5_2 (wrap64 ((a1.size : Int) + 1)) x7_1 x8_2 = some r) ∧ Aside0 (kq ≤ k1) ∧ Aside0 (Kd.R Kd.bool 4 w' w.heap.size (fun _ => True) v237 x5_2) ∧ Aside0 (Below w.heap.size w w'))
            case atStart => exact ⟨(x5_1), ((a1.size : Int)), (by first | rfl | (simp; done) | (simp [*]; done)), H', ⟨Nat.le_refl _⟩, ⟨by (with_reducible repeat (first | apply Kd.R_alloc | apply Kd.R_drewN | apply Kd.R_drew)); exact HO_5.out⟩, ⟨by repeat (first | (with_reducible first | exact HB.out | apply below_alloc | apply pw_below_drewN | apply below_drew1) | exact HB.out)⟩⟩
            case round =>
              clear H'
              try clear p2
              try clear c4
              try clear c4b0
              try clear c4b1
              try clear c5
              try clear c5b0
              try clear c5b1
              try clear p6
              try clear c8
              try clear c8b0
              try clear p2
              try clear p6
              obtain ⟨x5_2, x8_2, rfl, HA, HK2, HO_5, HB⟩ := hrel
              cases gk with
              | zero => exact absurd HA.out (by simp [barqueref09_inName.l1])
              | succ k2 =>
                have H := HA.out
                clear HA
                simp only [barqueref09_inName.l1] at H
                by_cases c9 : x8_2 ≥ 0
                · rw [if_pos c9] at H
                  have c9b0 : decide (0 ≤ x8_2) = true := decide_eq_true c9
                  clear c9
                  by_cases c10 : x7_1 = (a0.size : Int)
                  · rw [if_pos c10] at H
                    have c10b0 : (x7_1 == (a0.size : Int)) = true := beq_iff_eq.mpr c10
                    have c10b1 : (x7_1 != (a0.size : Int)) = false := bne_eq_false_iff_eq.mpr c10
                    clear c10
                    obtain ⟨ji11, hji11⟩ : ∃ j_ : Int, (wrap64 ((wrap64 (x7_1 * (wrap64 ((a1.size : Int) + 1)))) + x8_2)) = j_ := ⟨_, rfl⟩
                    replace H : (if 0 ≤ (ji11) then (if (ji11) < (x5_2.length : Int) then (barqueref09_inName.l1 k2 a0 a1 (x5_2.set ((ji11) : Int).toNat (x8_2 == (a1.size : Int))) (wrap64 ((a1.size : Int) + 1)) x7_1 (wrap64 (x8_2 - 1))) else (none)) else (none)) = some r := by first | (rw [hji11] at H; exact H) | (simp only [hji11] at H ⊢; exact H)
                    have hji11w : (IntKind.i64.wrap ((wrap64 (x7_1 * (wrap64 ((a1.size : Int) + 1)))) + x8_2)) = ji11 := (i64_w _).trans hji11
                    by_cases c12 : 0 ≤ (ji11)
                    · rw [if_pos c12] at H
                      have c12b0 : decide (0 ≤ (ji11)) = true := decide_eq_true c12
                      clear c12
                      by_cases c13 : (ji11) < (x5_2.length : Int)
                      · rw [if_pos c13] at H
                        have c13b0 : decide ((ji11) < (x5_2.length : Int)) = true := decide_eq_true c13
                        clear c13
                        obtain ⟨y240, hy240⟩ : ∃ y_ : List Bool, y_ = (x5_2.set ((ji11) : Int).toNat (x8_2 == (a1.size : Int))) := ⟨_, rfl⟩
                        replace H : (barqueref09_inName.l1 k2 a0 a1 y240 (wrap64 ((a1.size : Int) + 1)) x7_1 (wrap64 (x8_2 - 1))) = some r := by first | (rw [hy240]; with_reducible exact H) | (have H2_ := (Option.bind_some _ _).symm.trans H; rw [hy240]; with_reducible exact H2_) | (have H2_ := (Option.bind_some _ _).symm.trans H; with_reducible exact H2_) | with_reducible exact H | (rw [hy240]; exact H) | exact H
                        have Ny240 := Aside0.mk hy240
                        clear hy240
                        have H' := Aside0.mk H
                        clear H
                        have p14 : 0 ≤ ((ji11) : Int) := of_decide_eq_true (by first | (with_reducible assumption) | assumption)
                        have q14 : ((ji11) : Int) < ((x5_2.length : Int) : Int) := of_decide_eq_true (by first | (with_reducible assumption) | assumption)
                        obtain ⟨go14, co14, eo14, gb14, gl14, cl14, HG14⟩ := Kd.R_form HO_5.out (by omega)
                        (first | cases eo14 | (injection eo14 with ea_ en_ ec_; (first | subst ea_ | (injection ea_ with ea_; subst ea_)); subst ec_; clear en_))
                        have GB14 := Aside0.mk gb14
                        have GG14 := Aside0.mk HG14
                        clear gb14 gl14 HG14
                        obtain ⟨hx14_0, hf14_0⟩ := Kd.R_celln false HO_5.out ((ji11) : Int) p14 q14
                        replace p14 := eq_true p14
                        replace q14 := eq_true q14
                        have HP15 := Kd.R_putg HO_5.out ((ji11) : Int) (x8_2 == (a1.size : Int))
                        go_wp2_with (first | ((with_reducible refine gate_store (t := 4) (p := 109) rfl ?_); (try (rw [drewN_self wr]; generalize hq_ : World.drewN wr _ = wr; have n0_ := Aside0.mk (Kd.R_at hq_ HO_5.out); have n1_ := Aside0.mk (below_at hq_ HB.out); clear hq_ HO_5 HB; have HO_5 := n0_; have HB := n1_; clear n0_ n1_; (try (have HP15 := Kd.R_putg HO_5.out ((ji11) : Int) (x8_2 == (a1.size : Int)))); (try (obtain ⟨hx14_0, hf14_0⟩ := Kd.R_celln false HO_5.out ((ji11) : Int) (of_eq_true p14) (of_eq_true q14))))); refine store_event (t := 4) (p := 109) (v := ?vo_w16) (w1 := (wr.setCell ⟨go14, ((ji11) : Int).toNat, none⟩ (.bool (x8_2 == (a1.size : Int))))) ?hg ?ho ?hn ?hr ?_; (case ho => rfl); (case hg => rfl); (case hn => rfl); (case hr => first | (go_simp; done) | (go_simp; rfl)); intro w16 hw; have hg : wr.grownBy w16 (some go14) := (by rw [hw]; exact HP15.2); have hp_ : Kd.R Kd.bool 4 w16 w.heap.size (fun _ => True) (.slice (some ⟨go14, 0, none⟩) x5_2.length co14) y240 := (by rw [hw, Ny240.out]; exact HP15.1); clear HP15; have n0_ := Aside0.mk (hp_); have n1_ := Aside0.mk ((by rw [hw]; exact below_set (HB.out) GB14.out : Below w.heap.size w w16)); clear HO_5; clear HB; have HO_5 := n0_; have HB := n1_; clear n0_ n1_; clear hg hw hp_))
                        repeat (go_quiet (first | ((with_reducible refine gate_store (t := 4) (p := 109) rfl ?_); (try (rw [drewN_self wr]; generalize hq_ : World.drewN wr _ = wr; have n0_ := Aside0.mk (Kd.R_at hq_ HO_5.out); have n1_ := Aside0.mk (below_at hq_ HB.out); clear hq_ HO_5 HB; have HO_5 := n0_; have HB := n1_; clear n0_ n1_; (try (have HP15 := Kd.R_putg HO_5.out ((ji11) : Int) (x8_2 == (a1.size : Int)))); (try (obtain ⟨hx14_0, hf14_0⟩ := Kd.R_celln false HO_5.out ((ji11) : Int) (of_eq_true p14) (of_eq_true q14))))); refine store_event (t := 4) (p := 109) (v := ?vo_w16) (w1 := (wr.setCell ⟨go14, ((ji11) : Int).toNat, none⟩ (.bool (x8_2 == (a1.size : Int))))) ?hg ?ho ?hn ?hr ?_; (case ho => rfl); (case hg => rfl); (case hn => rfl); (case hr => first | (go_simp; done) | (go_simp; rfl)); intro w16 hw; have hg : wr.grownBy w16 (some go14) := (by rw [hw]; exact HP15.2); have hp_ : Kd.R Kd.bool 4 w16 w.heap.size (fun _ => True) (.slice (some ⟨go14, 0, none⟩) x5_2.length co14) y240 := (by rw [hw, Ny240.out]; exact HP15.1); clear HP15; have n0_ := Aside0.mk (hp_); have n1_ := Aside0.mk ((by rw [hw]; exact below_set (HB.out) GB14.out : Below w.heap.size w w16)); clear HO_5; clear HB; have HO_5 := n0_; have HB := n1_; clear n0_ n1_; clear hg hw hp_)); try go_wp2_with (first | ((with_reducible refine gate_store (t := 4) (p := 109) rfl ?_); (try (rw [drewN_self wr]; generalize hq_ : World.drewN wr _ = wr; have n0_ := Aside0.mk (Kd.R_at hq_ HO_5.out); have n1_ := Aside0.mk (below_at hq_ HB.out); clear hq_ HO_5 HB; have HO_5 := n0_; have HB := n1_; clear n0_ n1_; (try (have HP15 := Kd.R_putg HO_5.out ((ji11) : Int) (x8_2 == (a1.size : Int)))); (try (obtain ⟨hx14_0, hf14_0⟩ := Kd.R_celln false HO_5.out ((ji11) : Int) (of_eq_true p14) (of_eq_true q14))))); refine store_event (t := 4) (p := 109) (v := ?vo_w16) (w1 := (wr.setCell ⟨go14, ((ji11) : Int).toNat, none⟩ (.bool (x8_2 == (a1.size : Int))))) ?hg ?ho ?hn ?hr ?_; (case ho => rfl); (case hg => rfl); (case hn => rfl); (case hr => first | (go_simp; done) | (go_simp; rfl)); intro w16 hw; have hg : wr.grownBy w16 (some go14) := (by rw [hw]; exact HP15.2); have hp_ : Kd.R Kd.bool 4 w16 w.heap.size (fun _ => True) (.slice (some ⟨go14, 0, none⟩) x5_2.length co14) y240 := (by rw [hw, Ny240.out]; exact HP15.1); clear HP15; have n0_ := Aside0.mk (hp_); have n1_ := Aside0.mk ((by rw [hw]; exact below_set (HB.out) GB14.out : Below w.heap.size w w16)); clear HO_5; clear HB; have HO_5 := n0_; have HB := n1_; clear n0_ n1_; clear hg hw hp_)))
                        go_roundg k2
                        case measure => have := HK1.out; have := HK2.out; omega
                        case rel => exact ⟨(y240), (wrap64 (x8_2 - 1)), (by first | rfl | (simp; done) | (simp [*]; done)), H', ⟨by have := HK1.out; have := HK2.out; omega⟩, ⟨by (with_reducible repeat (first | apply Kd.R_alloc | apply Kd.R_drewN | apply Kd.R_drew)); exact HO_5.out⟩, ⟨by repeat (first | (with_reducible first | exact HB.out | apply below_alloc | apply pw_below_drewN | apply below_drew1) | exact HB.out)⟩⟩
                      · rw [if_neg c13] at H
                        exact absurd H (by simp)
                    · rw [if_neg c12] at H
                      exact absurd H (by simp)
                  · rw [if_neg c10] at H
                    have c10b0 : (x7_1 == (a0.size : Int)) = false := beq_eq_false_iff_ne.mpr c10
                    have c10b1 : (x7_1 != (a0.size : Int)) = true := bne_iff_ne.mpr c10
                    by_cases c17 : 0 ≤ x7_1
                    · rw [if_pos c17] at H
                      have c17b0 : decide (0 ≤ x7_1) = true := decide_eq_true c17
                      clear c17
                      by_cases c18 : x7_1 < (a0.size : Int)
                      · rw [if_pos c18] at H
                        have c18b0 : decide (x7_1 < (a0.size : Int)) = true := decide_eq_true c18
                        clear c18
                        by_cases c20 : (bt a0 x7_1) = 42
                        · rw [if_pos c20] at H
                          have c20b0 : ((bt a0 x7_1) == 42) = true := beq_iff_eq.mpr c20
                          have c20b1 : ((bt a0 x7_1) != 42) = false := bne_eq_false_iff_eq.mpr c20
                          clear c20
                          obtain ⟨ji21, hji21⟩ : ∃ j_ : Int, (wrap64 ((wrap64 ((wrap64 (x7_1 + 1)) * (wrap64 ((a1.size : Int) + 1)))) + x8_2)) = j_ := ⟨_, rfl⟩
                          replace H : (if 0 ≤ (ji21) then (if (ji21) < (x5_2.length : Int) then (if rdOf false x5_2 (ji21) = true then (if 0 ≤ (wrap64 ((wrap64 (x7_1 * (wrap64 ((a1.size : Int) + 1)))) + x8_2)) then (if (wrap64 ((wrap64 (x7_1 * (wrap64 ((a1.size : Int) + 1)))) + x8_2)) < (x5_2.length : Int) then (barqueref09_inName.l1 k2 a0 a1 (x5_2.set ((wrap64 ((wrap64 (x7_1 * (wrap64 ((a1.size : Int) + 1)))) + x8_2)) : Int).toNat true) (wrap64 ((a1.size : Int) + 1)) x7_1 (wrap64 (x8_2 - 1))) else (none)) else (none)) else (if x8_2 < (a1.size : Int) then (if 0 ≤ (wrap64 ((wrap64 ((wrap64 (x7_1 * (wrap64 ((a1.size : Int) + 1)))) + x8_2)) + 1)) then (if (wrap64 ((wrap64 ((wrap64 (x7_1 * (wrap64 ((a1.size : Int) + 1)))) + x8_2)) + 1)) < (x5_2.length : Int) then (if 0 ≤ (wrap64 ((wrap64 (x7_1 * (wrap64 ((a1.size : Int) + 1)))) + x8_2)) then (if (wrap64 ((wrap64 (x7_1 * (wrap64 ((a1.size : Int) + 1)))) + x8_2)) < (x5_2.length : Int) then (barqueref09_inName.l1 k2 a0 a1 (x5_2.set ((wrap64 ((wrap64 (x7_1 * (wrap64 ((a1.size : Int) + 1)))) + x8_2)) : Int).toNat (rdOf false x5_2 (wrap64 ((wrap64 ((wrap64 (x7_1 * (wrap64 ((a1.size : Int) + 1)))) + x8_2)) + 1)))) (wrap64 ((a1.size : Int) + 1)) x7_1 (wrap64 (x8_2 - 1))) else (none)) else (none)) else (none)) else (none)) else (if 0 ≤ (wrap64 ((wrap64 (x7_1 * (wrap64 ((a1.size : Int) + 1)))) + x8_2)) then (if (wrap64 ((wrap64 (x7_1 * (wrap64 ((a1.size : Int) + 1)))) + x8_2)) < (x5_2.length : Int) then (barqueref09_inName.l1 k2 a0 a1 (x5_2.set ((wrap64 ((wrap64 (x7_1 * (wrap64 ((a1.size : Int) + 1)))) + x8_2)) : Int).toNat false) (wrap64 ((a1.size : Int) + 1)) x7_1 (wrap64 (x8_2 - 1))) else (none)) else (none)))) else (none)) else (none)) = some r := by first | (rw [hji21] at H; exact H) | (simp only [hji21] at H ⊢; exact H)
                          have hji21w : (IntKind.i64.wrap ((wrap64 ((wrap64 (x7_1 + 1)) * (wrap64 ((a1.size : Int) + 1)))) + x8_2)) = ji21 := (i64_w _).trans hji21
                          by_cases c22 : 0 ≤ (ji21)
                          · rw [if_pos c22] at H
                            have c22b0 : decide (0 ≤ (ji21)) = true := decide_eq_true c22
                            clear c22
                            by_cases c23 : (ji21) < (x5_2.length : Int)
                            · rw [if_pos c23] at H
                              have c23b0 : decide ((ji21) < (x5_2.length : Int)) = true := decide_eq_true c23
                              clear c23
                              obtain ⟨bq24, hbq24⟩ : ∃ b_ : Bool, b_ = (rdOf false x5_2 (ji21)) := ⟨_, rfl⟩
                              replace H : (if bq24 = true then (if 0 ≤ (wrap64 ((wrap64 (x7_1 * (wrap64 ((a1.size : Int) + 1)))) + x8_2)) then (if (wrap64 ((wrap64 (x7_1 * (wrap64 ((a1.size : Int) + 1)))) + x8_2)) < (x5_2.length : Int) then (barqueref09_inName.l1 k2 a0 a1 (x5_2.set ((wrap64 ((wrap64 (x7_1 * (wrap64 ((a1.size : Int) + 1)))) + x8_2)) : Int).toNat true) (wrap64 ((a1.size : Int) + 1)) x7_1 (wrap64 (x8_2 - 1))) else (none)) else (none)) else (if x8_2 < (a1.size : Int) then (if 0 ≤ (wrap64 ((wrap64 ((wrap64 (x7_1 * (wrap64 ((a1.size : Int) + 1)))) + x8_2)) + 1)) then (if (wrap64 ((wrap64 ((wrap64 (x7_1 * (wrap64 ((a1.size : Int) + 1)))) + x8_2)) + 1)) < (x5_2.length : Int) then (if 0 ≤ (wrap64 ((wrap64 (x7_1 * (wrap64 ((a1.size : Int) + 1)))) + x8_2)) then (if (wrap64 ((wrap64 (x7_1 * (wrap64 ((a1.size : Int) + 1)))) + x8_2)) < (x5_2.length : Int) then (barqueref09_inName.l1 k2 a0 a1 (x5_2.set ((wrap64 ((wrap64 (x7_1 * (wrap64 ((a1.size : Int) + 1)))) + x8_2)) : Int).toNat (rdOf false x5_2 (wrap64 ((wrap64 ((wrap64 (x7_1 * (wrap64 ((a1.size : Int) + 1)))) + x8_2)) + 1)))) (wrap64 ((a1.size : Int) + 1)) x7_1 (wrap64 (x8_2 - 1))) else (none)) else (none)) else (none)) else (none)) else (if 0 ≤ (wrap64 ((wrap64 (x7_1 * (wrap64 ((a1.size : Int) + 1)))) + x8_2)) then (if (wrap64 ((wrap64 (x7_1 * (wrap64 ((a1.size : Int) + 1)))) + x8_2)) < (x5_2.length : Int) then (barqueref09_inName.l1 k2 a0 a1 (x5_2.set ((wrap64 ((wrap64 (x7_1 * (wrap64 ((a1.size : Int) + 1)))) + x8_2)) : Int).toNat false) (wrap64 ((a1.size : Int) + 1)) x7_1 (wrap64 (x8_2 - 1))) else (none)) else (none)))) = some r := by rw [← hbq24] at H; exact H
                              have Nbq24 := Aside0.mk hbq24
                              clear hbq24
                              by_cases c25 : bq24 = true
                              · subst c25
                                have H1 : (if 0 ≤ (wrap64 ((wrap64 (x7_1 * (wrap64 ((a1.size : Int) + 1)))) + x8_2)) then (if (wrap64 ((wrap64 (x7_1 * (wrap64 ((a1.size : Int) + 1)))) + x8_2)) < (x5_2.length : Int) then (barqueref09_inName.l1 k2 a0 a1 (x5_2.set ((wrap64 ((wrap64 (x7_1 * (wrap64 ((a1.size : Int) + 1)))) + x8_2)) : Int).toNat true) (wrap64 ((a1.size : Int) + 1)) x7_1 (wrap64 (x8_2 - 1))) else (none)) else (none)) = some r := by rw [if_pos rfl] at H; exact H
                                clear H
                                have H := H1
                                clear H1
                                obtain ⟨ji26, hji26⟩ : ∃ j_ : Int, (wrap64 ((wrap64 (x7_1 * (wrap64 ((a1.size : Int) + 1)))) + x8_2)) = j_ := ⟨_, rfl⟩
                                (try (have hjq_ : ji26 = ji11 := hji26.symm.trans hji11; subst hjq_))
                                replace H : (if 0 ≤ (ji26) then (if (ji26) < (x5_2.length : Int) then (barqueref09_inName.l1 k2 a0 a1 (x5_2.set ((ji26) : Int).toNat true) (wrap64 ((a1.size : Int) + 1)) x7_1 (wrap64 (x8_2 - 1))) else (none)) else (none)) = some r := by first | (rw [hji26] at H; exact H) | (simp only [hji26] at H ⊢; exact H)
                                have hji26w : (IntKind.i64.wrap ((wrap64 (x7_1 * (wrap64 ((a1.size : Int) + 1)))) + x8_2)) = ji26 := (i64_w _).trans hji26
                                by_cases c27 : 0 ≤ (ji26)
                                · rw [if_pos c27] at H
                                  have c27b0 : decide (0 ≤ (ji26)) = true := decide_eq_true c27
                                  clear c27
                                  by_cases c28 : (ji26) < (x5_2.length : Int)
                                  · rw [if_pos c28] at H
                                    have c28b0 : decide ((ji26) < (x5_2.length : Int)) = true := decide_eq_true c28
                                    clear c28
                                    obtain ⟨y242, hy242⟩ : ∃ y_ : List Bool, y_ = (x5_2.set ((ji26) : Int).toNat true) := ⟨_, rfl⟩
                                    replace H : (barqueref09_inName.l1 k2 a0 a1 y242 (wrap64 ((a1.size : Int) + 1)) x7_1 (wrap64 (x8_2 - 1))) = some r := by first | (rw [hy242]; with_reducible exact H) | (have H2_ := (Option.bind_some _ _).symm.trans H; rw [hy242]; with_reducible exact H2_) | (have H2_ := (Option.bind_some _ _).symm.trans H; with_reducible exact H2_) | with_reducible exact H | (rw [hy242]; exact H) | exact H
                                    have Ny242 := Aside0.mk hy242
                                    clear hy242
                                    have H' := Aside0.mk H
                                    clear H
                                    have p19 : 0 ≤ (x7_1 : Int) := of_decide_eq_true (by first | (with_reducible assumption) | assumption)
                                    have q19 : x7_1 < (a0.size : Int) := of_decide_eq_true (by first | (with_reducible assumption) | assumption)
                                    have hx19 := bt_at a0 x7_1
                                    replace p19 := eq_true p19
                                    replace q19 := eq_true q19
                                    obtain ⟨Ao30, co30, eo30⟩ := Kd.R_slice HO_5.out
                                    subst eo30
                                    have p241 : 0 ≤ ((ji21) : Int) := of_decide_eq_true (by first | (with_reducible assumption) | assumption)
                                    have q241 : (ji21) < (x5_2.length : Int) := of_decide_eq_true (by first | (with_reducible assumption) | assumption)
                                    obtain ⟨ad241, e241, hx241_0⟩ := Kd.at_bool (Kd.R_reads' HO_5.out).2.2 (ji21) p241 q241
                                    (try rw [← Nbq24.out] at hx241_0)
                                    cases e241
                                    replace p241 := eq_true p241
                                    replace q241 := eq_true q241
                                    have p29 : 0 ≤ ((ji26) : Int) := of_decide_eq_true (by first | (with_reducible assumption) | assumption)
                                    have q29 : ((ji26) : Int) < ((x5_2.length : Int) : Int) := of_decide_eq_true (by first | (with_reducible assumption) | assumption)
                                    obtain ⟨go29, co29, eo29, gb29, gl29, cl29, HG29⟩ := Kd.R_form HO_5.out (by omega)
                                    (first | cases eo29 | (injection eo29 with ea_ en_ ec_; (first | subst ea_ | (injection ea_ with ea_; subst ea_)); subst ec_; clear en_))
                                    have GB29 := Aside0.mk gb29
                                    have GG29 := Aside0.mk HG29
                                    clear gb29 gl29 HG29
                                    (first | simp only [add_plain] at hx241_0 | skip)
                                    obtain ⟨hx29_0, hf29_0⟩ := Kd.R_celln false HO_5.out ((ji26) : Int) p29 q29
                                    replace p29 := eq_true p29
                                    replace q29 := eq_true q29
                                    have HP31 := Kd.R_putg HO_5.out ((ji26) : Int) true
                                    go_wp2_with (first | ((with_reducible refine gate_store (t := 4) (p := 109) rfl ?_); (try (rw [drewN_self wr]; generalize hq_ : World.drewN wr _ = wr; have n0_ := Aside0.mk (Kd.R_at hq_ HO_5.out); have n1_ := Aside0.mk (below_at hq_ HB.out); clear hq_ HO_5 HB; have HO_5 := n0_; have HB := n1_; clear n0_ n1_; (try (have HP31 := Kd.R_putg HO_5.out ((ji26) : Int) true)); (try (obtain ⟨hx29_0, hf29_0⟩ := Kd.R_celln false HO_5.out ((ji26) : Int) (of_eq_true p29) (of_eq_true q29))))); refine store_event (t := 4) (p := 109) (v := ?vo_w32) (w1 := (wr.setCell ⟨go29, ((ji26) : Int).toNat, none⟩ (.bool true))) ?hg ?ho ?hn ?hr ?_; (case ho => rfl); (case hg => rfl); (case hn => rfl); (case hr => first | (go_simp; done) | (go_simp; rfl)); intro w32 hw; have hg : wr.grownBy w32 (some go29) := (by rw [hw]; exact HP31.2); have hp_ : Kd.R Kd.bool 4 w32 w.heap.size (fun _ => True) (.slice (some ⟨go29, 0, none⟩) x5_2.length co30) y242 := (by rw [hw, Ny242.out]; exact HP31.1); clear HP31; have n0_ := Aside0.mk (hp_); have n1_ := Aside0.mk ((by rw [hw]; exact below_set (HB.out) GB29.out : Below w.heap.size w w32)); clear HO_5; clear HB; have HO_5 := n0_; have HB := n1_; clear n0_ n1_; clear hg hw hp_))
                                    repeat (go_quiet (first | ((with_reducible refine gate_store (t := 4) (p := 109) rfl ?_); (try (rw [drewN_self wr]; generalize hq_ : World.drewN wr _ = wr; have n0_ := Aside0.mk (Kd.R_at hq_ HO_5.out); have n1_ := Aside0.mk (below_at hq_ HB.out); clear hq_ HO_5 HB; have HO_5 := n0_; have HB := n1_; clear n0_ n1_; (try (have HP31 := Kd.R_putg HO_5.out ((ji26) : Int) true)); (try (obtain ⟨hx29_0, hf29_0⟩ := Kd.R_celln false HO_5.out ((ji26) : Int) (of_eq_true p29) (of_eq_true q29))))); refine store_event (t := 4) (p := 109) (v := ?vo_w32) (w1 := (wr.setCell ⟨go29, ((ji26) : Int).toNat, none⟩ (.bool true))) ?hg ?ho ?hn ?hr ?_; (case ho => rfl); (case hg => rfl); (case hn => rfl); (case hr => first | (go_simp; done) | (go_simp; rfl)); intro w32 hw; have hg : wr.grownBy w32 (some go29) := (by rw [hw]; exact HP31.2); have hp_ : Kd.R Kd.bool 4 w32 w.heap.size (fun _ => True) (.slice (some ⟨go29, 0, none⟩) x5_2.length co30) y242 := (by rw [hw, Ny242.out]; exact HP31.1); clear HP31; have n0_ := Aside0.mk (hp_); have n1_ := Aside0.mk ((by rw [hw]; exact below_set (HB.out) GB29.out : Below w.heap.size w w32)); clear HO_5; clear HB; have HO_5 := n0_; have HB := n1_; clear n0_ n1_; clear hg hw hp_)); try go_wp2_with (first | ((with_reducible refine gate_store (t := 4) (p := 109) rfl ?_); (try (rw [drewN_self wr]; generalize hq_ : World.drewN wr _ = wr; have n0_ := Aside0.mk (Kd.R_at hq_ HO_5.out); have n1_ := Aside0.mk (below_at hq_ HB.out); clear hq_ HO_5 HB; have HO_5 := n0_; have HB := n1_; clear n0_ n1_; (try (have HP31 := Kd.R_putg HO_5.out ((ji26) : Int) true)); (try (obtain ⟨hx29_0, hf29_0⟩ := Kd.R_celln false HO_5.out ((ji26) : Int) (of_eq_true p29) (of_eq_true q29))))); refine store_event (t := 4) (p := 109) (v := ?vo_w32) (w1 := (wr.setCell ⟨go29, ((ji26) : Int).toNat, none⟩ (.bool true))) ?hg ?ho ?hn ?hr ?_; (case ho => rfl); (case hg => rfl); (case hn => rfl); (case hr => first | (go_simp; done) | (go_simp; rfl)); intro w32 hw; have hg : wr.grownBy w32 (some go29) := (by rw [hw]; exact HP31.2); have hp_ : Kd.R Kd.bool 4 w32 w.heap.size (fun _ => True) (.slice (some ⟨go29, 0, none⟩) x5_2.length co30) y242 := (by rw [hw, Ny242.out]; exact HP31.1); clear HP31; have n0_ := Aside0.mk (hp_); have n1_ := Aside0.mk ((by rw [hw]; exact below_set (HB.out) GB29.out : Below w.heap.size w w32)); clear HO_5; clear HB; have HO_5 := n0_; have HB := n1_; clear n0_ n1_; clear hg hw hp_)))
                                    go_roundg k2
                                    case measure => have := HK1.out; have := HK2.out; omega
                                    case rel => exact ⟨(y242), (wrap64 (x8_2 - 1)), (by first | rfl | (simp; done) | (simp [*]; done)), H', ⟨by have := HK1.out; have := HK2.out; omega⟩, ⟨by (with_reducible repeat (first | apply Kd.R_alloc | apply Kd.R_drewN | apply Kd.R_drew)); exact HO_5.out⟩, ⟨by repeat (first | (with_reducible first | exact HB.out | apply below_alloc | apply pw_below_drewN | apply below_drew1) | exact HB.out)⟩⟩
                                  · rw [if_neg c28] at H
                                    exact absurd H (by simp)
                                · rw [if_neg c27] at H
                                  exact absurd H (by simp)
                              · replace c25 := Bool.eq_false_iff.mpr c25
                                subst c25
                                have H1 : (if x8_2 < (a1.size : Int) then (if 0 ≤ (wrap64 ((wrap64 ((wrap64 (x7_1 * (wrap64 ((a1.size : Int) + 1)))) + x8_2)) + 1)) then (if (wrap64 ((wrap64 ((wrap64 (x7_1 * (wrap64 ((a1.size : Int) + 1)))) + x8_2)) + 1)) < (x5_2.length : Int) then (if 0 ≤ (wrap64 ((wrap64 (x7_1 * (wrap64 ((a1.size : Int) + 1)))) + x8_2)) then (if (wrap64 ((wrap64 (x7_1 * (wrap64 ((a1.size : Int) + 1)))) + x8_2)) < (x5_2.length : Int) then (barqueref09_inName.l1 k2 a0 a1 (x5_2.set ((wrap64 ((wrap64 (x7_1 * (wrap64 ((a1.size : Int) + 1)))) + x8_2)) : Int).toNat (rdOf false x5_2 (wrap64 ((wrap64 ((wrap64 (x7_1 * (wrap64 ((a1.size : Int) + 1)))) + x8_2)) + 1)))) (wrap64 ((a1.size : Int) + 1)) x7_1 (wrap64 (x8_2 - 1))) else (none)) else (none)) else (none)) else (none)) else (if 0 ≤ (wrap64 ((wrap64 (x7_1 * (wrap64 ((a1.size : Int) + 1)))) + x8_2)) then (if (wrap64 ((wrap64 (x7_1 * (wrap64 ((a1.size : Int) + 1)))) + x8_2)) < (x5_2.length : Int) then (barqueref09_inName.l1 k2 a0 a1 (x5_2.set ((wrap64 ((wrap64 (x7_1 * (wrap64 ((a1.size : Int) + 1)))) + x8_2)) : Int).toNat false) (wrap64 ((a1.size : Int) + 1)) x7_1 (wrap64 (x8_2 - 1))) else (none)) else (none))) = some r := by rw [if_neg (show ¬ (false = true) by decide)] at H; exact H
                                clear H
                                have H := H1
                                clear H1
                                by_cases c33 : x8_2 < (a1.size : Int)
                                · rw [if_pos c33] at H
                                  have c33b0 : decide (x8_2 < (a1.size : Int)) = true := decide_eq_true c33
                                  clear c33
                                  obtain ⟨ji34, hji34⟩ : ∃ j_ : Int, (wrap64 ((wrap64 ((wrap64 (x7_1 * (wrap64 ((a1.size : Int) + 1)))) + x8_2)) + 1)) = j_ := ⟨_, rfl⟩
                                  replace H : (if 0 ≤ (ji34) then (if (ji34) < (x5_2.length : Int) then (if 0 ≤ (wrap64 ((wrap64 (x7_1 * (wrap64 ((a1.size : Int) + 1)))) + x8_2)) then (if (wrap64 ((wrap64 (x7_1 * (wrap64 ((a1.size : Int) + 1)))) + x8_2)) < (x5_2.length : Int) then (barqueref09_inName.l1 k2 a0 a1 (x5_2.set ((wrap64 ((wrap64 (x7_1 * (wrap64 ((a1.size : Int) + 1)))) + x8_2)) : Int).toNat (rdOf false x5_2 (ji34))) (wrap64 ((a1.size : Int) + 1)) x7_1 (wrap64 (x8_2 - 1))) else (none)) else (none)) else (none)) else (none)) = some r := by first | (rw [hji34] at H; exact H) | (simp only [hji34] at H ⊢; exact H)
                                  have hji34w : (IntKind.i64.wrap ((wrap64 ((wrap64 (x7_1 * (wrap64 ((a1.size : Int) + 1)))) + x8_2)) + 1)) = ji34 := (i64_w _).trans hji34
                                  (try (have hjr_ji34_ji11 := hji34; rw [hji11] at hjr_ji34_ji11))
                                  (try (have hjr_ji34_ji11w := hji34w; rw [hji11] at hjr_ji34_ji11w))
                                  (try (have hjr_ji34_ji26 := hji34; rw [hji26] at hjr_ji34_ji26))
                                  (try (have hjr_ji34_ji26w := hji34w; rw [hji26] at hjr_ji34_ji26w))
                                  by_cases c35 : 0 ≤ (ji34)
                                  · rw [if_pos c35] at H
                                    have c35b0 : decide (0 ≤ (ji34)) = true := decide_eq_true c35
                                    clear c35
                                    by_cases c36 : (ji34) < (x5_2.length : Int)
                                    · rw [if_pos c36] at H
                                      have c36b0 : decide ((ji34) < (x5_2.length : Int)) = true := decide_eq_true c36
                                      clear c36
                                      obtain ⟨ji37, hji37⟩ : ∃ j_ : Int, (wrap64 ((wrap64 (x7_1 * (wrap64 ((a1.size : Int) + 1)))) + x8_2)) = j_ := ⟨_, rfl⟩
                                      (try (have hjq_ : ji37 = ji26 := hji37.symm.trans hji26; subst hjq_))
                                      replace H : (if 0 ≤ (ji37) then (if (ji37) < (x5_2.length : Int) then (barqueref09_inName.l1 k2 a0 a1 (x5_2.set ((ji37) : Int).toNat (rdOf false x5_2 (ji34))) (wrap64 ((a1.size : Int) + 1)) x7_1 (wrap64 (x8_2 - 1))) else (none)) else (none)) = some r := by first | (rw [hji37] at H; exact H) | (simp only [hji37] at H ⊢; exact H)
                                      have hji37w : (IntKind.i64.wrap ((wrap64 (x7_1 * (wrap64 ((a1.size : Int) + 1)))) + x8_2)) = ji37 := (i64_w _).trans hji37
                                      (try (have hjr_ji34_ji37 := hji34; rw [hji37] at hjr_ji34_ji37))
                                      (try (have hjr_ji34_ji37w := hji34w; rw [hji37] at hjr_ji34_ji37w))
                                      by_cases c38 : 0 ≤ (ji37)
                                      · rw [if_pos c38] at H
                                        have c38b0 : decide (0 ≤ (ji37)) = true := decide_eq_true c38
                                        clear c38
                                        by_cases c39 : (ji37) < (x5_2.length : Int)
                                        · rw [if_pos c39] at H
                                          have c39b0 : decide ((ji37) < (x5_2.length : Int)) = true := decide_eq_true c39
                                          clear c39
                                          obtain ⟨y244, hy244⟩ : ∃ y_ : List Bool, y_ = (x5_2.set ((ji37) : Int).toNat (rdOf false x5_2 (ji34))) := ⟨_, rfl⟩
                                          replace H : (barqueref09_inName.l1 k2 a0 a1 y244 (wrap64 ((a1.size : Int) + 1)) x7_1 (wrap64 (x8_2 - 1))) = some r := by first | (rw [hy244]; with_reducible exact H) | (have H2_ := (Option.bind_some _ _).symm.trans H; rw [hy244]; with_reducible exact H2_) | (have H2_ := (Option.bind_some _ _).symm.trans H; with_reducible exact H2_) | with_reducible exact H | (rw [hy244]; exact H) | exact H
                                          have Ny244 := Aside0.mk hy244
                                          clear hy244
                                          have H' := Aside0.mk H
                                          clear H
                                          have p19 : 0 ≤ (x7_1 : Int) := of_decide_eq_true (by first | (with_reducible assumption) | assumption)
                                          have q19 : x7_1 < (a0.size : Int) := of_decide_eq_true (by first | (with_reducible assumption) | assumption)
                                          have hx19 := bt_at a0 x7_1
                                          replace p19 := eq_true p19
                                          replace q19 := eq_true q19
                                          obtain ⟨Ao41, co41, eo41⟩ := Kd.R_slice HO_5.out
                                          subst eo41
                                          have p241 : 0 ≤ ((ji21) : Int) := of_decide_eq_true (by first | (with_reducible assumption) | assumption)
                                          have q241 : (ji21) < (x5_2.length : Int) := of_decide_eq_true (by first | (with_reducible assumption) | assumption)
                                          obtain ⟨ad241, e241, hx241_0⟩ := Kd.at_bool (Kd.R_reads' HO_5.out).2.2 (ji21) p241 q241
                                          (try rw [← Nbq24.out] at hx241_0)
                                          cases e241
                                          replace p241 := eq_true p241
                                          replace q241 := eq_true q241
                                          have p243 : 0 ≤ ((ji34) : Int) := of_decide_eq_true (by first | (with_reducible assumption) | assumption)
                                          have q243 : (ji34) < (x5_2.length : Int) := of_decide_eq_true (by first | (with_reducible assumption) | assumption)
                                          obtain ⟨ad243, e243, hx243_0⟩ := Kd.at_bool (Kd.R_reads' HO_5.out).2.2 (ji34) p243 q243
                                          (try rw [← Nbq24.out] at hx243_0)
                                          obtain rfl : ad241 = ad243 := (by injection e243)
                                          replace p243 := eq_true p243
                                          replace q243 := eq_true q243
                                          have p40 : 0 ≤ ((ji37) : Int) := of_decide_eq_true (by first | (with_reducible assumption) | assumption)
                                          have q40 : ((ji37) : Int) < ((x5_2.length : Int) : Int) := of_decide_eq_true (by first | (with_reducible assumption) | assumption)
                                          obtain ⟨go40, co40, eo40, gb40, gl40, cl40, HG40⟩ := Kd.R_form HO_5.out (by omega)
                                          (first | cases eo40 | (injection eo40 with ea_ en_ ec_; (first | subst ea_ | (injection ea_ with ea_; subst ea_)); subst ec_; clear en_))
                                          have GB40 := Aside0.mk gb40
                                          have GG40 := Aside0.mk HG40
                                          clear gb40 gl40 HG40
                                          (first | simp only [add_plain] at hx241_0 | skip)
                                          (first | simp only [add_plain] at hx243_0 | skip)
                                          obtain ⟨hx40_0, hf40_0⟩ := Kd.R_celln false HO_5.out ((ji37) : Int) p40 q40
                                          replace p40 := eq_true p40
                                          replace q40 := eq_true q40
                                          have HP42 := Kd.R_putg HO_5.out ((ji37) : Int) (rdOf false x5_2 (ji34))
                                          go_wp2_with (first | ((with_reducible refine gate_store (t := 4) (p := 109) rfl ?_); (try (rw [drewN_self wr]; generalize hq_ : World.drewN wr _ = wr; have n0_ := Aside0.mk (Kd.R_at hq_ HO_5.out); have n1_ := Aside0.mk (below_at hq_ HB.out); clear hq_ HO_5 HB; have HO_5 := n0_; have HB := n1_; clear n0_ n1_; (try (have HP42 := Kd.R_putg HO_5.out ((ji37) : Int) (rdOf false x5_2 (ji34)))); (try (obtain ⟨hx40_0, hf40_0⟩ := Kd.R_celln false HO_5.out ((ji37) : Int) (of_eq_true p40) (of_eq_true q40))))); refine store_event (t := 4) (p := 109) (v := ?vo_w43) (w1 := (wr.setCell ⟨go40, ((ji37) : Int).toNat, none⟩ (.bool (rdOf false x5_2 (ji34))))) ?hg ?ho ?hn ?hr ?_; (case ho => rfl); (case hg => rfl); (case hn => rfl); (case hr => first | (go_simp; done) | (go_simp; rfl)); intro w43 hw; have hg : wr.grownBy w43 (some go40) := (by rw [hw]; exact HP42.2); have hp_ : Kd.R Kd.bool 4 w43 w.heap.size (fun _ => True) (.slice (some ⟨go40, 0, none⟩) x5_2.length co41) y244 := (by rw [hw, Ny244.out]; exact HP42.1); clear HP42; have n0_ := Aside0.mk (hp_); have n1_ := Aside0.mk ((by rw [hw]; exact below_set (HB.out) GB40.out : Below w.heap.size w w43)); clear HO_5; clear HB; have HO_5 := n0_; have HB := n1_; clear n0_ n1_; clear hg hw hp_))
                                          repeat (go_quiet (first | ((with_reducible refine gate_store (t := 4) (p := 109) rfl ?_); (try (rw [drewN_self wr]; generalize hq_ : World.drewN wr _ = wr; have n0_ := Aside0.mk (Kd.R_at hq_ HO_5.out); have n1_ := Aside0.mk (below_at hq_ HB.out); clear hq_ HO_5 HB; have HO_5 := n0_; have HB := n1_; clear n0_ n1_; (try (have HP42 := Kd.R_putg HO_5.out ((ji37) : Int) (rdOf false x5_2 (ji34)))); (try (obtain ⟨hx40_0, hf40_0⟩ := Kd.R_celln false HO_5.out ((ji37) : Int) (of_eq_true p40) (of_eq_true q40))))); refine store_event (t := 4) (p := 109) (v := ?vo_w43) (w1 := (wr.setCell ⟨go40, ((ji37) : Int).toNat, none⟩ (.bool (rdOf false x5_2 (ji34))))) ?hg ?ho ?hn ?hr ?_; (case ho => rfl); (case hg => rfl); (case hn => rfl); (case hr => first | (go_simp; done) | (go_simp; rfl)); intro w43 hw; have hg : wr.grownBy w43 (some go40) := (by rw [hw]; exact HP42.2); have hp_ : Kd.R Kd.bool 4 w43 w.heap.size (fun _ => True) (.slice (some ⟨go40, 0, none⟩) x5_2.length co41) y244 := (by rw [hw, Ny244.out]; exact HP42.1); clear HP42; have n0_ := Aside0.mk (hp_); have n1_ := Aside0.mk ((by rw [hw]; exact below_set (HB.out) GB40.out : Below w.heap.size w w43)); clear HO_5; clear HB; have HO_5 := n0_; have HB := n1_; clear n0_ n1_; clear hg hw hp_)); try go_wp2_with (first | ((with_reducible refine gate_store (t := 4) (p := 109) rfl ?_); (try (rw [drewN_self wr]; generalize hq_ : World.drewN wr _ = wr; have n0_ := Aside0.mk (Kd.R_at hq_ HO_5.out); have n1_ := Aside0.mk (below_at hq_ HB.out); clear hq_ HO_5 HB; have HO_5 := n0_; have HB := n1_; clear n0_ n1_; (try (have HP42 := Kd.R_putg HO_5.out ((ji37) : Int) (rdOf false x5_2 (ji34)))); (try (obtain ⟨hx40_0, hf40_0⟩ := Kd.R_celln false HO_5.out ((ji37) : Int) (of_eq_true p40) (of_eq_true q40))))); refine store_event (t := 4) (p := 109) (v := ?vo_w43) (w1 := (wr.setCell ⟨go40, ((ji37) : Int).toNat, none⟩ (.bool (rdOf false x5_2 (ji34))))) ?hg ?ho ?hn ?hr ?_; (case ho => rfl); (case hg => rfl); (case hn => rfl); (case hr => first | (go_simp; done) | (go_simp; rfl)); intro w43 hw; have hg : wr.grownBy w43 (some go40) := (by rw [hw]; exact HP42.2); have hp_ : Kd.R Kd.bool 4 w43 w.heap.size (fun _ => True) (.slice (some ⟨go40, 0, none⟩) x5_2.length co41) y244 := (by rw [hw, Ny244.out]; exact HP42.1); clear HP42; have n0_ := Aside0.mk (hp_); have n1_ := Aside0.mk ((by rw [hw]; exact below_set (HB.out) GB40.out : Below w.heap.size w w43)); clear HO_5; clear HB; have HO_5 := n0_; have HB := n1_; clear n0_ n1_; clear hg hw hp_)))
                                          go_roundg k2
                                          case measure => have := HK1.out; have := HK2.out; omega
                                          case rel => exact ⟨(y244), (wrap64 (x8_2 - 1)), (by first | rfl | (simp; done) | (simp [*]; done)), H', ⟨by have := HK1.out; have := HK2.out; omega⟩, ⟨by (with_reducible repeat (first | apply Kd.R_alloc | apply Kd.R_drewN | apply Kd.R_drew)); exact HO_5.out⟩, ⟨by repeat (first | (with_reducible first | exact HB.out | apply below_alloc | apply pw_below_drewN | apply below_drew1) | exact HB.out)⟩⟩
                                        · rw [if_neg c39] at H
                                          exact absurd H (by simp)
                                      · rw [if_neg c38] at H
                                        exact absurd H (by simp)
                                    · rw [if_neg c36] at H
                                      exact absurd H (by simp)
                                  · rw [if_neg c35] at H
                                    exact absurd H (by simp)
                                · rw [if_neg c33] at H
                                  have c33b0 : decide (x8_2 < (a1.size : Int)) = false := decide_eq_false c33
                                  clear c33
                                  obtain ⟨ji44, hji44⟩ : ∃ j_ : Int, (wrap64 ((wrap64 (x7_1 * (wrap64 ((a1.size : Int) + 1)))) + x8_2)) = j_ := ⟨_, rfl⟩
                                  (try (have hjq_ : ji44 = ji26 := hji44.symm.trans hji26; subst hjq_))
                                  replace H : (if 0 ≤ (ji44) then (if (ji44) < (x5_2.length : Int) then (barqueref09_inName.l1 k2 a0 a1 (x5_2.set ((ji44) : Int).toNat false) (wrap64 ((a1.size : Int) + 1)) x7_1 (wrap64 (x8_2 - 1))) else (none)) else (none)) = some r := by first | (rw [hji44] at H; exact H) | (simp only [hji44] at H ⊢; exact H)
                                  have hji44w : (IntKind.i64.wrap ((wrap64 (x7_1 * (wrap64 ((a1.size : Int) + 1)))) + x8_2)) = ji44 := (i64_w _).trans hji44
                                  (try (have hjr_ji34_ji44 := hji34; rw [hji44] at hjr_ji34_ji44))
                                  (try (have hjr_ji34_ji44w := hji34w; rw [hji44] at hjr_ji34_ji44w))
                                  by_cases c45 : 0 ≤ (ji44)
                                  · rw [if_pos c45] at H
                                    have c45b0 : decide (0 ≤ (ji44)) = true := decide_eq_true c45
                                    clear c45
                                    by_cases c46 : (ji44) < (x5_2.length : Int)
                                    · rw [if_pos c46] at H
                                      have c46b0 : decide ((ji44) < (x5_2.length : Int)) = true := decide_eq_true c46
                                      clear c46
                                      obtain ⟨y245, hy245⟩ : ∃ y_ : List Bool, y_ = (x5_2.set ((ji44) : Int).toNat false) := ⟨_, rfl⟩
                                      replace H : (barqueref09_inName.l1 k2 a0 a1 y245 (wrap64 ((a1.size : Int) + 1)) x7_1 (wrap64 (x8_2 - 1))) = some r := by first | (rw [hy245]; with_reducible exact H) | (have H2_ := (Option.bind_some _ _).symm.trans H; rw [hy245]; with_reducible exact H2_) | (have H2_ := (Option.bind_some _ _).symm.trans H; with_reducible exact H2_) | with_reducible exact H | (rw [hy245]; exact H) | exact H
                                      have Ny245 := Aside0.mk hy245
                                      clear hy245
                                      have H' := Aside0.mk H
                                      clear H
                                      have p19 : 0 ≤ (x7_1 : Int) := of_decide_eq_true (by first | (with_reducible assumption) | assumption)
                                      have q19 : x7_1 < (a0.size : Int) := of_decide_eq_true (by first | (with_reducible assumption) | assumption)
                                      have hx19 := bt_at a0 x7_1
                                      replace p19 := eq_true p19
                                      replace q19 := eq_true q19
                                      obtain ⟨Ao48, co48, eo48⟩ := Kd.R_slice HO_5.out
                                      subst eo48
                                      have p241 : 0 ≤ ((ji21) : Int) := of_decide_eq_true (by first | (with_reducible assumption) | assumption)
                                      have q241 : (ji21) < (x5_2.length : Int) := of_decide_eq_true (by first | (with_reducible assumption) | assumption)
                                      obtain ⟨ad241, e241, hx241_0⟩ := Kd.at_bool (Kd.R_reads' HO_5.out).2.2 (ji21) p241 q241
                                      (try rw [← Nbq24.out] at hx241_0)
                                      cases e241
                                      replace p241 := eq_true p241
                                      replace q241 := eq_true q241
                                      have p47 : 0 ≤ ((ji44) : Int) := of_decide_eq_true (by first | (with_reducible assumption) | assumption)
                                      have q47 : ((ji44) : Int) < ((x5_2.length : Int) : Int) := of_decide_eq_true (by first | (with_reducible assumption) | assumption)
                                      obtain ⟨go47, co47, eo47, gb47, gl47, cl47, HG47⟩ := Kd.R_form HO_5.out (by omega)
                                      (first | cases eo47 | (injection eo47 with ea_ en_ ec_; (first | subst ea_ | (injection ea_ with ea_; subst ea_)); subst ec_; clear en_))
                                      have GB47 := Aside0.mk gb47
                                      have GG47 := Aside0.mk HG47
                                      clear gb47 gl47 HG47
                                      (first | simp only [add_plain] at hx241_0 | skip)
                                      obtain ⟨hx47_0, hf47_0⟩ := Kd.R_celln false HO_5.out ((ji44) : Int) p47 q47
                                      replace p47 := eq_true p47
                                      replace q47 := eq_true q47
                                      have HP49 := Kd.R_putg HO_5.out ((ji44) : Int) false
                                      go_wp2_with (first | ((with_reducible refine gate_store (t := 4) (p := 109) rfl ?_); (try (rw [drewN_self wr]; generalize hq_ : World.drewN wr _ = wr; have n0_ := Aside0.mk (Kd.R_at hq_ HO_5.out); have n1_ := Aside0.mk (below_at hq_ HB.out); clear hq_ HO_5 HB; have HO_5 := n0_; have HB := n1_; clear n0_ n1_; (try (have HP49 := Kd.R_putg HO_5.out ((ji44) : Int) false)); (try (obtain ⟨hx47_0, hf47_0⟩ := Kd.R_celln false HO_5.out ((ji44) : Int) (of_eq_true p47) (of_eq_true q47))))); refine store_event (t := 4) (p := 109) (v := ?vo_w50) (w1 := (wr.setCell ⟨go47, ((ji44) : Int).toNat, none⟩ (.bool false))) ?hg ?ho ?hn ?hr ?_; (case ho => rfl); (case hg => rfl); (case hn => rfl); (case hr => first | (go_simp; done) | (go_simp; rfl)); intro w50 hw; have hg : wr.grownBy w50 (some go47) := (by rw [hw]; exact HP49.2); have hp_ : Kd.R Kd.bool 4 w50 w.heap.size (fun _ => True) (.slice (some ⟨go47, 0, none⟩) x5_2.length co48) y245 := (by rw [hw, Ny245.out]; exact HP49.1); clear HP49; have n0_ := Aside0.mk (hp_); have n1_ := Aside0.mk ((by rw [hw]; exact below_set (HB.out) GB47.out : Below w.heap.size w w50)); clear HO_5; clear HB; have HO_5 := n0_; have HB := n1_; clear n0_ n1_; clear hg hw hp_))
                                      repeat (go_quiet (first | ((with_reducible refine gate_store (t := 4) (p := 109) rfl ?_); (try (rw [drewN_self wr]; generalize hq_ : World.drewN wr _ = wr; have n0_ := Aside0.mk (Kd.R_at hq_ HO_5.out); have n1_ := Aside0.mk (below_at hq_ HB.out); clear hq_ HO_5 HB; have HO_5 := n0_; have HB := n1_; clear n0_ n1_; (try (have HP49 := Kd.R_putg HO_5.out ((ji44) : Int) false)); (try (obtain ⟨hx47_0, hf47_0⟩ := Kd.R_celln false HO_5.out ((ji44) : Int) (of_eq_true p47) (of_eq_true q47))))); refine store_event (t := 4) (p := 109) (v := ?vo_w50) (w1 := (wr.setCell ⟨go47, ((ji44) : Int).toNat, none⟩ (.bool false))) ?hg ?ho ?hn ?hr ?_; (case ho => rfl); (case hg => rfl); (case hn => rfl); (case hr => first | (go_simp; done) | (go_simp; rfl)); intro w50 hw; have hg : wr.grownBy w50 (some go47) := (by rw [hw]; exact HP49.2); have hp_ : Kd.R Kd.bool 4 w50 w.heap.size (fun _ => True) (.slice (some ⟨go47, 0, none⟩) x5_2.length co48) y245 := (by rw [hw, Ny245.out]; exact HP49.1); clear HP49; have n0_ := Aside0.mk (hp_); have n1_ := Aside0.mk ((by rw [hw]; exact below_set (HB.out) GB47.out : Below w.heap.size w w50)); clear HO_5; clear HB; have HO_5 := n0_; have HB := n1_; clear n0_ n1_; clear hg hw hp_)); try go_wp2_with (first | ((with_reducible refine gate_store (t := 4) (p := 109) rfl ?_); (try (rw [drewN_self wr]; generalize hq_ : World.drewN wr _ = wr; have n0_ := Aside0.mk (Kd.R_at hq_ HO_5.out); have n1_ := Aside0.mk (below_at hq_ HB.out); clear hq_ HO_5 HB; have HO_5 := n0_; have HB := n1_; clear n0_ n1_; (try (have HP49 := Kd.R_putg HO_5.out ((ji44) : Int) false)); (try (obtain ⟨hx47_0, hf47_0⟩ := Kd.R_celln false HO_5.out ((ji44) : Int) (of_eq_true p47) (of_eq_true q47))))); refine store_event (t := 4) (p := 109) (v := ?vo_w50) (w1 := (wr.setCell ⟨go47, ((ji44) : Int).toNat, none⟩ (.bool false))) ?hg ?ho ?hn ?hr ?_; (case ho => rfl); (case hg => rfl); (case hn => rfl); (case hr => first | (go_simp; done) | (go_simp; rfl)); intro w50 hw; have hg : wr.grownBy w50 (some go47) := (by rw [hw]; exact HP49.2); have hp_ : Kd.R Kd.bool 4 w50 w.heap.size (fun _ => True) (.slice (some ⟨go47, 0, none⟩) x5_2.length co48) y245 := (by rw [hw, Ny245.out]; exact HP49.1); clear HP49; have n0_ := Aside0.mk (hp_); have n1_ := Aside0.mk ((by rw [hw]; exact below_set (HB.out) GB47.out : Below w.heap.size w w50)); clear HO_5; clear HB; have HO_5 := n0_; have HB := n1_; clear n0_ n1_; clear hg hw hp_)))
                                      go_roundg k2
                                      case measure => have := HK1.out; have := HK2.out; omega
                                      case rel => exact ⟨(y245), (wrap64 (x8_2 - 1)), (by first | rfl | (simp; done) | (simp [*]; done)), H', ⟨by have := HK1.out; have := HK2.out; omega⟩, ⟨by (with_reducible repeat (first | apply Kd.R_alloc | apply Kd.R_drewN | apply Kd.R_drew)); exact HO_5.out⟩, ⟨by repeat (first | (with_reducible first | exact HB.out | apply below_alloc | apply pw_below_drewN | apply below_drew1) | exact HB.out)⟩⟩
                                    · rw [if_neg c46] at H
                                      exact absurd H (by simp)
                                  · rw [if_neg c45] at H
                                    exact absurd H (by simp)
                            · rw [if_neg c23] at H
                              exact absurd H (by simp)
                          · rw [if_neg c22] at H
                            exact absurd H (by simp)
                        · rw [if_neg c20] at H
                          have c20b0 : ((bt a0 x7_1) == 42) = false := beq_eq_false_iff_ne.mpr c20
                          have c20b1 : ((bt a0 x7_1) != 42) = true := bne_iff_ne.mpr c20
                          by_cases c51 : x8_2 < (a1.size : Int)
                          · rw [if_pos c51] at H
                            have c51b0 : decide (x8_2 < (a1.size : Int)) = true := decide_eq_true c51
                            clear c51
                            by_cases c53 : (bt a0 x7_1) = 63
                            · rw [if_pos c53] at H
                              have c53b0 : ((bt a0 x7_1) == 63) = true := beq_iff_eq.mpr c53
                              have c53b1 : ((bt a0 x7_1) != 63) = false := bne_eq_false_iff_eq.mpr c53
                              clear c53
                              obtain ⟨ji54, hji54⟩ : ∃ j_ : Int, (wrap64 ((wrap64 ((wrap64 ((wrap64 (x7_1 + 1)) * (wrap64 ((a1.size : Int) + 1)))) + x8_2)) + 1)) = j_ := ⟨_, rfl⟩
                              replace H : (if 0 ≤ (ji54) then (if (ji54) < (x5_2.length : Int) then (if 0 ≤ (wrap64 ((wrap64 (x7_1 * (wrap64 ((a1.size : Int) + 1)))) + x8_2)) then (if (wrap64 ((wrap64 (x7_1 * (wrap64 ((a1.size : Int) + 1)))) + x8_2)) < (x5_2.length : Int) then (barqueref09_inName.l1 k2 a0 a1 (x5_2.set ((wrap64 ((wrap64 (x7_1 * (wrap64 ((a1.size : Int) + 1)))) + x8_2)) : Int).toNat (rdOf false x5_2 (ji54))) (wrap64 ((a1.size : Int) + 1)) x7_1 (wrap64 (x8_2 - 1))) else (none)) else (none)) else (none)) else (none)) = some r := by first | (rw [hji54] at H; exact H) | (simp only [hji54] at H ⊢; exact H)
                              have hji54w : (IntKind.i64.wrap ((wrap64 ((wrap64 ((wrap64 (x7_1 + 1)) * (wrap64 ((a1.size : Int) + 1)))) + x8_2)) + 1)) = ji54 := (i64_w _).trans hji54
                              (try (have hjr_ji54_ji21 := hji54; rw [hji21] at hjr_ji54_ji21))
                              (try (have hjr_ji54_ji21w := hji54w; rw [hji21] at hjr_ji54_ji21w))
                              by_cases c55 : 0 ≤ (ji54)
                              · rw [if_pos c55] at H
                                have c55b0 : decide (0 ≤ (ji54)) = true := decide_eq_true c55
                                clear c55
                                by_cases c56 : (ji54) < (x5_2.length : Int)
                                · rw [if_pos c56] at H
                                  have c56b0 : decide ((ji54) < (x5_2.length : Int)) = true := decide_eq_true c56
                                  clear c56
                                  obtain ⟨ji57, hji57⟩ : ∃ j_ : Int, (wrap64 ((wrap64 (x7_1 * (wrap64 ((a1.size : Int) + 1)))) + x8_2)) = j_ := ⟨_, rfl⟩
                                  (try (have hjq_ : ji57 = ji11 := hji57.symm.trans hji11; subst hjq_))
                                  replace H : (if 0 ≤ (ji57) then (if (ji57) < (x5_2.length : Int) then (barqueref09_inName.l1 k2 a0 a1 (x5_2.set ((ji57) : Int).toNat (rdOf false x5_2 (ji54))) (wrap64 ((a1.size : Int) + 1)) x7_1 (wrap64 (x8_2 - 1))) else (none)) else (none)) = some r := by first | (rw [hji57] at H; exact H) | (simp only [hji57] at H ⊢; exact H)
                                  have hji57w : (IntKind.i64.wrap ((wrap64 (x7_1 * (wrap64 ((a1.size : Int) + 1)))) + x8_2)) = ji57 := (i64_w _).trans hji57
                                  by_cases c58 : 0 ≤ (ji57)
                                  · rw [if_pos c58] at H
                                    have c58b0 : decide (0 ≤ (ji57)) = true := decide_eq_true c58
                                    clear c58
                                    by_cases c59 : (ji57) < (x5_2.length : Int)
                                    · rw [if_pos c59] at H
                                      have c59b0 : decide ((ji57) < (x5_2.length : Int)) = true := decide_eq_true c59
                                      clear c59
                                      obtain ⟨y247, hy247⟩ : ∃ y_ : List Bool, y_ = (x5_2.set ((ji57) : Int).toNat (rdOf false x5_2 (ji54))) := ⟨_, rfl⟩
                                      replace H : (barqueref09_inName.l1 k2 a0 a1 y247 (wrap64 ((a1.size : Int) + 1)) x7_1 (wrap64 (x8_2 - 1))) = some r := by first | (rw [hy247]; with_reducible exact H) | (have H2_ := (Option.bind_some _ _).symm.trans H; rw [hy247]; with_reducible exact H2_) | (have H2_ := (Option.bind_some _ _).symm.trans H; with_reducible exact H2_) | with_reducible exact H | (rw [hy247]; exact H) | exact H
                                      have Ny247 := Aside0.mk hy247
                                      clear hy247
                                      have H' := Aside0.mk H
                                      clear H
                                      have p19 : 0 ≤ (x7_1 : Int) := of_decide_eq_true (by first | (with_reducible assumption) | assumption)
                                      have q19 : x7_1 < (a0.size : Int) := of_decide_eq_true (by first | (with_reducible assumption) | assumption)
                                      have hx19 := bt_at a0 x7_1
                                      replace p19 := eq_true p19
                                      replace q19 := eq_true q19
                                      have p52 : 0 ≤ (x7_1 : Int) := of_decide_eq_true (by first | (with_reducible assumption) | assumption)
                                      have q52 : x7_1 < (a0.size : Int) := of_decide_eq_true (by first | (with_reducible assumption) | assumption)
                                      have hx52 := bt_at a0 x7_1
                                      replace p52 := eq_true p52
                                      replace q52 := eq_true q52
                                      obtain ⟨Ao61, co61, eo61⟩ := Kd.R_slice HO_5.out
                                      subst eo61
                                      have p246 : 0 ≤ ((ji54) : Int) := of_decide_eq_true (by first | (with_reducible assumption) | assumption)
                                      have q246 : (ji54) < (x5_2.length : Int) := of_decide_eq_true (by first | (with_reducible assumption) | assumption)
                                      obtain ⟨ad246, e246, hx246_0⟩ := Kd.at_bool (Kd.R_reads' HO_5.out).2.2 (ji54) p246 q246
                                      cases e246
                                      replace p246 := eq_true p246
                                      replace q246 := eq_true q246
                                      have p60 : 0 ≤ ((ji57) : Int) := of_decide_eq_true (by first | (with_reducible assumption) | assumption)
                                      have q60 : ((ji57) : Int) < ((x5_2.length : Int) : Int) := of_decide_eq_true (by first | (with_reducible assumption) | assumption)
                                      obtain ⟨go60, co60, eo60, gb60, gl60, cl60, HG60⟩ := Kd.R_form HO_5.out (by omega)
                                      (first | cases eo60 | (injection eo60 with ea_ en_ ec_; (first | subst ea_ | (injection ea_ with ea_; subst ea_)); subst ec_; clear en_))
                                      have GB60 := Aside0.mk gb60
                                      have GG60 := Aside0.mk HG60
                                      clear gb60 gl60 HG60
                                      (first | simp only [add_plain] at hx246_0 | skip)
                                      obtain ⟨hx60_0, hf60_0⟩ := Kd.R_celln false HO_5.out ((ji57) : Int) p60 q60
                                      replace p60 := eq_true p60
                                      replace q60 := eq_true q60
                                      have HP62 := Kd.R_putg HO_5.out ((ji57) : Int) (rdOf false x5_2 (ji54))
                                      go_wp2_with (first | ((with_reducible refine gate_store (t := 4) (p := 109) rfl ?_); (try (rw [drewN_self wr]; generalize hq_ : World.drewN wr _ = wr; have n0_ := Aside0.mk (Kd.R_at hq_ HO_5.out); have n1_ := Aside0.mk (below_at hq_ HB.out); clear hq_ HO_5 HB; have HO_5 := n0_; have HB := n1_; clear n0_ n1_; (try (have HP62 := Kd.R_putg HO_5.out ((ji57) : Int) (rdOf false x5_2 (ji54)))); (try (obtain ⟨hx60_0, hf60_0⟩ := Kd.R_celln false HO_5.out ((ji57) : Int) (of_eq_true p60) (of_eq_true q60))))); refine store_event (t := 4) (p := 109) (v := ?vo_w63) (w1 := (wr.setCell ⟨go60, ((ji57) : Int).toNat, none⟩ (.bool (rdOf false x5_2 (ji54))))) ?hg ?ho ?hn ?hr ?_; (case ho => rfl); (case hg => rfl); (case hn => rfl); (case hr => first | (go_simp; done) | (go_simp; rfl)); intro w63 hw; have hg : wr.grownBy w63 (some go60) := (by rw [hw]; exact HP62.2); have hp_ : Kd.R Kd.bool 4 w63 w.heap.size (fun _ => True) (.slice (some ⟨go60, 0, none⟩) x5_2.length co61) y247 := (by rw [hw, Ny247.out]; exact HP62.1); clear HP62; have n0_ := Aside0.mk (hp_); have n1_ := Aside0.mk ((by rw [hw]; exact below_set (HB.out) GB60.out : Below w.heap.size w w63)); clear HO_5; clear HB; have HO_5 := n0_; have HB := n1_; clear n0_ n1_; clear hg hw hp_))
                                      repeat (go_quiet (first | ((with_reducible refine gate_store (t := 4) (p := 109) rfl ?_); (try (rw [drewN_self wr]; generalize hq_ : World.drewN wr _ = wr; have n0_ := Aside0.mk (Kd.R_at hq_ HO_5.out); have n1_ := Aside0.mk (below_at hq_ HB.out); clear hq_ HO_5 HB; have HO_5 := n0_; have HB := n1_; clear n0_ n1_; (try (have HP62 := Kd.R_putg HO_5.out ((ji57) : Int) (rdOf false x5_2 (ji54)))); (try (obtain ⟨hx60_0, hf60_0⟩ := Kd.R_celln false HO_5.out ((ji57) : Int) (of_eq_true p60) (of_eq_true q60))))); refine store_event (t := 4) (p := 109) (v := ?vo_w63) (w1 := (wr.setCell ⟨go60, ((ji57) : Int).toNat, none⟩ (.bool (rdOf false x5_2 (ji54))))) ?hg ?ho ?hn ?hr ?_; (case ho => rfl); (case hg => rfl); (case hn => rfl); (case hr => first | (go_simp; done) | (go_simp; rfl)); intro w63 hw; have hg : wr.grownBy w63 (some go60) := (by rw [hw]; exact HP62.2); have hp_ : Kd.R Kd.bool 4 w63 w.heap.size (fun _ => True) (.slice (some ⟨go60, 0, none⟩) x5_2.length co61) y247 := (by rw [hw, Ny247.out]; exact HP62.1); clear HP62; have n0_ := Aside0.mk (hp_); have n1_ := Aside0.mk ((by rw [hw]; exact below_set (HB.out) GB60.out : Below w.heap.size w w63)); clear HO_5; clear HB; have HO_5 := n0_; have HB := n1_; clear n0_ n1_; clear hg hw hp_)); try go_wp2_with (first | ((with_reducible refine gate_store (t := 4) (p := 109) rfl ?_); (try (rw [drewN_self wr]; generalize hq_ : World.drewN wr _ = wr; have n0_ := Aside0.mk (Kd.R_at hq_ HO_5.out); have n1_ := Aside0.mk (below_at hq_ HB.out); clear hq_ HO_5 HB; have HO_5 := n0_; have HB := n1_; clear n0_ n1_; (try (have HP62 := Kd.R_putg HO_5.out ((ji57) : Int) (rdOf false x5_2 (ji54)))); (try (obtain ⟨hx60_0, hf60_0⟩ := Kd.R_celln false HO_5.out ((ji57) : Int) (of_eq_true p60) (of_eq_true q60))))); refine store_event (t := 4) (p := 109) (v := ?vo_w63) (w1 := (wr.setCell ⟨go60, ((ji57) : Int).toNat, none⟩ (.bool (rdOf false x5_2 (ji54))))) ?hg ?ho ?hn ?hr ?_; (case ho => rfl); (case hg => rfl); (case hn => rfl); (case hr => first | (go_simp; done) | (go_simp; rfl)); intro w63 hw; have hg : wr.grownBy w63 (some go60) := (by rw [hw]; exact HP62.2); have hp_ : Kd.R Kd.bool 4 w63 w.heap.size (fun _ => True) (.slice (some ⟨go60, 0, none⟩) x5_2.length co61) y247 := (by rw [hw, Ny247.out]; exact HP62.1); clear HP62; have n0_ := Aside0.mk (hp_); have n1_ := Aside0.mk ((by rw [hw]; exact below_set (HB.out) GB60.out : Below w.heap.size w w63)); clear HO_5; clear HB; have HO_5 := n0_; have HB := n1_; clear n0_ n1_; clear hg hw hp_)))
                                      go_roundg k2
                                      case measure => have := HK1.out; have := HK2.out; omega
                                      case rel => exact ⟨(y247), (wrap64 (x8_2 - 1)), (by first | rfl | (simp; done) | (simp [*]; done)), H', ⟨by have := HK1.out; have := HK2.out; omega⟩, ⟨by (with_reducible repeat (first | apply Kd.R_alloc | apply Kd.R_drewN | apply Kd.R_drew)); exact HO_5.out⟩, ⟨by repeat (first | (with_reducible first | exact HB.out | apply below_alloc | apply pw_below_drewN | apply below_drew1) | exact HB.out)⟩⟩
                                    · rw [if_neg c59] at H
                                      exact absurd H (by simp)
                                  · rw [if_neg c58] at H
                                    exact absurd H (by simp)
                                · rw [if_neg c56] at H
                                  exact absurd H (by simp)
                              · rw [if_neg c55] at H
                                exact absurd H (by simp)
                            · rw [if_neg c53] at H
                              have c53b0 : ((bt a0 x7_1) == 63) = false := beq_eq_false_iff_ne.mpr c53
                              have c53b1 : ((bt a0 x7_1) != 63) = true := bne_iff_ne.mpr c53
                              by_cases c65 : 0 ≤ x8_2
                              · rw [if_pos c65] at H
                                have c65b0 : decide (0 ≤ x8_2) = true := decide_eq_true c65
                                clear c65
                                by_cases c67 : (bt a0 x7_1) = (bt a1 x8_2)
                                · rw [if_pos c67] at H
                                  have c67b0 : ((bt a0 x7_1) == (bt a1 x8_2)) = true := beq_iff_eq.mpr c67
                                  have c67b1 : ((bt a0 x7_1) != (bt a1 x8_2)) = false := bne_eq_false_iff_eq.mpr c67
                                  clear c67
                                  obtain ⟨ji68, hji68⟩ : ∃ j_ : Int, (wrap64 ((wrap64 ((wrap64 ((wrap64 (x7_1 + 1)) * (wrap64 ((a1.size : Int) + 1)))) + x8_2)) + 1)) = j_ := ⟨_, rfl⟩
                                  (try (have hjq_ : ji68 = ji54 := hji68.symm.trans hji54; subst hjq_))
                                  replace H : (if 0 ≤ (ji68) then (if (ji68) < (x5_2.length : Int) then (if 0 ≤ (wrap64 ((wrap64 (x7_1 * (wrap64 ((a1.size : Int) + 1)))) + x8_2)) then (if (wrap64 ((wrap64 (x7_1 * (wrap64 ((a1.size : Int) + 1)))) + x8_2)) < (x5_2.length : Int) then (barqueref09_inName.l1 k2 a0 a1 (x5_2.set ((wrap64 ((wrap64 (x7_1 * (wrap64 ((a1.size : Int) + 1)))) + x8_2)) : Int).toNat (rdOf false x5_2 (ji68))) (wrap64 ((a1.size : Int) + 1)) x7_1 (wrap64 (x8_2 - 1))) else (none)) else (none)) else (none)) else (none)) = some r := by first | (rw [hji68] at H; exact H) | (simp only [hji68] at H ⊢; exact H)
                                  have hji68w : (IntKind.i64.wrap ((wrap64 ((wrap64 ((wrap64 (x7_1 + 1)) * (wrap64 ((a1.size : Int) + 1)))) + x8_2)) + 1)) = ji68 := (i64_w _).trans hji68
                                  (try (have hjr_ji68_ji21 := hji68; rw [hji21] at hjr_ji68_ji21))
                                  (try (have hjr_ji68_ji21w := hji68w; rw [hji21] at hjr_ji68_ji21w))
                                  by_cases c69 : 0 ≤ (ji68)
                                  · rw [if_pos c69] at H
                                    have c69b0 : decide (0 ≤ (ji68)) = true := decide_eq_true c69
                                    clear c69
                                    by_cases c70 : (ji68) < (x5_2.length : Int)
                                    · rw [if_pos c70] at H
                                      have c70b0 : decide ((ji68) < (x5_2.length : Int)) = true := decide_eq_true c70
                                      clear c70
                                      obtain ⟨ji71, hji71⟩ : ∃ j_ : Int, (wrap64 ((wrap64 (x7_1 * (wrap64 ((a1.size : Int) + 1)))) + x8_2)) = j_ := ⟨_, rfl⟩
                                      (try (have hjq_ : ji71 = ji57 := hji71.symm.trans hji57; subst hjq_))
                                      replace H : (if 0 ≤ (ji71) then (if (ji71) < (x5_2.length : Int) then (barqueref09_inName.l1 k2 a0 a1 (x5_2.set ((ji71) : Int).toNat (rdOf false x5_2 (ji68))) (wrap64 ((a1.size : Int) + 1)) x7_1 (wrap64 (x8_2 - 1))) else (none)) else (none)) = some r := by first | (rw [hji71] at H; exact H) | (simp only [hji71] at H ⊢; exact H)
                                      have hji71w : (IntKind.i64.wrap ((wrap64 (x7_1 * (wrap64 ((a1.size : Int) + 1)))) + x8_2)) = ji71 := (i64_w _).trans hji71
                                      by_cases c72 : 0 ≤ (ji71)
                                      · rw [if_pos c72] at H
                                        have c72b0 : decide (0 ≤ (ji71)) = true := decide_eq_true c72
                                        clear c72
                                        by_cases c73 : (ji71) < (x5_2.length : Int)
                                        · rw [if_pos c73] at H
                                          have c73b0 : decide ((ji71) < (x5_2.length : Int)) = true := decide_eq_true c73
                                          clear c73
                                          obtain ⟨y249, hy249⟩ : ∃ y_ : List Bool, y_ = (x5_2.set ((ji71) : Int).toNat (rdOf false x5_2 (ji68))) := ⟨_, rfl⟩
                                          replace H : (barqueref09_inName.l1 k2 a0 a1 y249 (wrap64 ((a1.size : Int) + 1)) x7_1 (wrap64 (x8_2 - 1))) = some r := by first | (rw [hy249]; with_reducible exact H) | (have H2_ := (Option.bind_some _ _).symm.trans H; rw [hy249]; with_reducible exact H2_) | (have H2_ := (Option.bind_some _ _).symm.trans H; with_reducible exact H2_) | with_reducible exact H | (rw [hy249]; exact H) | exact H
                                          have Ny249 := Aside0.mk hy249
                                          clear hy249
                                          have H' := Aside0.mk H
                                          clear H
                                          have p19 : 0 ≤ (x7_1 : Int) := of_decide_eq_true (by first | (with_reducible assumption) | assumption)
                                          have q19 : x7_1 < (a0.size : Int) := of_decide_eq_true (by first | (with_reducible assumption) | assumption)
                                          have hx19 := bt_at a0 x7_1
                                          replace p19 := eq_true p19
                                          replace q19 := eq_true q19
                                          have p52 : 0 ≤ (x7_1 : Int) := of_decide_eq_true (by first | (with_reducible assumption) | assumption)
                                          have q52 : x7_1 < (a0.size : Int) := of_decide_eq_true (by first | (with_reducible assumption) | assumption)
                                          have hx52 := bt_at a0 x7_1
                                          replace p52 := eq_true p52
                                          replace q52 := eq_true q52
                                          have p64 : 0 ≤ (x7_1 : Int) := of_decide_eq_true (by first | (with_reducible assumption) | assumption)
                                          have q64 : x7_1 < (a0.size : Int) := of_decide_eq_true (by first | (with_reducible assumption) | assumption)
                                          have hx64 := bt_at a0 x7_1
                                          replace p64 := eq_true p64
                                          replace q64 := eq_true q64
                                          have p66 : 0 ≤ (x8_2 : Int) := of_decide_eq_true (by first | (with_reducible assumption) | assumption)
                                          have q66 : x8_2 < (a1.size : Int) := of_decide_eq_true (by first | (with_reducible assumption) | assumption)
                                          have hx66 := bt_at a1 x8_2
                                          replace p66 := eq_true p66
                                          replace q66 := eq_true q66
                                          obtain ⟨Ao75, co75, eo75⟩ := Kd.R_slice HO_5.out
                                          subst eo75
                                          have p248 : 0 ≤ ((ji68) : Int) := of_decide_eq_true (by first | (with_reducible assumption) | assumption)
                                          have q248 : (ji68) < (x5_2.length : Int) := of_decide_eq_true (by first | (with_reducible assumption) | assumption)
                                          obtain ⟨ad248, e248, hx248_0⟩ := Kd.at_bool (Kd.R_reads' HO_5.out).2.2 (ji68) p248 q248
                                          cases e248
                                          replace p248 := eq_true p248
                                          replace q248 := eq_true q248
                                          have p74 : 0 ≤ ((ji71) : Int) := of_decide_eq_true (by first | (with_reducible assumption) | assumption)
                                          have q74 : ((ji71) : Int) < ((x5_2.length : Int) : Int) := of_decide_eq_true (by first | (with_reducible assumption) | assumption)
                                          obtain ⟨go74, co74, eo74, gb74, gl74, cl74, HG74⟩ := Kd.R_form HO_5.out (by omega)
                                          (first | cases eo74 | (injection eo74 with ea_ en_ ec_; (first | subst ea_ | (injection ea_ with ea_; subst ea_)); subst ec_; clear en_))
                                          have GB74 := Aside0.mk gb74
                                          have GG74 := Aside0.mk HG74
                                          clear gb74 gl74 HG74
                                          (first | simp only [add_plain] at hx248_0 | skip)
                                          obtain ⟨hx74_0, hf74_0⟩ := Kd.R_celln false HO_5.out ((ji71) : Int) p74 q74
                                          replace p74 := eq_true p74
                                          replace q74 := eq_true q74
                                          have HP76 := Kd.R_putg HO_5.out ((ji71) : Int) (rdOf false x5_2 (ji68))
                                          go_wp2_with (first | ((with_reducible refine gate_store (t := 4) (p := 109) rfl ?_); (try (rw [drewN_self wr]; generalize hq_ : World.drewN wr _ = wr; have n0_ := Aside0.mk (Kd.R_at hq_ HO_5.out); have n1_ := Aside0.mk (below_at hq_ HB.out); clear hq_ HO_5 HB; have HO_5 := n0_; have HB := n1_; clear n0_ n1_; (try (have HP76 := Kd.R_putg HO_5.out ((ji71) : Int) (rdOf false x5_2 (ji68)))); (try (obtain ⟨hx74_0, hf74_0⟩ := Kd.R_celln false HO_5.out ((ji71) : Int) (of_eq_true p74) (of_eq_true q74))))); refine store_event (t := 4) (p := 109) (v := ?vo_w77) (w1 := (wr.setCell ⟨go74, ((ji71) : Int).toNat, none⟩ (.bool (rdOf false x5_2 (ji68))))) ?hg ?ho ?hn ?hr ?_; (case ho => rfl); (case hg => rfl); (case hn => rfl); (case hr => first | (go_simp; done) | (go_simp; rfl)); intro w77 hw; have hg : wr.grownBy w77 (some go74) := (by rw [hw]; exact HP76.2); have hp_ : Kd.R Kd.bool 4 w77 w.heap.size (fun _ => True) (.slice (some ⟨go74, 0, none⟩) x5_2.length co75) y249 := (by rw [hw, Ny249.out]; exact HP76.1); clear HP76; have n0_ := Aside0.mk (hp_); have n1_ := Aside0.mk ((by rw [hw]; exact below_set (HB.out) GB74.out : Below w.heap.size w w77)); clear HO_5; clear HB; have HO_5 := n0_; have HB := n1_; clear n0_ n1_; clear hg hw hp_))
                                          repeat (go_quiet (first | ((with_reducible refine gate_store (t := 4) (p := 109) rfl ?_); (try (rw [drewN_self wr]; generalize hq_ : World.drewN wr _ = wr; have n0_ := Aside0.mk (Kd.R_at hq_ HO_5.out); have n1_ := Aside0.mk (below_at hq_ HB.out); clear hq_ HO_5 HB; have HO_5 := n0_; have HB := n1_; clear n0_ n1_; (try (have HP76 := Kd.R_putg HO_5.out ((ji71) : Int) (rdOf false x5_2 (ji68)))); (try (obtain ⟨hx74_0, hf74_0⟩ := Kd.R_celln false HO_5.out ((ji71) : Int) (of_eq_true p74) (of_eq_true q74))))); refine store_event (t := 4) (p := 109) (v := ?vo_w77) (w1 := (wr.setCell ⟨go74, ((ji71) : Int).toNat, none⟩ (.bool (rdOf false x5_2 (ji68))))) ?hg ?ho ?hn ?hr ?_; (case ho => rfl); (case hg => rfl); (case hn => rfl); (case hr => first | (go_simp; done) | (go_simp; rfl)); intro w77 hw; have hg : wr.grownBy w77 (some go74) := (by rw [hw]; exact HP76.2); have hp_ : Kd.R Kd.bool 4 w77 w.heap.size (fun _ => True) (.slice (some ⟨go74, 0, none⟩) x5_2.length co75) y249 := (by rw [hw, Ny249.out]; exact HP76.1); clear HP76; have n0_ := Aside0.mk (hp_); have n1_ := Aside0.mk ((by rw [hw]; exact below_set (HB.out) GB74.out : Below w.heap.size w w77)); clear HO_5; clear HB; have HO_5 := n0_; have HB := n1_; clear n0_ n1_; clear hg hw hp_)); try go_wp2_with (first | ((with_reducible refine gate_store (t := 4) (p := 109) rfl ?_); (try (rw [drewN_self wr]; generalize hq_ : World.drewN wr _ = wr; have n0_ := Aside0.mk (Kd.R_at hq_ HO_5.out); have n1_ := Aside0.mk (below_at hq_ HB.out); clear hq_ HO_5 HB; have HO_5 := n0_; have HB := n1_; clear n0_ n1_; (try (have HP76 := Kd.R_putg HO_5.out ((ji71) : Int) (rdOf false x5_2 (ji68)))); (try (obtain ⟨hx74_0, hf74_0⟩ := Kd.R_celln false HO_5.out ((ji71) : Int) (of_eq_true p74) (of_eq_true q74))))); refine store_event (t := 4) (p := 109) (v := ?vo_w77) (w1 := (wr.setCell ⟨go74, ((ji71) : Int).toNat, none⟩ (.bool (rdOf false x5_2 (ji68))))) ?hg ?ho ?hn ?hr ?_; (case ho => rfl); (case hg => rfl); (case hn => rfl); (case hr => first | (go_simp; done) | (go_simp; rfl)); intro w77 hw; have hg : wr.grownBy w77 (some go74) := (by rw [hw]; exact HP76.2); have hp_ : Kd.R Kd.bool 4 w77 w.heap.size (fun _ => True) (.slice (some ⟨go74, 0, none⟩) x5_2.length co75) y249 := (by rw [hw, Ny249.out]; exact HP76.1); clear HP76; have n0_ := Aside0.mk (hp_); have n1_ := Aside0.mk ((by rw [hw]; exact below_set (HB.out) GB74.out : Below w.heap.size w w77)); clear HO_5; clear HB; have HO_5 := n0_; have HB := n1_; clear n0_ n1_; clear hg hw hp_)))
                                          go_roundg k2
                                          case measure => have := HK1.out; have := HK2.out; omega
                                          case rel => exact ⟨(y249), (wrap64 (x8_2 - 1)), (by first | rfl | (simp; done) | (simp [*]; done)), H', ⟨by have := HK1.out; have := HK2.out; omega⟩, ⟨by (with_reducible repeat (first | apply Kd.R_alloc | apply Kd.R_drewN | apply Kd.R_drew)); exact HO_5.out⟩, ⟨by repeat (first | (with_reducible first | exact HB.out | apply below_alloc | apply pw_below_drewN | apply below_drew1) | exact HB.out)⟩⟩
                                        · rw [if_neg c73] at H
                                          exact absurd H (by simp)
                                      · rw [if_neg c72] at H
                                        exact absurd H (by simp)
                                    · rw [if_neg c70] at H
                                      exact absurd H (by simp)
                                  · rw [if_neg c69] at H
                                    exact absurd H (by simp)
                                · rw [if_neg c67] at H
                                  have c67b0 : ((bt a0 x7_1) == (bt a1 x8_2)) = false := beq_eq_false_iff_ne.mpr c67
                                  have c67b1 : ((bt a0 x7_1) != (bt a1 x8_2)) = true := bne_iff_ne.mpr c67
                                  obtain ⟨ji78, hji78⟩ : ∃ j_ : Int, (wrap64 ((wrap64 (x7_1 * (wrap64 ((a1.size : Int) + 1)))) + x8_2)) = j_ := ⟨_, rfl⟩
                                  (try (have hjq_ : ji78 = ji57 := hji78.symm.trans hji57; subst hjq_))
                                  replace H : (if 0 ≤ (ji78) then (if (ji78) < (x5_2.length : Int) then (barqueref09_inName.l1 k2 a0 a1 (x5_2.set ((ji78) : Int).toNat false) (wrap64 ((a1.size : Int) + 1)) x7_1 (wrap64 (x8_2 - 1))) else (none)) else (none)) = some r := by first | (rw [hji78] at H; exact H) | (simp only [hji78] at H ⊢; exact H)
                                  have hji78w : (IntKind.i64.wrap ((wrap64 (x7_1 * (wrap64 ((a1.size : Int) + 1)))) + x8_2)) = ji78 := (i64_w _).trans hji78
                                  by_cases c79 : 0 ≤ (ji78)
                                  · rw [if_pos c79] at H
                                    have c79b0 : decide (0 ≤ (ji78)) = true := decide_eq_true c79
                                    clear c79
                                    by_cases c80 : (ji78) < (x5_2.length : Int)
                                    · rw [if_pos c80] at H
                                      have c80b0 : decide ((ji78) < (x5_2.length : Int)) = true := decide_eq_true c80
                                      clear c80
                                      obtain ⟨y250, hy250⟩ : ∃ y_ : List Bool, y_ = (x5_2.set ((ji78) : Int).toNat false) := ⟨_, rfl⟩
                                      replace H : (barqueref09_inName.l1 k2 a0 a1 y250 (wrap64 ((a1.size : Int) + 1)) x7_1 (wrap64 (x8_2 - 1))) = some r := by first | (rw [hy250]; with_reducible exact H) | (have H2_ := (Option.bind_some _ _).symm.trans H; rw [hy250]; with_reducible exact H2_) | (have H2_ := (Option.bind_some _ _).symm.trans H; with_reducible exact H2_) | with_reducible exact H | (rw [hy250]; exact H) | exact H
                                      have Ny250 := Aside0.mk hy250
                                      clear hy250
                                      have H' := Aside0.mk H
                                      clear H
                                      have p19 : 0 ≤ (x7_1 : Int) := of_decide_eq_true (by first | (with_reducible assumption) | assumption)
                                      have q19 : x7_1 < (a0.size : Int) := of_decide_eq_true (by first | (with_reducible assumption) | assumption)
                                      have hx19 := bt_at a0 x7_1
                                      replace p19 := eq_true p19
                                      replace q19 := eq_true q19
                                      have p52 : 0 ≤ (x7_1 : Int) := of_decide_eq_true (by first | (with_reducible assumption) | assumption)
                                      have q52 : x7_1 < (a0.size : Int) := of_decide_eq_true (by first | (with_reducible assumption) | assumption)
                                      have hx52 := bt_at a0 x7_1
                                      replace p52 := eq_true p52
                                      replace q52 := eq_true q52
                                      have p64 : 0 ≤ (x7_1 : Int) := of_decide_eq_true (by first | (with_reducible assumption) | assumption)
                                      have q64 : x7_1 < (a0.size : Int) := of_decide_eq_true (by first | (with_reducible assumption) | assumption)
                                      have hx64 := bt_at a0 x7_1
                                      replace p64 := eq_true p64
                                      replace q64 := eq_true q64
                                      have p66 : 0 ≤ (x8_2 : Int) := of_decide_eq_true (by first | (with_reducible assumption) | assumption)
                                      have q66 : x8_2 < (a1.size : Int) := of_decide_eq_true (by first | (with_reducible assumption) | assumption)
                                      have hx66 := bt_at a1 x8_2
                                      replace p66 := eq_true p66
                                      replace q66 := eq_true q66
                                      have p81 : 0 ≤ ((ji78) : Int) := of_decide_eq_true (by first | (with_reducible assumption) | assumption)
                                      have q81 : ((ji78) : Int) < ((x5_2.length : Int) : Int) := of_decide_eq_true (by first | (with_reducible assumption) | assumption)
                                      obtain ⟨go81, co81, eo81, gb81, gl81, cl81, HG81⟩ := Kd.R_form HO_5.out (by omega)
                                      (first | cases eo81 | (injection eo81 with ea_ en_ ec_; (first | subst ea_ | (injection ea_ with ea_; subst ea_)); subst ec_; clear en_))
                                      have GB81 := Aside0.mk gb81
                                      have GG81 := Aside0.mk HG81
                                      clear gb81 gl81 HG81
                                      obtain ⟨hx81_0, hf81_0⟩ := Kd.R_celln false HO_5.out ((ji78) : Int) p81 q81
                                      replace p81 := eq_true p81
                                      replace q81 := eq_true q81
                                      have HP82 := Kd.R_putg HO_5.out ((ji78) : Int) false
                                      go_wp2_with (first | ((with_reducible refine gate_store (t := 4) (p := 109) rfl ?_); (try (rw [drewN_self wr]; generalize hq_ : World.drewN wr _ = wr; have n0_ := Aside0.mk (Kd.R_at hq_ HO_5.out); have n1_ := Aside0.mk (below_at hq_ HB.out); clear hq_ HO_5 HB; have HO_5 := n0_; have HB := n1_; clear n0_ n1_; (try (have HP82 := Kd.R_putg HO_5.out ((ji78) : Int) false)); (try (obtain ⟨hx81_0, hf81_0⟩ := Kd.R_celln false HO_5.out ((ji78) : Int) (of_eq_true p81) (of_eq_true q81))))); refine store_event (t := 4) (p := 109) (v := ?vo_w83) (w1 := (wr.setCell ⟨go81, ((ji78) : Int).toNat, none⟩ (.bool false))) ?hg ?ho ?hn ?hr ?_; (case ho => rfl); (case hg => rfl); (case hn => rfl); (case hr => first | (go_simp; done) | (go_simp; rfl)); intro w83 hw; have hg : wr.grownBy w83 (some go81) := (by rw [hw]; exact HP82.2); have hp_ : Kd.R Kd.bool 4 w83 w.heap.size (fun _ => True) (.slice (some ⟨go81, 0, none⟩) x5_2.length co81) y250 := (by rw [hw, Ny250.out]; exact HP82.1); clear HP82; have n0_ := Aside0.mk (hp_); have n1_ := Aside0.mk ((by rw [hw]; exact below_set (HB.out) GB81.out : Below w.heap.size w w83)); clear HO_5; clear HB; have HO_5 := n0_; have HB := n1_; clear n0_ n1_; clear hg hw hp_))
                                      repeat (go_quiet (first | ((with_reducible refine gate_store (t := 4) (p := 109) rfl ?_); (try (rw [drewN_self wr]; generalize hq_ : World.drewN wr _ = wr; have n0_ := Aside0.mk (Kd.R_at hq_ HO_5.out); have n1_ := Aside0.mk (below_at hq_ HB.out); clear hq_ HO_5 HB; have HO_5 := n0_; have HB := n1_; clear n0_ n1_; (try (have HP82 := Kd.R_putg HO_5.out ((ji78) : Int) false)); (try (obtain ⟨hx81_0, hf81_0⟩ := Kd.R_celln false HO_5.out ((ji78) : Int) (of_eq_true p81) (of_eq_true q81))))); refine store_event (t := 4) (p := 109) (v := ?vo_w83) (w1 := (wr.setCell ⟨go81, ((ji78) : Int).toNat, none⟩ (.bool false))) ?hg ?ho ?hn ?hr ?_; (case ho => rfl); (case hg => rfl); (case hn => rfl); (case hr => first | (go_simp; done) | (go_simp; rfl)); intro w83 hw; have hg : wr.grownBy w83 (some go81) := (by rw [hw]; exact HP82.2); have hp_ : Kd.R Kd.bool 4 w83 w.heap.size (fun _ => True) (.slice (some ⟨go81, 0, none⟩) x5_2.length co81) y250 := (by rw [hw, Ny250.out]; exact HP82.1); clear HP82; have n0_ := Aside0.mk (hp_); have n1_ := Aside0.mk ((by rw [hw]; exact below_set (HB.out) GB81.out : Below w.heap.size w w83)); clear HO_5; clear HB; have HO_5 := n0_; have HB := n1_; clear n0_ n1_; clear hg hw hp_)); try go_wp2_with (first | ((with_reducible refine gate_store (t := 4) (p := 109) rfl ?_); (try (rw [drewN_self wr]; generalize hq_ : World.drewN wr _ = wr; have n0_ := Aside0.mk (Kd.R_at hq_ HO_5.out); have n1_ := Aside0.mk (below_at hq_ HB.out); clear hq_ HO_5 HB; have HO_5 := n0_; have HB := n1_; clear n0_ n1_; (try (have HP82 := Kd.R_putg HO_5.out ((ji78) : Int) false)); (try (obtain ⟨hx81_0, hf81_0⟩ := Kd.R_celln false HO_5.out ((ji78) : Int) (of_eq_true p81) (of_eq_true q81))))); refine store_event (t := 4) (p := 109) (v := ?vo_w83) (w1 := (wr.setCell ⟨go81, ((ji78) : Int).toNat, none⟩ (.bool false))) ?hg ?ho ?hn ?hr ?_; (case ho => rfl); (case hg => rfl); (case hn => rfl); (case hr => first | (go_simp; done) | (go_simp; rfl)); intro w83 hw; have hg : wr.grownBy w83 (some go81) := (by rw [hw]; exact HP82.2); have hp_ : Kd.R Kd.bool 4 w83 w.heap.size (fun _ => True) (.slice (some ⟨go81, 0, none⟩) x5_2.length co81) y250 := (by rw [hw, Ny250.out]; exact HP82.1); clear HP82; have n0_ := Aside0.mk (hp_); have n1_ := Aside0.mk ((by rw [hw]; exact below_set (HB.out) GB81.out : Below w.heap.size w w83)); clear HO_5; clear HB; have HO_5 := n0_; have HB := n1_; clear n0_ n1_; clear hg hw hp_)))
                                      go_roundg k2
                                      case measure => have := HK1.out; have := HK2.out; omega
                                      case rel => exact ⟨(y250), (wrap64 (x8_2 - 1)), (by first | rfl | (simp; done) | (simp [*]; done)), H', ⟨by have := HK1.out; have := HK2.out; omega⟩, ⟨by (with_reducible repeat (first | apply Kd.R_alloc | apply Kd.R_drewN | apply Kd.R_drew)); exact HO_5.out⟩, ⟨by repeat (first | (with_reducible first | exact HB.out | apply below_alloc | apply pw_below_drewN | apply below_drew1) | exact HB.out)⟩⟩
                                    · rw [if_neg c80] at H
                                      exact absurd H (by simp)
                                  · rw [if_neg c79] at H
                                    exact absurd H (by simp)
                              · rw [if_neg c65] at H
                                exact absurd H (by simp)
                          · rw [if_neg c51] at H
                            have c51b0 : decide (x8_2 < (a1.size : Int)) = false := decide_eq_false c51
                            clear c51
                            obtain ⟨ji84, hji84⟩ : ∃ j_ : Int, (wrap64 ((wrap64 (x7_1 * (wrap64 ((a1.size : Int) + 1)))) + x8_2)) = j_ := ⟨_, rfl⟩
                            (try (have hjq_ : ji84 = ji11 := hji84.symm.trans hji11; subst hjq_))
                            replace H : (if 0 ≤ (ji84) then (if (ji84) < (x5_2.length : Int) then (barqueref09_inName.l1 k2 a0 a1 (x5_2.set ((ji84) : Int).toNat false) (wrap64 ((a1.size : Int) + 1)) x7_1 (wrap64 (x8_2 - 1))) else (none)) else (none)) = some r := by first | (rw [hji84] at H; exact H) | (simp only [hji84] at H ⊢; exact H)
                            have hji84w : (IntKind.i64.wrap ((wrap64 (x7_1 * (wrap64 ((a1.size : Int) + 1)))) + x8_2)) = ji84 := (i64_w _).trans hji84
                            by_cases c85 : 0 ≤ (ji84)
                            · rw [if_pos c85] at H
                              have c85b0 : decide (0 ≤ (ji84)) = true := decide_eq_true c85
                              clear c85
                              by_cases c86 : (ji84) < (x5_2.length : Int)
                              · rw [if_pos c86] at H
                                have c86b0 : decide ((ji84) < (x5_2.length : Int)) = true := decide_eq_true c86
                                clear c86
                                obtain ⟨y251, hy251⟩ : ∃ y_ : List Bool, y_ = (x5_2.set ((ji84) : Int).toNat false) := ⟨_, rfl⟩
                                replace H : (barqueref09_inName.l1 k2 a0 a1 y251 (wrap64 ((a1.size : Int) + 1)) x7_1 (wrap64 (x8_2 - 1))) = some r := by first | (rw [hy251]; with_reducible exact H) | (have H2_ := (Option.bind_some _ _).symm.trans H; rw [hy251]; with_reducible exact H2_) | (have H2_ := (Option.bind_some _ _).symm.trans H; with_reducible exact H2_) | with_reducible exact H | (rw [hy251]; exact H) | exact H
                                have Ny251 := Aside0.mk hy251
                                clear hy251
                                have H' := Aside0.mk H
                                clear H
                                have p19 : 0 ≤ (x7_1 : Int) := of_decide_eq_true (by first | (with_reducible assumption) | assumption)
                                have q19 : x7_1 < (a0.size : Int) := of_decide_eq_true (by first | (with_reducible assumption) | assumption)
                                have hx19 := bt_at a0 x7_1
                                replace p19 := eq_true p19
                                replace q19 := eq_true q19
                                have p87 : 0 ≤ ((ji84) : Int) := of_decide_eq_true (by first | (with_reducible assumption) | assumption)
                                have q87 : ((ji84) : Int) < ((x5_2.length : Int) : Int) := of_decide_eq_true (by first | (with_reducible assumption) | assumption)
                                obtain ⟨go87, co87, eo87, gb87, gl87, cl87, HG87⟩ := Kd.R_form HO_5.out (by omega)
                                (first | cases eo87 | (injection eo87 with ea_ en_ ec_; (first | subst ea_ | (injection ea_ with ea_; subst ea_)); subst ec_; clear en_))
                                have GB87 := Aside0.mk gb87
                                have GG87 := Aside0.mk HG87
                                clear gb87 gl87 HG87
                                obtain ⟨hx87_0, hf87_0⟩ := Kd.R_celln false HO_5.out ((ji84) : Int) p87 q87
                                replace p87 := eq_true p87
                                replace q87 := eq_true q87
                                have HP88 := Kd.R_putg HO_5.out ((ji84) : Int) false
                                go_wp2_with (first | ((with_reducible refine gate_store (t := 4) (p := 109) rfl ?_); (try (rw [drewN_self wr]; generalize hq_ : World.drewN wr _ = wr; have n0_ := Aside0.mk (Kd.R_at hq_ HO_5.out); have n1_ := Aside0.mk (below_at hq_ HB.out); clear hq_ HO_5 HB; have HO_5 := n0_; have HB := n1_; clear n0_ n1_; (try (have HP88 := Kd.R_putg HO_5.out ((ji84) : Int) false)); (try (obtain ⟨hx87_0, hf87_0⟩ := Kd.R_celln false HO_5.out ((ji84) : Int) (of_eq_true p87) (of_eq_true q87))))); refine store_event (t := 4) (p := 109) (v := ?vo_w89) (w1 := (wr.setCell ⟨go87, ((ji84) : Int).toNat, none⟩ (.bool false))) ?hg ?ho ?hn ?hr ?_; (case ho => rfl); (case hg => rfl); (case hn => rfl); (case hr => first | (go_simp; done) | (go_simp; rfl)); intro w89 hw; have hg : wr.grownBy w89 (some go87) := (by rw [hw]; exact HP88.2); have hp_ : Kd.R Kd.bool 4 w89 w.heap.size (fun _ => True) (.slice (some ⟨go87, 0, none⟩) x5_2.length co87) y251 := (by rw [hw, Ny251.out]; exact HP88.1); clear HP88; have n0_ := Aside0.mk (hp_); have n1_ := Aside0.mk ((by rw [hw]; exact below_set (HB.out) GB87.out : Below w.heap.size w w89)); clear HO_5; clear HB; have HO_5 := n0_; have HB := n1_; clear n0_ n1_; clear hg hw hp_))
                                repeat (go_quiet (first | ((with_reducible refine gate_store (t := 4) (p := 109) rfl ?_); (try (rw [drewN_self wr]; generalize hq_ : World.drewN wr _ = wr; have n0_ := Aside0.mk (Kd.R_at hq_ HO_5.out); have n1_ := Aside0.mk (below_at hq_ HB.out); clear hq_ HO_5 HB; have HO_5 := n0_; have HB := n1_; clear n0_ n1_; (try (have HP88 := Kd.R_putg HO_5.out ((ji84) : Int) false)); (try (obtain ⟨hx87_0, hf87_0⟩ := Kd.R_celln false HO_5.out ((ji84) : Int) (of_eq_true p87) (of_eq_true q87))))); refine store_event (t := 4) (p := 109) (v := ?vo_w89) (w1 := (wr.setCell ⟨go87, ((ji84) : Int).toNat, none⟩ (.bool false))) ?hg ?ho ?hn ?hr ?_; (case ho => rfl); (case hg => rfl); (case hn => rfl); (case hr => first | (go_simp; done) | (go_simp; rfl)); intro w89 hw; have hg : wr.grownBy w89 (some go87) := (by rw [hw]; exact HP88.2); have hp_ : Kd.R Kd.bool 4 w89 w.heap.size (fun _ => True) (.slice (some ⟨go87, 0, none⟩) x5_2.length co87) y251 := (by rw [hw, Ny251.out]; exact HP88.1); clear HP88; have n0_ := Aside0.mk (hp_); have n1_ := Aside0.mk ((by rw [hw]; exact below_set (HB.out) GB87.out : Below w.heap.size w w89)); clear HO_5; clear HB; have HO_5 := n0_; have HB := n1_; clear n0_ n1_; clear hg hw hp_)); try go_wp2_with (first | ((with_reducible refine gate_store (t := 4) (p := 109) rfl ?_); (try (rw [drewN_self wr]; generalize hq_ : World.drewN wr _ = wr; have n0_ := Aside0.mk (Kd.R_at hq_ HO_5.out); have n1_ := Aside0.mk (below_at hq_ HB.out); clear hq_ HO_5 HB; have HO_5 := n0_; have HB := n1_; clear n0_ n1_; (try (have HP88 := Kd.R_putg HO_5.out ((ji84) : Int) false)); (try (obtain ⟨hx87_0, hf87_0⟩ := Kd.R_celln false HO_5.out ((ji84) : Int) (of_eq_true p87) (of_eq_true q87))))); refine store_event (t := 4) (p := 109) (v := ?vo_w89) (w1 := (wr.setCell ⟨go87, ((ji84) : Int).toNat, none⟩ (.bool false))) ?hg ?ho ?hn ?hr ?_; (case ho => rfl); (case hg => rfl); (case hn => rfl); (case hr => first | (go_simp; done) | (go_simp; rfl)); intro w89 hw; have hg : wr.grownBy w89 (some go87) := (by rw [hw]; exact HP88.2); have hp_ : Kd.R Kd.bool 4 w89 w.heap.size (fun _ => True) (.slice (some ⟨go87, 0, none⟩) x5_2.length co87) y251 := (by rw [hw, Ny251.out]; exact HP88.1); clear HP88; have n0_ := Aside0.mk (hp_); have n1_ := Aside0.mk ((by rw [hw]; exact below_set (HB.out) GB87.out : Below w.heap.size w w89)); clear HO_5; clear HB; have HO_5 := n0_; have HB := n1_; clear n0_ n1_; clear hg hw hp_)))
                                go_roundg k2
                                case measure => have := HK1.out; have := HK2.out; omega
                                case rel => exact ⟨(y251), (wrap64 (x8_2 - 1)), (by first | rfl | (simp; done) | (simp [*]; done)), H', ⟨by have := HK1.out; have := HK2.out; omega⟩, ⟨by (with_reducible repeat (first | apply Kd.R_alloc | apply Kd.R_drewN | apply Kd.R_drew)); exact HO_5.out⟩, ⟨by repeat (first | (with_reducible first | exact HB.out | apply below_alloc | apply pw_below_drewN | apply below_drew1) | exact HB.out)⟩⟩
                              · rw [if_neg c86] at H
                                exact absurd H (by simp)
                            · rw [if_neg c85] at H
                              exact absurd H (by simp)
                      · rw [if_neg c18] at H
                        exact absurd H (by simp)
                    · rw [if_neg c17] at H
                      exact absurd H (by simp)
                · rw [if_neg c9] at H
                  have c9b0 : decide (0 ≤ x8_2) = false := decide_eq_false c9
                  clear c9
                  have H' := Aside0.mk H
                  clear H
                  go_wp2
                  repeat (go_quiet (fail); try go_wp2)
                  go_roundg k2
                  case measure => have := HK1.out; have := HK2.out; omega
                  case rel => exact ⟨(x5_2), (wrap64 (x7_1 - 1)), (by first | rfl | (simp; done) | (simp [*]; done)), H', ⟨by have := HK1.out; have := HK2.out; omega⟩, ⟨by (with_reducible repeat (first | apply Kd.R_alloc | apply Kd.R_drewN | apply Kd.R_drew)); exact HO_5.out⟩, ⟨by repeat (first | (with_reducible first | exact HB.out | apply below_alloc | apply pw_below_drewN | apply below_drew1) | exact HB.out)⟩⟩
          · rw [if_neg c8] at H
            have c8b0 : decide (0 ≤ x7_1) = false := decide_eq_false c8
            clear c8
            by_cases c90 : 0 < (x5_1.length : Int)
            · rw [if_pos c90] at H
              have c90b0 : decide (0 < (x5_1.length : Int)) = true := decide_eq_true c90
              have c90b1 : decide (0 < x5_1.length) = true := decide_eq_true (by omega)
              clear c90
              obtain rfl := Option.some.inj H
              obtain ⟨Ao91, co91, eo91⟩ := Kd.R_slice HO_5.out
              subst eo91
              have p239 : 0 ≤ (0 : Int) := (by omega)
              have q239 : 0 < (x5_1.length : Int) := of_decide_eq_true (by first | (with_reducible assumption) | assumption)
              obtain ⟨ad239, e239, hx239_0⟩ := Kd.at_bool (Kd.R_reads' HO_5.out).2.2 0 p239 q239
              cases e239
              have qi239 : (0 < x5_1.length) = True := eq_true (by omega)
              (try rw [show ((0 : Int)).toNat = 0 from rfl] at hx239_0)
              (try rw [Addr.add_zero'] at hx239_0)
              replace p239 := eq_true p239
              replace q239 := eq_true q239
              go_wp2
              repeat (go_quiet (fail); try go_wp2)
              go_ret
              exact ⟨by first | rfl | (simp [errW_none, errW_some] <;> rfl) | (simp only [← hji3]; first | rfl | (simp [errW_none, errW_some] <;> rfl)) | (simp [*, errW_none, errW_some] <;> rfl), by repeat (first | (with_reducible first | exact HB.out | apply below_alloc | apply pw_below_drewN | apply below_drew1) | exact HB.out)⟩
            · rw [if_neg c90] at H
              exact absurd H (by simp)
    · rw [if_neg c5] at H
      exact absurd H (by simp)
  · rw [if_neg c4] at H
    exact absurd H (by simp)
end Go.Proofs.YtafjlibcdlihcaaDoor.G
end
section
namespace Go.Proofs.YtafjlibcdlihcaaDoor.G
open Go.RowKit Go.Proofs.YtafjlibcdlihcaaDoorW.PrintWords Go.Proofs.YtafjlibcdlihcaaDoorW.PrintLast Go.Proofs.YtafjlibcdlihcaaDoorW.PrintMore
set_option linter.unusedVariables false
set_option linter.unusedSimpArgs false
def tb (st : Nat → Bool) (ft : Nat → Nat → Bool) (n m i k : Nat) : Bool := bw st ft n m (n - i) (m - k)
theorem tb_end (st : Nat → Bool) (ft : Nat → Nat → Bool) (n m k : Nat) (hk : k ≤ m) : tb st ft n m n k = ((k : Int) == (m : Int)) := by
  unfold tb
  rw [Nat.sub_self, bw, Bool.eq_iff_iff, beq_iff_eq, beq_iff_eq]
  omega
theorem tb_step (st : Nat → Bool) (ft : Nat → Nat → Bool) (n m i k : Nat) (hi : i < n) (hk : k ≤ m) :
    tb st ft n m i k = if st i = true then (tb st ft n m (i + 1) k || (decide (k < m) && tb st ft n m i (k + 1))) else (decide (k < m) && (ft i k && tb st ft n m (i + 1) (k + 1))) := by
  unfold tb
  have h1 : n - i = (n - (i + 1)) + 1 := by omega
  have h2 : n - (n - (i + 1) + 1) = i := by omega
  by_cases g : k < m
  · have h3 : m - k = (m - (k + 1)) + 1 := by omega
    have h4 : m - (m - (k + 1) + 1) = k := by omega
    rw [h1, h3, bw, h2, h4]
    simp [g]
  · have h3 : m - k = 0 := by omega
    rw [h1, h3, bw, h2]
    cases st i <;> simp [g]
@[irreducible] def ix (m a b : Nat) : Nat := a * (m + 1) + b
@[irreducible] def sq (n m : Nat) : Nat := (n + 1) * (m + 1)
theorem ix_inj {m a b i k : Nat} (hb : b ≤ m) (hk : k ≤ m) (h : ix m a b = ix m i k) : a = i ∧ b = k := by
  unfold ix at h
  rcases Nat.lt_trichotomy a i with g | g | g
  · have := Nat.mul_le_mul_right (m + 1) (show a + 1 ≤ i from g)
    rw [Nat.add_mul] at this
    omega
  · subst g
    exact ⟨rfl, by omega⟩
  · have := Nat.mul_le_mul_right (m + 1) (show i + 1 ≤ a from g)
    rw [Nat.add_mul] at this
    omega
theorem ix_lt {n m i k : Nat} (hi : i ≤ n) (hk : k ≤ m) : ix m i k < sq n m := by
  unfold ix sq
  have h1 := Nat.mul_le_mul_right (m + 1) hi
  rw [Nat.add_mul n 1]
  omega
theorem ix_w {n m i k : Nat} (hn : n ≤ 1000) (hm : m ≤ 1000) (hi : i ≤ n) (hk : k ≤ m) : wrap64 (wrap64 ((i : Int) * ((m + 1 : Nat) : Int)) + (k : Int)) = ((ix m i k : Nat) : Int) := by
  unfold ix
  have h1 : i * (m + 1) ≤ 1000 * 1001 := Nat.mul_le_mul (by omega) (by omega)
  have h2 : ((i : Int) * ((m + 1 : Nat) : Int)) = ((i * (m + 1) : Nat) : Int) := by rw [Int.natCast_mul]
  have h3 : wrap64 ((i * (m + 1) : Nat) : Int) = ((i * (m + 1) : Nat) : Int) := w64_ (by omega) (by omega)
  rw [h2, h3, w64_ (by omega) (by omega)]
  omega
theorem sq_le {n m : Nat} (hn : n ≤ 1000) (hm : m ≤ 1000) : sq n m ≤ 1002001 := by
  unfold sq
  have h1 : n + 1 ≤ 1001 := by omega
  have h2 : m + 1 ≤ 1001 := by omega
  exact Nat.mul_le_mul h1 h2
theorem ix_w1 {n m i k : Nat} (hn : n ≤ 1000) (hm : m ≤ 1000) (hi : i ≤ n) (hk : k ≤ m) : wrap64 (((ix m i k : Nat) : Int) + 1) = ((ix m i (k + 1) : Nat) : Int) := by
  have h1 := ix_lt hi hk
  have h2 := sq_le hn hm
  have h3 : ix m i (k + 1) = ix m i k + 1 := by unfold ix; rfl
  rw [h3, w64_ (by omega) (by omega)]
  omega
theorem ri_l1 (p s : ByteArray) (hp : p.size ≤ 1000) (hs : s.size ≤ 1000) (i : Nat) (hi : i ≤ p.size) (r : Bool)
    (hc : ∀ T : List Bool, T.length = sq p.size s.size → (∀ a b : Nat, i ≤ a → a ≤ p.size → b ≤ s.size → rdOf false T ((ix s.size a b : Nat) : Int) = tb (stN p) (ftN p s) p.size s.size a b) →
      Ev (fun k => barqueref09_inName.l0 k p s T ((s.size + 1 : Nat) : Int) ((i : Int) - 1)) r) :
    ∀ (k1 : Nat) (T : List Bool), k1 ≤ s.size + 1 → T.length = sq p.size s.size →
      (∀ a b : Nat, (i < a ∨ (a = i ∧ k1 ≤ b)) → a ≤ p.size → b ≤ s.size → rdOf false T ((ix s.size a b : Nat) : Int) = tb (stN p) (ftN p s) p.size s.size a b) →
      Ev (fun k => barqueref09_inName.l1 k p s T ((s.size + 1 : Nat) : Int) i ((k1 : Int) - 1)) r := by
  intro k1
  induction k1 with
  | zero =>
    intro T hk hT hn
    apply Ev.step
    · intro k; rw [barqueref09_inName.l1]
    have c1 : ¬ (((0 : Nat) : Int) - 1 ≥ 0) := by omega
    have hw : wrap64 ((i : Int) - 1) = (i : Int) - 1 := w64_ (by omega) (by omega)
    simp only [c1, ↓reduceIte, hw]
    exact hc T hT (fun a b h1 h2 h3 => hn a b (by omega) h2 h3)
  | succ k ih =>
    intro T hk hT hn
    have hk' : k ≤ s.size := by omega
    have hlt : ix s.size i k < T.length := by rw [hT]; exact ix_lt hi hk'
    have hset : ∀ v : Bool, v = tb (stN p) (ftN p s) p.size s.size i k → Ev (fun k0 => barqueref09_inName.l1 k0 p s (T.set (ix s.size i k) v) ((s.size + 1 : Nat) : Int) i ((k : Int) - 1)) r := fun v hv =>
      ih _ (by omega) (by rw [List.length_set]; exact hT) (fun a b h1 h2 h3 => by
        rw [rdB_set _ _ _ _ hlt]
        by_cases e : ix s.size a b = ix s.size i k
        · obtain ⟨rfl, rfl⟩ := ix_inj h3 hk' e
          rw [if_pos rfl]; exact hv
        · rw [if_neg e]
          refine hn a b ?_ h2 h3
          rcases h1 with h1 | ⟨h1, h4⟩
          · exact Or.inl h1
          · subst h1
            by_cases g : b = k
            · subst g; exact absurd rfl e
            · exact Or.inr ⟨rfl, by omega⟩)
    have e0 : (((k + 1 : Nat) : Int) - 1) = (k : Int) := by omega
    rw [e0]
    apply Ev.step
    · intro k; rw [barqueref09_inName.l1]
    have c1 : ((k : Int) ≥ 0) := by omega
    have hw : wrap64 ((k : Int) - 1) = (k : Int) - 1 := w64_ (by omega) (by omega)
    have hx := ix_w hp hs hi hk'
    have c2 : (0 : Int) ≤ ((ix s.size i k : Nat) : Int) := Int.natCast_nonneg _
    have c3 : ((ix s.size i k : Nat) : Int) < (T.length : Int) := Int.ofNat_lt.2 hlt
    simp only [c1, hw, hx, c2, c3, ↓reduceIte, Int.toNat_natCast]
    by_cases h1 : i = p.size
    · have c4 : ((i : Int) = (p.size : Int)) := by omega
      simp only [c4, ↓reduceIte]
      rw [← c4]
      refine hset _ ?_
      subst h1
      rw [tb_end _ _ _ _ _ hk']
    · have hip : i < p.size := by omega
      have c4 : ¬ ((i : Int) = (p.size : Int)) := by omega
      have c5 : (0 : Int) ≤ (i : Int) := by omega
      have c6 : (i : Int) < (p.size : Int) := by omega
      have hw1 : wrap64 ((i : Int) + 1) = ((i + 1 : Nat) : Int) := by rw [w64_ (by omega) (by omega)]; omega
      have hw0 : True := trivial
      have hx1 := ix_w hp hs (show i + 1 ≤ p.size from hip) hk'
      have hlt1 : ix s.size (i + 1) k < T.length := by rw [hT]; exact ix_lt hip hk'
      have c7 : (0 : Int) ≤ ((ix s.size (i + 1) k : Nat) : Int) := Int.natCast_nonneg _
      have c8 : ((ix s.size (i + 1) k : Nat) : Int) < (T.length : Int) := Int.ofNat_lt.2 hlt1
      simp only [c4, c5, c6, hw1, hx1, ↓reduceIte]
      have hst := tb_step (stN p) (ftN p s) p.size s.size i k hip hk'
      by_cases h42 : bt p i = 42
      · have hs1 : stN p i = true := by simp [stN, h42]
        rw [hs1, if_pos rfl] at hst
        have h3 := hn (i + 1) k (Or.inl (by omega)) hip hk'
        simp only [h42, c7, c8, ↓reduceIte, h3]
        cases hv : tb (stN p) (ftN p s) p.size s.size (i + 1) k with
        | true =>
          simp only [↓reduceIte]
          exact hset true (by rw [hst, hv]; rfl)
        | false =>
          simp only [↓reduceIte, Bool.false_eq_true]
          by_cases g : k < s.size
          · have g' : (k : Int) < (s.size : Int) := by omega
            have hx2 : wrap64 (((ix s.size i k : Nat) : Int) + 1) = ((ix s.size i (k + 1) : Nat) : Int) := ix_w1 hp hs hi hk'
            have hlt2 : ix s.size i (k + 1) < T.length := by rw [hT]; exact ix_lt hi g
            have c9 : (0 : Int) ≤ ((ix s.size i (k + 1) : Nat) : Int) := Int.natCast_nonneg _
            have c10 : ((ix s.size i (k + 1) : Nat) : Int) < (T.length : Int) := Int.ofNat_lt.2 hlt2
            have h4 := hn i (k + 1) (Or.inr ⟨rfl, Nat.le_refl _⟩) hi g
            simp only [g', hx2, c9, c10, ↓reduceIte, h4]
            exact hset _ (by rw [hst, hv]; simp [g])
          · have g' : ¬ ((k : Int) < (s.size : Int)) := by omega
            simp only [g', ↓reduceIte]
            exact hset false (by rw [hst, hv]; simp [g])
      · have hs1 : ¬ stN p i = true := by simp [stN, h42]
        rw [if_neg hs1] at hst
        simp only [h42, ↓reduceIte]
        by_cases g : k < s.size
        · have g' : (k : Int) < (s.size : Int) := by omega
          have hx2 : wrap64 (((ix s.size (i + 1) k : Nat) : Int) + 1) = ((ix s.size (i + 1) (k + 1) : Nat) : Int) := ix_w1 hp hs hip hk'
          have hlt2 : ix s.size (i + 1) (k + 1) < T.length := by rw [hT]; exact ix_lt hip g
          have c9 : (0 : Int) ≤ ((ix s.size (i + 1) (k + 1) : Nat) : Int) := Int.natCast_nonneg _
          have c10 : ((ix s.size (i + 1) (k + 1) : Nat) : Int) < (T.length : Int) := Int.ofNat_lt.2 hlt2
          have c11 : (0 : Int) ≤ (k : Int) := by omega
          have h4 := hn (i + 1) (k + 1) (Or.inl (by omega)) hip g
          simp only [g', hx2, c9, c10, c11, ↓reduceIte, h4]
          by_cases h63 : bt p i = 63
          · simp only [h63, ↓reduceIte]
            exact hset _ (by rw [hst]; simp [g, ftN, h63])
          · simp only [h63, ↓reduceIte]
            by_cases he : bt p i = bt s k
            · have hf : ftN p s i k = true := by simp [ftN, he]
              simp only [eq_true he, ↓reduceIte]
              exact hset _ (by rw [hst, hf]; simp [g])
            · have hf : ftN p s i k = false := by simp [ftN, he, h63]
              simp only [eq_false he, ↓reduceIte]
              exact hset _ (by rw [hst, hf]; simp)
        · have g' : ¬ ((k : Int) < (s.size : Int)) := by omega
          simp only [g', ↓reduceIte]
          exact hset false (by rw [hst]; simp [g])
theorem ri_l0 (p s : ByteArray) (hp : p.size ≤ 1000) (hs : s.size ≤ 1000) : ∀ (i1 : Nat) (T : List Bool), i1 ≤ p.size + 1 → T.length = sq p.size s.size →
      (∀ a b : Nat, i1 ≤ a → a ≤ p.size → b ≤ s.size → rdOf false T ((ix s.size a b : Nat) : Int) = tb (stN p) (ftN p s) p.size s.size a b) →
      Ev (fun k => barqueref09_inName.l0 k p s T ((s.size + 1 : Nat) : Int) ((i1 : Int) - 1)) (inNameE p s) := by
  intro i1
  induction i1 with
  | zero =>
    intro T hi hT hn
    apply Ev.step
    · intro k; rw [barqueref09_inName.l0]
    have c1 : ¬ (((0 : Nat) : Int) - 1 ≥ 0) := by omega
    have hlt : ix s.size 0 0 < T.length := by rw [hT]; exact ix_lt (Nat.zero_le _) (Nat.zero_le _)
    have c2 : (0 : Int) < (T.length : Int) := by omega
    have h := hn 0 0 (Nat.le_refl _) (Nat.zero_le _) (Nat.zero_le _)
    have e : ((ix s.size 0 0 : Nat) : Int) = 0 := by unfold ix; rw [Nat.zero_mul]; rfl
    rw [e] at h
    simp only [c1, c2, ↓reduceIte, h]
    exact Ev.now _
  | succ i ih =>
    intro T hi hT hn
    have e0 : (((i + 1 : Nat) : Int) - 1) = (i : Int) := by omega
    rw [e0]
    apply Ev.step
    · intro k; rw [barqueref09_inName.l0]
    have c1 : ((i : Int) ≥ 0) := by omega
    simp only [c1, ↓reduceIte]
    have h := ri_l1 p s hp hs i (by omega) (inNameE p s) (fun T' h1 h2 => ih T' (by omega) h1 h2) (s.size + 1) T (Nat.le_refl _) hT (fun a b h1 h2 h3 => hn a b (by omega) h2 h3)
    have e1 : (((s.size + 1 : Nat) : Int) - 1) = (s.size : Int) := by omega
    rw [e1] at h
    exact h
theorem refinName_ev (p s : ByteArray) (hp : p.size ≤ 1000) (hs : s.size ≤ 1000) : Ev (fun k => barqueref09_inName.f k p s) (inNameE p s) := by
  unfold barqueref09_inName.f
  have hw : wrap64 ((s.size : Int) + 1) = ((s.size + 1 : Nat) : Int) := by rw [w64_ (by omega) (by omega)]; omega
  have hw1 : wrap64 ((p.size : Int) + 1) = ((p.size + 1 : Nat) : Int) := by rw [w64_ (by omega) (by omega)]; omega
  have hb := sq_le hp hs
  have hw2 : wrap64 (((p.size + 1 : Nat) : Int) * ((s.size + 1 : Nat) : Int)) = ((sq p.size s.size : Nat) : Int) := by
    rw [← Int.natCast_mul, show (p.size + 1) * (s.size + 1) = sq p.size s.size by unfold sq; rfl, w64_ (by omega) (by omega)]
  have c1 : (0 : Int) ≤ ((sq p.size s.size : Nat) : Int) := by omega
  have c2 : sq p.size s.size ≤ 281474976710656 := by omega
  simp only [hw, hw1, hw2, c1, c2, ↓reduceIte, Int.toNat_natCast]
  have h := ri_l0 p s hp hs (p.size + 1) (List.replicate (sq p.size s.size) false) (Nat.le_refl _) (by rw [List.length_replicate]) (fun a b h1 h2 h3 => by omega)
  have e1 : (((p.size + 1 : Nat) : Int) - 1) = (p.size : Int) := by omega
  rw [e1] at h
  exact h
end Go.Proofs.YtafjlibcdlihcaaDoor.G
end
