/- Texts of this session's claim of TreeBetweens, less what its theorem does not reach. No condition. -/
import Derived.Test.YtafjlibcdlihcaaDoorTW13
import Derived.Test.YtafjlibcdlihcaaDoorTW14
section
namespace Go.Proofs.YtafjlibcdlihcaaDoor.G
open Go.RowKit Go.Proofs.YtafjlibcdlihcaaDoorW.PrintWords Go.Proofs.YtafjlibcdlihcaaDoorW.PrintLast Go.Proofs.YtafjlibcdlihcaaDoorW.PrintMore
attribute [local go_sem] max2_int min2_int max_two min_two max_three min_three max_four min_four   -- for this text's walks alone
set_option linter.unusedVariables false
set_option linter.unusedSimpArgs false
mutual
def barqueref09_Check.l0 : Nat → List (S58) → List ByteArray → Int → Option (Int)
  | 0, _, _, _ => none
  | k + 1, x0, x3, x4 => if x4 < (x0.length : Int) then (if 0 ≤ x4 then (if x3.length < 8796093022208 then (barqueref09_Check.l0 k x0 (x3 ++ [(rd_T58 x0 x4).f0]) (wrap64 (x4 + 1))) else (none)) else (none)) else ((barqueref09_together.f k x3).bind fun t222 => (if t222 = 0 then (barqueref09_Check.l1 k x0 0) else (some t222)))
def barqueref09_Check.l1 : Nat → List (S58) → Int → Option (Int)
  | 0, _, _ => none
  | k + 1, x0, x6 => if x6 < (x0.length : Int) then (if 0 ≤ x6 then (if ((rd_T58 x0 x6).f1) < 0 then (barqueref09_Check.j2 k x0 x6 true) else (barqueref09_Check.j2 k x0 x6 (decide (((rd_T58 x0 x6).f1) > 511)))) else (none)) else (some 0)
def barqueref09_Check.j2 : Nat → List (S58) → Int → Bool → Option (Int)
  | 0, _, _, _ => none
  | k + 1, x0, x6, x45 => if x45 = true then (some 11) else (if 0 ≤ x6 then (if x6 < (x0.length : Int) then (if (((rd_T58 x0 x6).f2).size : Int) > 65536 then (some 4) else (barqueref09_Check.l1 k x0 (wrap64 (x6 + 1)))) else (none)) else (none))
end
def barqueref09_Check.f (k : Nat) (l0 : List (S58)) : Option (Int) := barqueref09_Check.l0 k l0 ([] : List ByteArray) 0
theorem barqueref09_Check.mono_l : ∀ k, (∀ y0 y1 y2, LeO (barqueref09_Check.l0 k y0 y1 y2) (barqueref09_Check.l0 (k + 1) y0 y1 y2)) ∧ (∀ y0 y1, LeO (barqueref09_Check.l1 k y0 y1) (barqueref09_Check.l1 (k + 1) y0 y1)) ∧ (∀ y0 y1 y2, LeO (barqueref09_Check.j2 k y0 y1 y2) (barqueref09_Check.j2 (k + 1) y0 y1 y2))
  | 0 => ⟨fun _ _ _ r h => by simp [barqueref09_Check.l0] at h, fun _ _ r h => by simp [barqueref09_Check.l1] at h, fun _ _ _ r h => by simp [barqueref09_Check.j2] at h⟩
  | k + 1 => by
    obtain ⟨ih0, ih1, ih2⟩ := barqueref09_Check.mono_l k
    refine ⟨?_, ?_, ?_⟩
    · intro y0 y1 y2
      unfold barqueref09_Check.l0
      repeat' first
      | (with_reducible exact ih0 _ _ _)
      | (with_reducible exact ih1 _ _)
      | (with_reducible exact ih2 _ _ _)
      | (with_reducible exact barqueref09_together.mono _ _)
      | (with_reducible exact LeO.refl _)
      | (with_reducible exact LeO.none _)
      | (with_reducible refine LeO.ite ?_ ?_)
      | (with_reducible refine LeO.bind ?_ (fun _ => ?_))
      | exact ih0 _ _ _
      | exact ih1 _ _
      | exact ih2 _ _ _
      | exact barqueref09_together.mono _ _
      | exact LeO.none _
      | refine LeO.ite ?_ ?_
      | refine LeO.bind ?_ (fun _ => ?_)
    · intro y0 y1
      unfold barqueref09_Check.l1
      repeat' first
      | (with_reducible exact ih0 _ _ _)
      | (with_reducible exact ih1 _ _)
      | (with_reducible exact ih2 _ _ _)
      | (with_reducible exact barqueref09_together.mono _ _)
      | (with_reducible exact LeO.refl _)
      | (with_reducible exact LeO.none _)
      | (with_reducible refine LeO.ite ?_ ?_)
      | (with_reducible refine LeO.bind ?_ (fun _ => ?_))
      | exact ih0 _ _ _
      | exact ih1 _ _
      | exact ih2 _ _ _
      | exact barqueref09_together.mono _ _
      | exact LeO.none _
      | refine LeO.ite ?_ ?_
      | refine LeO.bind ?_ (fun _ => ?_)
    · intro y0 y1 y2
      unfold barqueref09_Check.j2
      repeat' first
      | (with_reducible exact ih0 _ _ _)
      | (with_reducible exact ih1 _ _)
      | (with_reducible exact ih2 _ _ _)
      | (with_reducible exact barqueref09_together.mono _ _)
      | (with_reducible exact LeO.refl _)
      | (with_reducible exact LeO.none _)
      | (with_reducible refine LeO.ite ?_ ?_)
      | (with_reducible refine LeO.bind ?_ (fun _ => ?_))
      | exact ih0 _ _ _
      | exact ih1 _ _
      | exact ih2 _ _ _
      | exact barqueref09_together.mono _ _
      | exact LeO.none _
      | refine LeO.ite ?_ ?_
      | refine LeO.bind ?_ (fun _ => ?_)
theorem barqueref09_Check.mono : ∀ a0 k, LeO (barqueref09_Check.f k a0) (barqueref09_Check.f (k + 1) a0) := by
  intro a0 k
  obtain ⟨ih0, ih1, ih2⟩ := barqueref09_Check.mono_l k
  unfold barqueref09_Check.f
  repeat' first
      | (with_reducible exact ih0 _ _ _)
      | (with_reducible exact ih1 _ _)
      | (with_reducible exact ih2 _ _ _)
      | (with_reducible exact barqueref09_together.mono _ _)
      | (with_reducible exact LeO.refl _)
      | (with_reducible exact LeO.none _)
      | (with_reducible refine LeO.ite ?_ ?_)
      | (with_reducible refine LeO.bind ?_ (fun _ => ?_))
      | exact ih0 _ _ _
      | exact ih1 _ _
      | exact ih2 _ _ _
      | exact barqueref09_together.mono _ _
      | exact LeO.none _
      | refine LeO.ite ?_ ?_
      | refine LeO.bind ?_ (fun _ => ?_)
set_option maxHeartbeats 8000000 in
set_option maxRecDepth 100000 in
theorem barqueref09_Check.calls (k : Nat) (A0 : Option Addr) (c0 : Nat) (l0 : List (S58)) (r : Int) (w : World) (hr0 : Kd.C k58 w A0 l0.length l0) (hc0 : l0.length ≤ c0) (h : barqueref09_Check.f k l0 = some r) :
    Calls Tryd.prog 20 #[.slice A0 l0.length c0] w fun e w' => e = .returned (.int .i64 r) ∧ Below w.heap.size w w' := by
  have HR0 := Aside0.mk hr0
  have HC0 := Aside0.mk hc0
  clear hr0 hc0
  have HB := Aside0.mk (Below.refl w.heap.size w)
  have H : (barqueref09_Check.l0 k l0 ([] : List ByteArray) 0) = some r := h
  clear h
  have H' := Aside0.mk H
  clear H
  go_enter Tryd.func20, Tryd.ntmps20
  go_wp2
  go_loopg [3, 4] k (fun kq v3 v4 w' => ∃ (x3_1 : List ByteArray) (x4_1 : Int), v4 = .int .i64 x4_1 ∧ Aside0 (barqueref09_Check.l0 kq l0 x3_1 x4_1 = some r) ∧ Aside0 (kq ≤ k) ∧ Aside0 (Kd.R Kd.string 9 w' w.heap.size (fun _ => True) v3 x3_1) ∧ Aside0 (Below w.heap.size w w'))
  case atStart => exact ⟨(([] : List ByteArray)), (0), (by first | rfl | (simp; done) | (simp [*]; done)), H', ⟨Nat.le_refl _⟩, ⟨by first | exact Kd.R_nil _ _ _ _ _ | exact Kd.N_nil _ _ _ _ _ | exact Kd.V_nil _ _ _ _ _ | exact Kd.Q_nil _ _ _ _ _ | exact Kd.S_nil _ _ _ _ _⟩, ⟨by repeat (first | (with_reducible first | exact HB.out | apply below_alloc | apply pw_below_drewN | apply below_drew1) | exact HB.out)⟩⟩
  case round =>
    clear H'
    obtain ⟨x3_1, x4_1, rfl, HA, HK1, HO_3, HB⟩ := hrel
    cases gk with
    | zero => exact absurd HA.out (by simp [barqueref09_Check.l0])
    | succ k1 =>
      have H := HA.out
      clear HA
      simp only [barqueref09_Check.l0] at H
      by_cases c2 : x4_1 < (l0.length : Int)
      · rw [if_pos c2] at H
        have c2b0 : decide (x4_1 < (l0.length : Int)) = true := decide_eq_true c2
        clear c2
        by_cases c3 : 0 ≤ x4_1
        · rw [if_pos c3] at H
          have c3b0 : decide (0 ≤ x4_1) = true := decide_eq_true c3
          clear c3
          by_cases c4 : x3_1.length < 8796093022208
          · rw [if_pos c4] at H
            have LMc4 := Aside0.mk c4
            clear c4
            obtain ⟨y219, hy219⟩ : ∃ y_ : List ByteArray, y_ = (x3_1 ++ [(rd_T58 l0 x4_1).f0]) := ⟨_, rfl⟩
            replace H : (barqueref09_Check.l0 k1 l0 y219 (wrap64 (x4_1 + 1))) = some r := by first | (rw [hy219]; with_reducible exact H) | (have H2_ := (Option.bind_some _ _).symm.trans H; rw [hy219]; with_reducible exact H2_) | (have H2_ := (Option.bind_some _ _).symm.trans H; with_reducible exact H2_) | with_reducible exact H | (rw [hy219]; exact H) | exact H
            have Ny219 := Aside0.mk hy219
            clear hy219
            have H' := Aside0.mk H
            clear H
            have p218 : 0 ≤ (x4_1 : Int) := of_decide_eq_true (by first | (with_reducible assumption) | assumption)
            have q218 : x4_1 < (l0.length : Int) := of_decide_eq_true (by first | (with_reducible assumption) | assumption)
            obtain ⟨ad218, e218, hx218_0, hx218_1, hx218_2⟩ := at_T58 HR0.out x4_1 p218 q218
            cases e218
            replace hx218_0 := (HB.out.cell (World.block_lt_of_cell? w _ hx218_0)).trans hx218_0
            replace hx218_1 := (HB.out.cell (World.block_lt_of_cell? w _ hx218_1)).trans hx218_1
            replace hx218_2 := (HB.out.cell (World.block_lt_of_cell? w _ hx218_2)).trans hx218_2
            replace p218 := eq_true p218
            replace q218 := eq_true q218
            go_wp2_with (first | ((with_reducible refine gate_builtin (b := .append) (xs := #[.tmp 13, .tmp 19]) rfl ?_); at_builtin; refine Kd.R_append Kd.string (w0 := w) w.heap.size rfl (.tmp 13) (.tmp 19) 33 9 (.string ⟨#[]⟩) 16 rfl Tryd.underlying33 info9 rfl (by decide) (by omega) u3 x3_1 ((rd_T58 l0 x4_1).f0) [.string ((rd_T58 l0 x4_1).f0)] (fun _ => True) (fun _ => False) rfl rfl ?aP (fun _ hk => hk.elim) ?aF ?aO ?aB ?aS ?aL ?_; (case aP => exact rfl); (case aB => exact (by repeat (first | (with_reducible first | exact HB.out | apply below_alloc | apply pw_below_drewN | apply below_drew1) | exact HB.out))); (case aF => exact (fun _ _ => trivial)); (case aO => exact (by (with_reducible repeat (first | apply Kd.R_alloc | apply Kd.R_drewN | apply Kd.R_drew)); exact HO_3.out)); (case aS => exact (below_size (by repeat (first | (with_reducible first | exact HB.out | apply below_alloc | apply pw_below_drewN | apply below_drew1) | exact HB.out)))); (case aL => have := LMc4.out; omega); intro v220 w5 ho hb hg hat; rw [← Ny219.out] at ho; have n0_ := Aside0.mk (hb); have n1_ := Aside0.mk (ho); clear HB; clear HO_3; have HB := n0_; have HO221 := n1_; clear n0_ n1_; clear ho hb hg hat))
            go_roundg k1
            case measure => have := HK1.out; omega
            case rel => exact ⟨(y219), (wrap64 (x4_1 + 1)), (by first | rfl | (simp; done) | (simp [*]; done)), H', ⟨by have := HK1.out; omega⟩, ⟨by (with_reducible repeat (first | apply Kd.R_alloc | apply Kd.R_drewN | apply Kd.R_drew)); exact HO221.out⟩, ⟨by repeat (first | (with_reducible first | exact HB.out | apply below_alloc | apply pw_below_drewN | apply below_drew1) | exact HB.out)⟩⟩
          · rw [if_neg c4] at H
            exact absurd H (by simp)
        · rw [if_neg c3] at H
          exact absurd H (by simp)
      · rw [if_neg c2] at H
        have c2b0 : decide (x4_1 < (l0.length : Int)) = false := decide_eq_false c2
        clear c2
        replace H := Option.bind_eq_some_iff.mp H
        obtain ⟨t222, A60, H⟩ := H
        replace H : (if t222 = 0 then (barqueref09_Check.l1 k1 l0 0) else (some t222)) = some r := H
        have A6 := Aside0.mk A60
        clear A60
        by_cases c7 : t222 = 0
        · rw [if_pos c7] at H
          have c7b0 : (t222 == 0) = true := beq_iff_eq.mpr c7
          have c7b1 : (t222 != 0) = false := bne_eq_false_iff_eq.mpr c7
          clear c7
          have H' := Aside0.mk H
          clear H
          obtain ⟨Ao8, co8, eo8⟩ := Kd.R_slice HO_3.out
          subst eo8
          go_wp2_with (first | ((with_reducible refine gate_callee (f := 50) rfl ?_); refine goesL_ (some 22) rfl rfl Tryd.func50 (by kernel_rfl) rfl #[.slice Ao8 x3_1.length co8] rfl (by (try simp only [List.map_toArray, List.map_cons, List.map_nil]); first | done | rfl | (simp only [List.length_drop, List.length_take]; rfl)) ?_; (with_reducible refine (barqueref09_together.calls k1 _ _ x3_1 t222 _ ?side1 ?side2 A6.out).mono ?_); (case side1 => repeat (first | exact (Kd.R_reads' HO_3.out).2.2 | (with_reducible refine Kd.C_alloc ?_ _) | (with_reducible refine Kd.C_drewN ?_ _) | (with_reducible refine Kd.C_drew ?_))); (case side2 => exact (Kd.R_reads' HO_3.out).2.1); rintro e w9 ⟨rfl, hb⟩; refine ⟨_, rfl, ?_⟩; have n0_ := Aside0.mk (Kd.R_below (by (with_reducible repeat (first | apply Kd.R_alloc | apply Kd.R_drewN | apply Kd.R_drew)); exact HO_3.out) hb); have n1_ := Aside0.mk (below_step (by repeat (first | (with_reducible first | exact HB.out | apply below_alloc | apply pw_below_drewN | apply below_drew1) | exact HB.out)) hb); clear HO_3; clear HB; have HO_3 := n0_; have HB := n1_; clear n0_ n1_; (try clear hb); (try clear hb2); (try clear hk); (try clear hi)))
          go_loopg [6] k1 (fun kq v6 w' => ∃ (x6_2 : Int), v6 = .int .i64 x6_2 ∧ Aside0 (barqueref09_Check.l1 kq l0 x6_2 = some r) ∧ Aside0 (kq ≤ k1) ∧ Aside0 (Below w.heap.size w w'))
          case atStart => exact ⟨(0), (by first | rfl | (simp; done) | (simp [*]; done)), H', ⟨Nat.le_refl _⟩, ⟨by repeat (first | (with_reducible first | exact HB.out | apply below_alloc | apply pw_below_drewN | apply below_drew1) | exact HB.out)⟩⟩
          case round =>
            clear H'
            try clear c2
            try clear c2b0
            try clear p2
            try clear q2
            try clear hx2
            try clear c3
            try clear c3b0
            try clear c4
            try clear c5
            try clear p6
            try clear c7
            try clear c7b0
            try clear c7b1
            try clear hx218_0
            try clear hx218_1
            try clear hx218_2
            try clear p218
            try clear q218
            obtain ⟨x6_2, rfl, HA, HK2, HB⟩ := hrel
            cases gk with
            | zero => exact absurd HA.out (by simp [barqueref09_Check.l1])
            | succ k2 =>
              have H := HA.out
              clear HA
              simp only [barqueref09_Check.l1] at H
              by_cases c10 : x6_2 < (l0.length : Int)
              · rw [if_pos c10] at H
                have c10b0 : decide (x6_2 < (l0.length : Int)) = true := decide_eq_true c10
                clear c10
                have HC11 := Aside0.mk H
                clear H
                go_upto_region 12 with (fail)
                go_cut [45] (fun v45 wc => ∃ (kq : Nat) (x45_10 : Bool), v45 = .bool x45_10 ∧ Aside0 (barqueref09_Check.j2 kq l0 x6_2 x45_10 = some r) ∧ Aside0 (kq ≤ k2) ∧ Aside0 (Below w.heap.size w wc))
                case first =>
                  have H := HC11.out
                  clear HC11
                  by_cases c12 : 0 ≤ x6_2
                  · rw [if_pos c12] at H
                    have c12b0 : decide (0 ≤ x6_2) = true := decide_eq_true c12
                    clear c12
                    (first | rw [c12b0] | (simp only [i64_w, i32_w]; rw [c12b0]) | skip)
                    by_cases c13 : ((rd_T58 l0 x6_2).f1) < 0
                    · rw [if_pos c13] at H
                      have c13b0 : decide (((rd_T58 l0 x6_2).f1) < 0) = true := decide_eq_true c13
                      clear c13
                      have H' := Aside0.mk H
                      clear H
                      have p223 : 0 ≤ (x6_2 : Int) := of_decide_eq_true (by first | (with_reducible assumption) | assumption)
                      have q223 : x6_2 < (l0.length : Int) := of_decide_eq_true (by first | (with_reducible assumption) | assumption)
                      obtain ⟨ad223, e223, hx223_0, hx223_1, hx223_2⟩ := at_T58 HR0.out x6_2 p223 q223
                      cases e223
                      replace hx223_0 := (HB.out.cell (World.block_lt_of_cell? w _ hx223_0)).trans hx223_0
                      replace hx223_1 := (HB.out.cell (World.block_lt_of_cell? w _ hx223_1)).trans hx223_1
                      replace hx223_2 := (HB.out.cell (World.block_lt_of_cell? w _ hx223_2)).trans hx223_2
                      replace p223 := eq_true p223
                      replace q223 := eq_true q223
                      go_wp2
                      go_meet
                      case rel => exact ⟨_, (true), (by first | rfl | (simp; done) | (simp [*]; done)), H', ⟨by have := HK1.out; have := HK2.out; first | omega | exact Nat.le_refl _⟩, ⟨by repeat (first | (with_reducible first | exact HB.out | apply below_alloc | apply pw_below_drewN | apply below_drew1) | exact HB.out)⟩⟩
                    · rw [if_neg c13] at H
                      have c13b0 : decide (((rd_T58 l0 x6_2).f1) < 0) = false := decide_eq_false c13
                      clear c13
                      have H' := Aside0.mk H
                      clear H
                      have p223 : 0 ≤ (x6_2 : Int) := of_decide_eq_true (by first | (with_reducible assumption) | assumption)
                      have q223 : x6_2 < (l0.length : Int) := of_decide_eq_true (by first | (with_reducible assumption) | assumption)
                      obtain ⟨ad223, e223, hx223_0, hx223_1, hx223_2⟩ := at_T58 HR0.out x6_2 p223 q223
                      cases e223
                      replace hx223_0 := (HB.out.cell (World.block_lt_of_cell? w _ hx223_0)).trans hx223_0
                      replace hx223_1 := (HB.out.cell (World.block_lt_of_cell? w _ hx223_1)).trans hx223_1
                      replace hx223_2 := (HB.out.cell (World.block_lt_of_cell? w _ hx223_2)).trans hx223_2
                      replace p223 := eq_true p223
                      replace q223 := eq_true q223
                      have p224 : 0 ≤ (x6_2 : Int) := of_decide_eq_true (by first | (with_reducible assumption) | assumption)
                      have q224 : x6_2 < (l0.length : Int) := of_decide_eq_true (by first | (with_reducible assumption) | assumption)
                      obtain ⟨ad224, e224, hx224_0, hx224_1, hx224_2⟩ := at_T58 HR0.out x6_2 p224 q224
                      obtain rfl : ad223 = ad224 := (by injection e224)
                      replace hx224_0 := (HB.out.cell (World.block_lt_of_cell? w _ hx224_0)).trans hx224_0
                      replace hx224_1 := (HB.out.cell (World.block_lt_of_cell? w _ hx224_1)).trans hx224_1
                      replace hx224_2 := (HB.out.cell (World.block_lt_of_cell? w _ hx224_2)).trans hx224_2
                      replace p224 := eq_true p224
                      replace q224 := eq_true q224
                      go_wp2
                      go_meet
                      case rel => exact ⟨_, (decide (((rd_T58 l0 x6_2).f1) > 511)), (by first | rfl | (simp; done) | (simp [*]; done)), H', ⟨by have := HK1.out; have := HK2.out; first | omega | exact Nat.le_refl _⟩, ⟨by repeat (first | (with_reducible first | exact HB.out | apply below_alloc | apply pw_below_drewN | apply below_drew1) | exact HB.out)⟩⟩
                  · rw [if_neg c12] at H
                    exact absurd H (by simp)
                case rest =>
                  clear HC11
                  try clear c1
                  try clear c2
                  try clear c2b0
                  try clear p2
                  try clear q2
                  try clear hx2
                  try clear c3
                  try clear c3b0
                  try clear c4
                  try clear c5
                  try clear p6
                  try clear c7
                  try clear c7b0
                  try clear c7b1
                  try clear c10
                  try clear c10b0
                  try clear c12
                  try clear c12b0
                  try clear c13
                  try clear c13b0
                  try clear hx218_0
                  try clear hx218_1
                  try clear hx218_2
                  try clear hx223_0
                  try clear hx223_1
                  try clear hx223_2
                  try clear hx224_0
                  try clear hx224_1
                  try clear hx224_2
                  try clear p2
                  try clear p218
                  try clear p223
                  try clear p224
                  try clear p6
                  try clear q2
                  try clear q218
                  try clear q223
                  try clear q224
                  obtain ⟨kq, x45_10, rfl, HA, HJ10, HB⟩ := hcut
                  cases kq with
                  | zero => exact absurd HA.out (by simp [barqueref09_Check.j2])
                  | succ kj10 =>
                    have H := HA.out
                    clear HA
                    simp only [barqueref09_Check.j2] at H
                    by_cases c14 : x45_10 = true
                    · subst c14
                      have H1 : (some 11) = some r := by rw [if_pos rfl] at H; exact H
                      clear H
                      have H := H1
                      clear H1
                      obtain rfl := Option.some.inj H
                      go_wp2
                      go_ret
                      exact ⟨by first | rfl | (simp [errW_none, errW_some] <;> rfl) | (simp [*, errW_none, errW_some] <;> rfl), by repeat (first | (with_reducible first | exact HB.out | apply below_alloc | apply pw_below_drewN | apply below_drew1) | exact HB.out)⟩
                    · replace c14 := Bool.eq_false_iff.mpr c14
                      subst c14
                      have H1 : (if 0 ≤ x6_2 then (if x6_2 < (l0.length : Int) then (if (((rd_T58 l0 x6_2).f2).size : Int) > 65536 then (some 4) else (barqueref09_Check.l1 kj10 l0 (wrap64 (x6_2 + 1)))) else (none)) else (none)) = some r := by rw [if_neg (show ¬ (false = true) by decide)] at H; exact H
                      clear H
                      have H := H1
                      clear H1
                      by_cases c15 : 0 ≤ x6_2
                      · rw [if_pos c15] at H
                        have c15b0 : decide (0 ≤ x6_2) = true := decide_eq_true c15
                        clear c15
                        by_cases c16 : x6_2 < (l0.length : Int)
                        · rw [if_pos c16] at H
                          have c16b0 : decide (x6_2 < (l0.length : Int)) = true := decide_eq_true c16
                          clear c16
                          by_cases c17 : (((rd_T58 l0 x6_2).f2).size : Int) > 65536
                          · rw [if_pos c17] at H
                            have c17b0 : decide (65536 < (((rd_T58 l0 x6_2).f2).size : Int)) = true := decide_eq_true c17
                            have c17b1 : decide (65536 < ((rd_T58 l0 x6_2).f2).size) = true := decide_eq_true (by omega)
                            clear c17
                            obtain rfl := Option.some.inj H
                            have p225 : 0 ≤ (x6_2 : Int) := of_decide_eq_true (by first | (with_reducible assumption) | assumption)
                            have q225 : x6_2 < (l0.length : Int) := of_decide_eq_true (by first | (with_reducible assumption) | assumption)
                            obtain ⟨ad225, e225, hx225_0, hx225_1, hx225_2⟩ := at_T58 HR0.out x6_2 p225 q225
                            cases e225
                            replace hx225_0 := (HB.out.cell (World.block_lt_of_cell? w _ hx225_0)).trans hx225_0
                            replace hx225_1 := (HB.out.cell (World.block_lt_of_cell? w _ hx225_1)).trans hx225_1
                            replace hx225_2 := (HB.out.cell (World.block_lt_of_cell? w _ hx225_2)).trans hx225_2
                            replace p225 := eq_true p225
                            replace q225 := eq_true q225
                            go_wp2
                            go_ret
                            exact ⟨by first | rfl | (simp [errW_none, errW_some] <;> rfl) | (simp [*, errW_none, errW_some] <;> rfl), by repeat (first | (with_reducible first | exact HB.out | apply below_alloc | apply pw_below_drewN | apply below_drew1) | exact HB.out)⟩
                          · rw [if_neg c17] at H
                            have c17b0 : decide (65536 < (((rd_T58 l0 x6_2).f2).size : Int)) = false := decide_eq_false c17
                            have c17b1 : decide (65536 < ((rd_T58 l0 x6_2).f2).size) = false := decide_eq_false (by omega)
                            clear c17
                            have H' := Aside0.mk H
                            clear H
                            have p225 : 0 ≤ (x6_2 : Int) := of_decide_eq_true (by first | (with_reducible assumption) | assumption)
                            have q225 : x6_2 < (l0.length : Int) := of_decide_eq_true (by first | (with_reducible assumption) | assumption)
                            obtain ⟨ad225, e225, hx225_0, hx225_1, hx225_2⟩ := at_T58 HR0.out x6_2 p225 q225
                            cases e225
                            replace hx225_0 := (HB.out.cell (World.block_lt_of_cell? w _ hx225_0)).trans hx225_0
                            replace hx225_1 := (HB.out.cell (World.block_lt_of_cell? w _ hx225_1)).trans hx225_1
                            replace hx225_2 := (HB.out.cell (World.block_lt_of_cell? w _ hx225_2)).trans hx225_2
                            replace p225 := eq_true p225
                            replace q225 := eq_true q225
                            go_wp2
                            go_roundg kj10
                            case measure => have := HK1.out; have := HK2.out; have := HJ10.out; omega
                            case rel => exact ⟨(wrap64 (x6_2 + 1)), (by first | rfl | (simp; done) | (simp [*]; done)), H', ⟨by have := HK1.out; have := HK2.out; have := HJ10.out; omega⟩, ⟨by repeat (first | (with_reducible first | exact HB.out | apply below_alloc | apply pw_below_drewN | apply below_drew1) | exact HB.out)⟩⟩
                        · rw [if_neg c16] at H
                          exact absurd H (by simp)
                      · rw [if_neg c15] at H
                        exact absurd H (by simp)
              · rw [if_neg c10] at H
                have c10b0 : decide (x6_2 < (l0.length : Int)) = false := decide_eq_false c10
                clear c10
                obtain rfl := Option.some.inj H
                go_wp2
                go_ret
                exact ⟨by first | rfl | (simp [errW_none, errW_some] <;> rfl) | (simp [*, errW_none, errW_some] <;> rfl), by repeat (first | (with_reducible first | exact HB.out | apply below_alloc | apply pw_below_drewN | apply below_drew1) | exact HB.out)⟩
        · rw [if_neg c7] at H
          have c7b0 : (t222 == 0) = false := beq_eq_false_iff_ne.mpr c7
          have c7b1 : (t222 != 0) = true := bne_iff_ne.mpr c7
          obtain rfl := Option.some.inj H
          obtain ⟨Ao18, co18, eo18⟩ := Kd.R_slice HO_3.out
          subst eo18
          go_wp2_with (first | ((with_reducible refine gate_callee (f := 50) rfl ?_); refine goesL_ (some 22) rfl rfl Tryd.func50 (by kernel_rfl) rfl #[.slice Ao18 x3_1.length co18] rfl (by (try simp only [List.map_toArray, List.map_cons, List.map_nil]); first | done | rfl | (simp only [List.length_drop, List.length_take]; rfl)) ?_; (with_reducible refine (barqueref09_together.calls k1 _ _ x3_1 t222 _ ?side1 ?side2 A6.out).mono ?_); (case side1 => repeat (first | exact (Kd.R_reads' HO_3.out).2.2 | (with_reducible refine Kd.C_alloc ?_ _) | (with_reducible refine Kd.C_drewN ?_ _) | (with_reducible refine Kd.C_drew ?_))); (case side2 => exact (Kd.R_reads' HO_3.out).2.1); rintro e w19 ⟨rfl, hb⟩; refine ⟨_, rfl, ?_⟩; have n0_ := Aside0.mk (Kd.R_below (by (with_reducible repeat (first | apply Kd.R_alloc | apply Kd.R_drewN | apply Kd.R_drew)); exact HO_3.out) hb); have n1_ := Aside0.mk (below_step (by repeat (first | (with_reducible first | exact HB.out | apply below_alloc | apply pw_below_drewN | apply below_drew1) | exact HB.out)) hb); clear HO_3; clear HB; have HO_3 := n0_; have HB := n1_; clear n0_ n1_; (try clear hb); (try clear hb2); (try clear hk); (try clear hi)))
          go_ret
          exact ⟨by first | rfl | (simp [errW_none, errW_some] <;> rfl) | (simp [*, errW_none, errW_some] <;> rfl), by repeat (first | (with_reducible first | exact HB.out | apply below_alloc | apply pw_below_drewN | apply below_drew1) | exact HB.out)⟩
end Go.Proofs.YtafjlibcdlihcaaDoor.G
end
section
namespace Go.Proofs.YtafjlibcdlihcaaDoor.G
open Go.RowKit Go.Proofs.YtafjlibcdlihcaaDoorW.PrintWords Go.Proofs.YtafjlibcdlihcaaDoorW.PrintLast Go.Proofs.YtafjlibcdlihcaaDoorW.PrintMore
set_option linter.unusedVariables false
set_option linter.unusedSimpArgs false
theorem rdF_nat (l : List S58) (i : Nat) (h : i < l.length) : rd_T58 l (i : Int) = l[i] := by
  simp [rd_T58, List.getD_eq_getElem?_getD, h]
end Go.Proofs.YtafjlibcdlihcaaDoor.G
end
section
namespace Go.Proofs.YtafjlibcdlihcaaDoor.G
open Go.RowKit Go.Proofs.YtafjlibcdlihcaaDoorW.PrintWords Go.Proofs.YtafjlibcdlihcaaDoorW.PrintLast Go.Proofs.YtafjlibcdlihcaaDoorW.PrintMore
attribute [local go_sem] max2_int min2_int max_two min_two max_three min_three max_four min_four   -- for this text's walks alone
set_option linter.unusedVariables false
set_option linter.unusedSimpArgs false
mutual
def barqueref09_Sort.l0 : Nat → List (S58) → List (S58) → Int → Option ((List (S58)))
  | 0, _, _, _ => none
  | k + 1, x0, x3, x4 => if x4 < (x0.length : Int) then (barqueref09_Sort.l1 k x0 x3 x4 ([] : List (S58)) false 0) else (some x3)
def barqueref09_Sort.l1 : Nat → List (S58) → List (S58) → Int → List (S58) → Bool → Int → Option ((List (S58)))
  | 0, _, _, _, _, _, _ => none
  | k + 1, x0, x3, x4, x5, x6, x7 => if x7 < (x3.length : Int) then (if x6 = true then (if 0 ≤ x7 then (if x5.length < 3518437208883 then (barqueref09_Sort.l1 k x0 x3 x4 (x5 ++ [(⟨(rd_T58 x3 x7).f0, (rd_T58 x3 x7).f1, (rd_T58 x3 x7).f2⟩ : S58)]) x6 (wrap64 (x7 + 1))) else (none)) else (none)) else (if 0 ≤ x4 then (if x4 < (x0.length : Int) then (if 0 ≤ x7 then ((barqueref09_Order.f k ((rd_T58 x0 x4).f0) ((rd_T58 x3 x7).f0)).bind fun t442 => (if t442 < 0 then (if x5.length < 3518437208883 then ((some (x5 ++ [(⟨(rd_T58 x0 x4).f0, (rd_T58 x0 x4).f1, (rd_T58 x0 x4).f2⟩ : S58)] : List (S58))).bind fun y444 => (if y444.length < 3518437208883 then (barqueref09_Sort.l1 k x0 x3 x4 (y444 ++ [(⟨(rd_T58 x3 x7).f0, (rd_T58 x3 x7).f1, (rd_T58 x3 x7).f2⟩ : S58)]) true (wrap64 (x7 + 1))) else (none))) else (none)) else (if x5.length < 3518437208883 then (barqueref09_Sort.l1 k x0 x3 x4 (x5 ++ [(⟨(rd_T58 x3 x7).f0, (rd_T58 x3 x7).f1, (rd_T58 x3 x7).f2⟩ : S58)]) x6 (wrap64 (x7 + 1))) else (none)))) else (none)) else (none)) else (none))) else (if x6 = true then (barqueref09_Sort.l0 k x0 x5 (wrap64 (x4 + 1))) else (if 0 ≤ x4 then (if x4 < (x0.length : Int) then (if x5.length < 3518437208883 then (barqueref09_Sort.l0 k x0 (x5 ++ [(⟨(rd_T58 x0 x4).f0, (rd_T58 x0 x4).f1, (rd_T58 x0 x4).f2⟩ : S58)]) (wrap64 (x4 + 1))) else (none)) else (none)) else (none)))
end
def barqueref09_Sort.f (k : Nat) (l0 : List (S58)) : Option ((List (S58))) := barqueref09_Sort.l0 k l0 ([] : List (S58)) 0
theorem barqueref09_Sort.mono_l : ∀ k, (∀ y0 y1 y2, LeO (barqueref09_Sort.l0 k y0 y1 y2) (barqueref09_Sort.l0 (k + 1) y0 y1 y2)) ∧ (∀ y0 y1 y2 y3 y4 y5, LeO (barqueref09_Sort.l1 k y0 y1 y2 y3 y4 y5) (barqueref09_Sort.l1 (k + 1) y0 y1 y2 y3 y4 y5))
  | 0 => ⟨fun _ _ _ r h => by simp [barqueref09_Sort.l0] at h, fun _ _ _ _ _ _ r h => by simp [barqueref09_Sort.l1] at h⟩
  | k + 1 => by
    obtain ⟨ih0, ih1⟩ := barqueref09_Sort.mono_l k
    refine ⟨?_, ?_⟩
    · intro y0 y1 y2
      unfold barqueref09_Sort.l0
      repeat' first
      | (with_reducible exact ih0 _ _ _)
      | (with_reducible exact ih1 _ _ _ _ _ _)
      | (with_reducible exact barqueref09_Order.mono _ _ _)
      | (with_reducible exact LeO.refl _)
      | (with_reducible exact LeO.none _)
      | (with_reducible refine LeO.ite ?_ ?_)
      | (with_reducible refine LeO.bind ?_ (fun _ => ?_))
      | exact ih0 _ _ _
      | exact ih1 _ _ _ _ _ _
      | exact barqueref09_Order.mono _ _ _
      | exact LeO.none _
      | refine LeO.ite ?_ ?_
      | refine LeO.bind ?_ (fun _ => ?_)
    · intro y0 y1 y2 y3 y4 y5
      unfold barqueref09_Sort.l1
      repeat' first
      | (with_reducible exact ih0 _ _ _)
      | (with_reducible exact ih1 _ _ _ _ _ _)
      | (with_reducible exact barqueref09_Order.mono _ _ _)
      | (with_reducible exact LeO.refl _)
      | (with_reducible exact LeO.none _)
      | (with_reducible refine LeO.ite ?_ ?_)
      | (with_reducible refine LeO.bind ?_ (fun _ => ?_))
      | exact ih0 _ _ _
      | exact ih1 _ _ _ _ _ _
      | exact barqueref09_Order.mono _ _ _
      | exact LeO.none _
      | refine LeO.ite ?_ ?_
      | refine LeO.bind ?_ (fun _ => ?_)
theorem barqueref09_Sort.mono : ∀ a0 k, LeO (barqueref09_Sort.f k a0) (barqueref09_Sort.f (k + 1) a0) := by
  intro a0 k
  obtain ⟨ih0, ih1⟩ := barqueref09_Sort.mono_l k
  unfold barqueref09_Sort.f
  repeat' first
      | (with_reducible exact ih0 _ _ _)
      | (with_reducible exact ih1 _ _ _ _ _ _)
      | (with_reducible exact barqueref09_Order.mono _ _ _)
      | (with_reducible exact LeO.refl _)
      | (with_reducible exact LeO.none _)
      | (with_reducible refine LeO.ite ?_ ?_)
      | (with_reducible refine LeO.bind ?_ (fun _ => ?_))
      | exact ih0 _ _ _
      | exact ih1 _ _ _ _ _ _
      | exact barqueref09_Order.mono _ _ _
      | exact LeO.none _
      | refine LeO.ite ?_ ?_
      | refine LeO.bind ?_ (fun _ => ?_)
set_option maxHeartbeats 8000000 in
set_option maxRecDepth 100000 in
theorem barqueref09_Sort.calls (k : Nat) (A0 : Option Addr) (c0 : Nat) (l0 : List (S58)) (r : List (S58)) (w : World) (hr0 : Kd.C k58 w A0 l0.length l0) (hc0 : l0.length ≤ c0) (h : barqueref09_Sort.f k l0 = some r) :
    Calls Tryd.prog 43 #[.slice A0 l0.length c0] w fun e w' => ∃ v0_ : Value, e = .returned (v0_) ∧ Kd.R k58 58 w' w.heap.size (fun _ => True) v0_ r ∧ Below w.heap.size w w' := by
  have hu58 := Tryd.underlying58
  have HR0 := Aside0.mk hr0
  have HC0 := Aside0.mk hc0
  clear hr0 hc0
  have HB := Aside0.mk (Below.refl w.heap.size w)
  have H : (barqueref09_Sort.l0 k l0 ([] : List (S58)) 0) = some r := h
  clear h
  have H' := Aside0.mk H
  clear H
  go_enter Tryd.func43, Tryd.ntmps43
  go_wp2
  repeat (go_quiet (fail); try go_wp2)
  go_loopg [3, 4] k (fun kq v3 v4 w' => ∃ (x3_1 : List (S58)) (x4_1 : Int), v4 = .int .i64 x4_1 ∧ Aside0 (barqueref09_Sort.l0 kq l0 x3_1 x4_1 = some r) ∧ Aside0 (kq ≤ k) ∧ Aside0 (Kd.R k58 58 w' w.heap.size (fun _ => True) v3 x3_1) ∧ Aside0 (Below w.heap.size w w'))
  case atStart => exact ⟨(([] : List (S58))), (0), (by first | rfl | (simp; done) | (simp [*]; done)), H', ⟨Nat.le_refl _⟩, ⟨by first | exact Kd.R_nil _ _ _ _ _ | exact Kd.N_nil _ _ _ _ _ | exact Kd.V_nil _ _ _ _ _ | exact Kd.Q_nil _ _ _ _ _ | exact Kd.S_nil _ _ _ _ _⟩, ⟨by repeat (first | (with_reducible first | exact HB.out | apply below_alloc | apply pw_below_drewN | apply below_drew1) | exact HB.out)⟩⟩
  case round =>
    clear H'
    obtain ⟨x3_1, x4_1, rfl, HA, HK1, HO_3, HB⟩ := hrel
    cases gk with
    | zero => exact absurd HA.out (by simp [barqueref09_Sort.l0])
    | succ k1 =>
      have H := HA.out
      clear HA
      simp only [barqueref09_Sort.l0] at H
      by_cases c2 : x4_1 < (l0.length : Int)
      · rw [if_pos c2] at H
        have c2b0 : decide (x4_1 < (l0.length : Int)) = true := decide_eq_true c2
        clear c2
        have H' := Aside0.mk H
        clear H
        go_wp2
        repeat (go_quiet (fail); try go_wp2)
        go_loopg [5, 6, 7] k1 (fun kq v5 v6 v7 w' => ∃ (x5_2 : List (S58)) (x6_2 : Bool) (x7_2 : Int), v6 = .bool x6_2 ∧ v7 = .int .i64 x7_2 ∧ Aside0 (barqueref09_Sort.l1 kq l0 x3_1 x4_1 x5_2 x6_2 x7_2 = some r) ∧ Aside0 (kq ≤ k1) ∧ Aside0 (Kd.R k58 58 w' w.heap.size (fun k_ => some k_ ≠ (v5 : Value).ownBlock) u3 x3_1) ∧ Aside0 (Kd.R k58 58 w' w.heap.size (fun k_ => some k_ ≠ (u3 : Value).ownBlock) v5 x5_2) ∧ Aside0 (Below w.heap.size w w'))
        case atStart => exact ⟨(([] : List (S58))), (false), (0), (by first | rfl | (simp; done) | (simp [*]; done)), (by first | rfl | (simp; done) | (simp [*]; done)), H', ⟨Nat.le_refl _⟩, ⟨by (with_reducible repeat (first | apply Kd.R_alloc | apply Kd.R_drewN | apply Kd.R_drew)); exact Kd.R_mono HO_3.out (fun _ hk => (by simp [Value.ownBlock]))⟩, ⟨by first | exact Kd.R_nil _ _ _ _ _ | exact Kd.N_nil _ _ _ _ _ | exact Kd.V_nil _ _ _ _ _ | exact Kd.Q_nil _ _ _ _ _ | exact Kd.S_nil _ _ _ _ _⟩, ⟨by repeat (first | (with_reducible first | exact HB.out | apply below_alloc | apply pw_below_drewN | apply below_drew1) | exact HB.out)⟩⟩
        case round =>
          clear H'
          try clear c2
          try clear c2b0
          try clear p2
          obtain ⟨x5_2, x6_2, x7_2, rfl, rfl, HA, HK2, HO_3, HO_5, HB⟩ := hrel
          cases gk with
          | zero => exact absurd HA.out (by simp [barqueref09_Sort.l1])
          | succ k2 =>
            have H := HA.out
            clear HA
            simp only [barqueref09_Sort.l1] at H
            by_cases c3 : x7_2 < (x3_1.length : Int)
            · rw [if_pos c3] at H
              have c3b0 : decide (x7_2 < (x3_1.length : Int)) = true := decide_eq_true c3
              clear c3
              by_cases c4 : x6_2 = true
              · subst c4
                have H1 : (if 0 ≤ x7_2 then (if x5_2.length < 3518437208883 then (barqueref09_Sort.l1 k2 l0 x3_1 x4_1 (x5_2 ++ [(⟨(rd_T58 x3_1 x7_2).f0, (rd_T58 x3_1 x7_2).f1, (rd_T58 x3_1 x7_2).f2⟩ : S58)]) true (wrap64 (x7_2 + 1))) else (none)) else (none)) = some r := by rw [if_pos rfl] at H; exact H
                clear H
                have H := H1
                clear H1
                by_cases c5 : 0 ≤ x7_2
                · rw [if_pos c5] at H
                  have c5b0 : decide (0 ≤ x7_2) = true := decide_eq_true c5
                  clear c5
                  by_cases c6 : x5_2.length < 3518437208883
                  · rw [if_pos c6] at H
                    have LMc6 := Aside0.mk c6
                    clear c6
                    obtain ⟨y437, hy437⟩ : ∃ y_ : List (S58), y_ = (x5_2 ++ [(⟨(rd_T58 x3_1 x7_2).f0, (rd_T58 x3_1 x7_2).f1, (rd_T58 x3_1 x7_2).f2⟩ : S58)]) := ⟨_, rfl⟩
                    replace H : (barqueref09_Sort.l1 k2 l0 x3_1 x4_1 y437 true (wrap64 (x7_2 + 1))) = some r := by first | (rw [hy437]; with_reducible exact H) | (have H2_ := (Option.bind_some _ _).symm.trans H; rw [hy437]; with_reducible exact H2_) | (have H2_ := (Option.bind_some _ _).symm.trans H; with_reducible exact H2_) | with_reducible exact H | (rw [hy437]; exact H) | exact H
                    have Ny437 := Aside0.mk hy437
                    clear hy437
                    have H' := Aside0.mk H
                    clear H
                    obtain ⟨Ao7, co7, eo7⟩ := Kd.R_slice HO_3.out
                    subst eo7
                    have p436 : 0 ≤ (x7_2 : Int) := of_decide_eq_true (by first | (with_reducible assumption) | assumption)
                    have q436 : x7_2 < (x3_1.length : Int) := of_decide_eq_true (by first | (with_reducible assumption) | assumption)
                    obtain ⟨ad436, e436, hx436_0, hx436_1, hx436_2⟩ := at_T58 (Kd.R_reads' HO_3.out).2.2 x7_2 p436 q436
                    cases e436
                    replace p436 := eq_true p436
                    replace q436 := eq_true q436
                    go_wp2_with (first | ((with_reducible refine gate_builtin (b := .append) (xs := #[.tmp 43, .tmp 48]) rfl ?_); at_builtin; refine Kd.R_append k58 (w0 := w) w.heap.size rfl (.tmp 43) (.tmp 48) 29 58 (.agg #[(.string ⟨#[]⟩), (.int .i64 0), (.string ⟨#[]⟩)]) 40 rfl Tryd.underlying29 info58 rfl (by decide) (by omega) u5 x5_2 (⟨(rd_T58 x3_1 x7_2).f0, (rd_T58 x3_1 x7_2).f1, (rd_T58 x3_1 x7_2).f2⟩ : S58) [.string ((rd_T58 x3_1 x7_2).f0), .int .i64 ((rd_T58 x3_1 x7_2).f1), .string ((rd_T58 x3_1 x7_2).f2)] (fun k_ => some k_ ≠ (.slice (some ad436) x3_1.length co7 : Value).ownBlock) (fun _ => False) rfl rfl ?aP (fun _ hk => hk.elim) ?aF ?aO ?aB ?aS ?aL ?_; (case aP => exact k58_mkM _ _ _ (⟨(rd_T58 x3_1 x7_2).f0, (rd_T58 x3_1 x7_2).f1, (rd_T58 x3_1 x7_2).f2⟩ : S58)); (case aB => exact (by repeat (first | (with_reducible first | exact HB.out | apply below_alloc | apply pw_below_drewN | apply below_drew1) | exact HB.out))); (case aF => exact (fun k_ hk => Kd.fresh' (Kd.R_lt (by (with_reducible repeat (first | apply Kd.R_alloc | apply Kd.R_drewN | apply Kd.R_drew)); exact HO_3.out)) k_ hk)); (case aO => exact (by (with_reducible repeat (first | apply Kd.R_alloc | apply Kd.R_drewN | apply Kd.R_drew)); exact HO_5.out)); (case aS => exact (below_size (by repeat (first | (with_reducible first | exact HB.out | apply below_alloc | apply pw_below_drewN | apply below_drew1) | exact HB.out)))); (case aL => have := LMc6.out; omega); intro v438 w8 ho hb hg hat; rw [← Ny437.out] at ho; have n0_ := Aside0.mk (Kd.R_after (ok := (fun _ => True)) (by (with_reducible repeat (first | apply Kd.R_alloc | apply Kd.R_drewN | apply Kd.R_drew)); exact Kd.R_mono HO_3.out (fun _ hk => ⟨trivial, hk⟩)) hg hat); have n1_ := Aside0.mk (hb); have n2_ := Aside0.mk (ho); clear HO_3; clear HB; clear HO_5; have HO_3 := n0_; have HB := n1_; have HO439 := n2_; clear n0_ n1_ n2_; clear ho hb hg hat))
                    repeat (go_quiet (first | ((with_reducible refine gate_builtin (b := .append) (xs := #[.tmp 43, .tmp 48]) rfl ?_); at_builtin; refine Kd.R_append k58 (w0 := w) w.heap.size rfl (.tmp 43) (.tmp 48) 29 58 (.agg #[(.string ⟨#[]⟩), (.int .i64 0), (.string ⟨#[]⟩)]) 40 rfl Tryd.underlying29 info58 rfl (by decide) (by omega) u5 x5_2 (⟨(rd_T58 x3_1 x7_2).f0, (rd_T58 x3_1 x7_2).f1, (rd_T58 x3_1 x7_2).f2⟩ : S58) [.string ((rd_T58 x3_1 x7_2).f0), .int .i64 ((rd_T58 x3_1 x7_2).f1), .string ((rd_T58 x3_1 x7_2).f2)] (fun k_ => some k_ ≠ (.slice (some ad436) x3_1.length co7 : Value).ownBlock) (fun _ => False) rfl rfl ?aP (fun _ hk => hk.elim) ?aF ?aO ?aB ?aS ?aL ?_; (case aP => exact k58_mkM _ _ _ (⟨(rd_T58 x3_1 x7_2).f0, (rd_T58 x3_1 x7_2).f1, (rd_T58 x3_1 x7_2).f2⟩ : S58)); (case aB => exact (by repeat (first | (with_reducible first | exact HB.out | apply below_alloc | apply pw_below_drewN | apply below_drew1) | exact HB.out))); (case aF => exact (fun k_ hk => Kd.fresh' (Kd.R_lt (by (with_reducible repeat (first | apply Kd.R_alloc | apply Kd.R_drewN | apply Kd.R_drew)); exact HO_3.out)) k_ hk)); (case aO => exact (by (with_reducible repeat (first | apply Kd.R_alloc | apply Kd.R_drewN | apply Kd.R_drew)); exact HO_5.out)); (case aS => exact (below_size (by repeat (first | (with_reducible first | exact HB.out | apply below_alloc | apply pw_below_drewN | apply below_drew1) | exact HB.out)))); (case aL => have := LMc6.out; omega); intro v438 w8 ho hb hg hat; rw [← Ny437.out] at ho; have n0_ := Aside0.mk (Kd.R_after (ok := (fun _ => True)) (by (with_reducible repeat (first | apply Kd.R_alloc | apply Kd.R_drewN | apply Kd.R_drew)); exact Kd.R_mono HO_3.out (fun _ hk => ⟨trivial, hk⟩)) hg hat); have n1_ := Aside0.mk (hb); have n2_ := Aside0.mk (ho); clear HO_3; clear HB; clear HO_5; have HO_3 := n0_; have HB := n1_; have HO439 := n2_; clear n0_ n1_ n2_; clear ho hb hg hat)); try go_wp2_with (first | ((with_reducible refine gate_builtin (b := .append) (xs := #[.tmp 43, .tmp 48]) rfl ?_); at_builtin; refine Kd.R_append k58 (w0 := w) w.heap.size rfl (.tmp 43) (.tmp 48) 29 58 (.agg #[(.string ⟨#[]⟩), (.int .i64 0), (.string ⟨#[]⟩)]) 40 rfl Tryd.underlying29 info58 rfl (by decide) (by omega) u5 x5_2 (⟨(rd_T58 x3_1 x7_2).f0, (rd_T58 x3_1 x7_2).f1, (rd_T58 x3_1 x7_2).f2⟩ : S58) [.string ((rd_T58 x3_1 x7_2).f0), .int .i64 ((rd_T58 x3_1 x7_2).f1), .string ((rd_T58 x3_1 x7_2).f2)] (fun k_ => some k_ ≠ (.slice (some ad436) x3_1.length co7 : Value).ownBlock) (fun _ => False) rfl rfl ?aP (fun _ hk => hk.elim) ?aF ?aO ?aB ?aS ?aL ?_; (case aP => exact k58_mkM _ _ _ (⟨(rd_T58 x3_1 x7_2).f0, (rd_T58 x3_1 x7_2).f1, (rd_T58 x3_1 x7_2).f2⟩ : S58)); (case aB => exact (by repeat (first | (with_reducible first | exact HB.out | apply below_alloc | apply pw_below_drewN | apply below_drew1) | exact HB.out))); (case aF => exact (fun k_ hk => Kd.fresh' (Kd.R_lt (by (with_reducible repeat (first | apply Kd.R_alloc | apply Kd.R_drewN | apply Kd.R_drew)); exact HO_3.out)) k_ hk)); (case aO => exact (by (with_reducible repeat (first | apply Kd.R_alloc | apply Kd.R_drewN | apply Kd.R_drew)); exact HO_5.out)); (case aS => exact (below_size (by repeat (first | (with_reducible first | exact HB.out | apply below_alloc | apply pw_below_drewN | apply below_drew1) | exact HB.out)))); (case aL => have := LMc6.out; omega); intro v438 w8 ho hb hg hat; rw [← Ny437.out] at ho; have n0_ := Aside0.mk (Kd.R_after (ok := (fun _ => True)) (by (with_reducible repeat (first | apply Kd.R_alloc | apply Kd.R_drewN | apply Kd.R_drew)); exact Kd.R_mono HO_3.out (fun _ hk => ⟨trivial, hk⟩)) hg hat); have n1_ := Aside0.mk (hb); have n2_ := Aside0.mk (ho); clear HO_3; clear HB; clear HO_5; have HO_3 := n0_; have HB := n1_; have HO439 := n2_; clear n0_ n1_ n2_; clear ho hb hg hat)))
                    go_roundg k2
                    case measure => have := HK1.out; have := HK2.out; omega
                    case rel => exact ⟨(y437), (true), (wrap64 (x7_2 + 1)), (by first | rfl | (simp; done) | (simp [*]; done)), (by first | rfl | (simp; done) | (simp [*]; done)), H', ⟨by have := HK1.out; have := HK2.out; omega⟩, ⟨by (with_reducible repeat (first | apply Kd.R_alloc | apply Kd.R_drewN | apply Kd.R_drew)); exact Kd.R_mono HO_3.out (fun _ hk => hk.2)⟩, ⟨by (with_reducible repeat (first | apply Kd.R_alloc | apply Kd.R_drewN | apply Kd.R_drew)); exact HO439.out⟩, ⟨by repeat (first | (with_reducible first | exact HB.out | apply below_alloc | apply pw_below_drewN | apply below_drew1) | exact HB.out)⟩⟩
                  · rw [if_neg c6] at H
                    exact absurd H (by simp)
                · rw [if_neg c5] at H
                  exact absurd H (by simp)
              · replace c4 := Bool.eq_false_iff.mpr c4
                subst c4
                have H1 : (if 0 ≤ x4_1 then (if x4_1 < (l0.length : Int) then (if 0 ≤ x7_2 then ((barqueref09_Order.f k2 ((rd_T58 l0 x4_1).f0) ((rd_T58 x3_1 x7_2).f0)).bind fun t442 => (if t442 < 0 then (if x5_2.length < 3518437208883 then ((some (x5_2 ++ [(⟨(rd_T58 l0 x4_1).f0, (rd_T58 l0 x4_1).f1, (rd_T58 l0 x4_1).f2⟩ : S58)] : List (S58))).bind fun y444 => (if y444.length < 3518437208883 then (barqueref09_Sort.l1 k2 l0 x3_1 x4_1 (y444 ++ [(⟨(rd_T58 x3_1 x7_2).f0, (rd_T58 x3_1 x7_2).f1, (rd_T58 x3_1 x7_2).f2⟩ : S58)]) true (wrap64 (x7_2 + 1))) else (none))) else (none)) else (if x5_2.length < 3518437208883 then (barqueref09_Sort.l1 k2 l0 x3_1 x4_1 (x5_2 ++ [(⟨(rd_T58 x3_1 x7_2).f0, (rd_T58 x3_1 x7_2).f1, (rd_T58 x3_1 x7_2).f2⟩ : S58)]) false (wrap64 (x7_2 + 1))) else (none)))) else (none)) else (none)) else (none)) = some r := by rw [if_neg (show ¬ (false = true) by decide)] at H; exact H
                clear H
                have H := H1
                clear H1
                by_cases c9 : 0 ≤ x4_1
                · rw [if_pos c9] at H
                  have c9b0 : decide (0 ≤ x4_1) = true := decide_eq_true c9
                  clear c9
                  by_cases c10 : x4_1 < (l0.length : Int)
                  · rw [if_pos c10] at H
                    have c10b0 : decide (x4_1 < (l0.length : Int)) = true := decide_eq_true c10
                    clear c10
                    by_cases c11 : 0 ≤ x7_2
                    · rw [if_pos c11] at H
                      have c11b0 : decide (0 ≤ x7_2) = true := decide_eq_true c11
                      clear c11
                      replace H := Option.bind_eq_some_iff.mp H
                      obtain ⟨t442, A120, H⟩ := H
                      replace H : (if t442 < 0 then (if x5_2.length < 3518437208883 then ((some (x5_2 ++ [(⟨(rd_T58 l0 x4_1).f0, (rd_T58 l0 x4_1).f1, (rd_T58 l0 x4_1).f2⟩ : S58)] : List (S58))).bind fun y444 => (if y444.length < 3518437208883 then (barqueref09_Sort.l1 k2 l0 x3_1 x4_1 (y444 ++ [(⟨(rd_T58 x3_1 x7_2).f0, (rd_T58 x3_1 x7_2).f1, (rd_T58 x3_1 x7_2).f2⟩ : S58)]) true (wrap64 (x7_2 + 1))) else (none))) else (none)) else (if x5_2.length < 3518437208883 then (barqueref09_Sort.l1 k2 l0 x3_1 x4_1 (x5_2 ++ [(⟨(rd_T58 x3_1 x7_2).f0, (rd_T58 x3_1 x7_2).f1, (rd_T58 x3_1 x7_2).f2⟩ : S58)]) false (wrap64 (x7_2 + 1))) else (none))) = some r := H
                      have A12 := Aside0.mk A120
                      clear A120
                      by_cases c13 : t442 < 0
                      · rw [if_pos c13] at H
                        have c13b0 : decide (t442 < 0) = true := decide_eq_true c13
                        clear c13
                        by_cases c14 : x5_2.length < 3518437208883
                        · rw [if_pos c14] at H
                          have LMc14 := Aside0.mk c14
                          clear c14
                          obtain ⟨y444, hy444⟩ : ∃ y_ : List (S58), y_ = (x5_2 ++ [(⟨(rd_T58 l0 x4_1).f0, (rd_T58 l0 x4_1).f1, (rd_T58 l0 x4_1).f2⟩ : S58)]) := ⟨_, rfl⟩
                          replace H : (if y444.length < 3518437208883 then (barqueref09_Sort.l1 k2 l0 x3_1 x4_1 (y444 ++ [(⟨(rd_T58 x3_1 x7_2).f0, (rd_T58 x3_1 x7_2).f1, (rd_T58 x3_1 x7_2).f2⟩ : S58)]) true (wrap64 (x7_2 + 1))) else (none)) = some r := by first | (rw [hy444]; with_reducible exact H) | (have H2_ := (Option.bind_some _ _).symm.trans H; rw [hy444]; with_reducible exact H2_) | (have H2_ := (Option.bind_some _ _).symm.trans H; with_reducible exact H2_) | with_reducible exact H | (rw [hy444]; exact H) | exact H
                          have Ny444 := Aside0.mk hy444
                          clear hy444
                          by_cases c15 : y444.length < 3518437208883
                          · rw [if_pos c15] at H
                            have LMc15 := Aside0.mk c15
                            clear c15
                            obtain ⟨y448, hy448⟩ : ∃ y_ : List (S58), y_ = (y444 ++ [(⟨(rd_T58 x3_1 x7_2).f0, (rd_T58 x3_1 x7_2).f1, (rd_T58 x3_1 x7_2).f2⟩ : S58)]) := ⟨_, rfl⟩
                            replace H : (barqueref09_Sort.l1 k2 l0 x3_1 x4_1 y448 true (wrap64 (x7_2 + 1))) = some r := by first | (rw [hy448]; with_reducible exact H) | (have H2_ := (Option.bind_some _ _).symm.trans H; rw [hy448]; with_reducible exact H2_) | (have H2_ := (Option.bind_some _ _).symm.trans H; with_reducible exact H2_) | with_reducible exact H | (rw [hy448]; exact H) | exact H
                            have Ny448 := Aside0.mk hy448
                            clear hy448
                            have H' := Aside0.mk H
                            clear H
                            obtain ⟨Ao16, co16, eo16⟩ := Kd.R_slice HO_3.out
                            subst eo16
                            have p440 : 0 ≤ (x4_1 : Int) := of_decide_eq_true (by first | (with_reducible assumption) | assumption)
                            have q440 : x4_1 < (l0.length : Int) := of_decide_eq_true (by first | (with_reducible assumption) | assumption)
                            obtain ⟨ad440, e440, hx440_0, hx440_1, hx440_2⟩ := at_T58 HR0.out x4_1 p440 q440
                            cases e440
                            replace hx440_0 := (HB.out.cell (World.block_lt_of_cell? w _ hx440_0)).trans hx440_0
                            replace hx440_1 := (HB.out.cell (World.block_lt_of_cell? w _ hx440_1)).trans hx440_1
                            replace hx440_2 := (HB.out.cell (World.block_lt_of_cell? w _ hx440_2)).trans hx440_2
                            replace p440 := eq_true p440
                            replace q440 := eq_true q440
                            have p441 : 0 ≤ (x7_2 : Int) := of_decide_eq_true (by first | (with_reducible assumption) | assumption)
                            have q441 : x7_2 < (x3_1.length : Int) := of_decide_eq_true (by first | (with_reducible assumption) | assumption)
                            obtain ⟨ad441, e441, hx441_0, hx441_1, hx441_2⟩ := at_T58 (Kd.R_reads' HO_3.out).2.2 x7_2 p441 q441
                            cases e441
                            replace p441 := eq_true p441
                            replace q441 := eq_true q441
                            go_wp2_with (first | (go_at_call 84; (with_reducible refine (barqueref09_Order.calls k2 ((rd_T58 l0 x4_1).f0) ((rd_T58 x3_1 x7_2).f0) t442 _ A12.out).mono ?_); rintro e w' ⟨rfl, ⟨nd, rfl⟩⟩; (try first | exact ⟨rfl, _, World.drewN_drewN _ _ _⟩ | exact ⟨rfl, _, Eq.trans (World.drewN_drewN _ _ _) (congrArg (World.drewN _) (Nat.add_assoc _ _ _))⟩); have p443 : 0 ≤ (x4_1 : Int) := of_decide_eq_true (by first | (with_reducible assumption) | assumption); have q443 : x4_1 < (l0.length : Int) := of_decide_eq_true (by first | (with_reducible assumption) | assumption); obtain ⟨ad443, e443, hx443_0, hx443_1, hx443_2⟩ := at_T58 HR0.out x4_1 p443 q443; obtain rfl : ad440 = ad443 := (by injection e443); replace hx443_0 := (HB.out.cell (World.block_lt_of_cell? w _ hx443_0)).trans hx443_0; replace hx443_1 := (HB.out.cell (World.block_lt_of_cell? w _ hx443_1)).trans hx443_1; replace hx443_2 := (HB.out.cell (World.block_lt_of_cell? w _ hx443_2)).trans hx443_2; replace p443 := eq_true p443; replace q443 := eq_true q443) | ((with_reducible refine gate_builtin (b := .append) (xs := #[.tmp 36, .tmp 41]) rfl ?_); at_builtin; refine Kd.R_append k58 (w0 := w) w.heap.size rfl (.tmp 36) (.tmp 41) 29 58 (.agg #[(.string ⟨#[]⟩), (.int .i64 0), (.string ⟨#[]⟩)]) 40 rfl Tryd.underlying29 info58 rfl (by decide) (by omega) u5 x5_2 (⟨(rd_T58 l0 x4_1).f0, (rd_T58 l0 x4_1).f1, (rd_T58 l0 x4_1).f2⟩ : S58) [.string ((rd_T58 l0 x4_1).f0), .int .i64 ((rd_T58 l0 x4_1).f1), .string ((rd_T58 l0 x4_1).f2)] (fun k_ => some k_ ≠ (.slice (some ad441) x3_1.length co16 : Value).ownBlock) (fun _ => False) rfl rfl ?aP (fun _ hk => hk.elim) ?aF ?aO ?aB ?aS ?aL ?_; (case aP => exact k58_mkM _ _ _ (⟨(rd_T58 l0 x4_1).f0, (rd_T58 l0 x4_1).f1, (rd_T58 l0 x4_1).f2⟩ : S58)); (case aB => exact (by repeat (first | (with_reducible first | exact HB.out | apply below_alloc | apply pw_below_drewN | apply below_drew1) | exact HB.out))); (case aF => exact (fun k_ hk => Kd.fresh' (Kd.R_lt (by (with_reducible repeat (first | apply Kd.R_alloc | apply Kd.R_drewN | apply Kd.R_drew)); exact HO_3.out)) k_ hk)); (case aO => exact (by (with_reducible repeat (first | apply Kd.R_alloc | apply Kd.R_drewN | apply Kd.R_drew)); exact HO_5.out)); (case aS => exact (below_size (by repeat (first | (with_reducible first | exact HB.out | apply below_alloc | apply pw_below_drewN | apply below_drew1) | exact HB.out)))); (case aL => have := LMc14.out; omega); intro v445 w17 ho hb hg hat; rw [← Ny444.out] at ho; have n0_ := Aside0.mk (Kd.R_after (ok := (fun _ => True)) (by (with_reducible repeat (first | apply Kd.R_alloc | apply Kd.R_drewN | apply Kd.R_drew)); exact Kd.R_mono HO_3.out (fun _ hk => ⟨trivial, hk⟩)) hg hat); have n1_ := Aside0.mk (hb); have n2_ := Aside0.mk (ho); clear HO_3; clear HB; clear HO_5; have HO_3 := n0_; have HB := n1_; have HO446 := n2_; clear n0_ n1_ n2_; clear ho hb hg hat; have p447 : 0 ≤ (x7_2 : Int) := of_decide_eq_true (by first | (with_reducible assumption) | assumption); have q447 : x7_2 < (x3_1.length : Int) := of_decide_eq_true (by first | (with_reducible assumption) | assumption); obtain ⟨ad447, e447, hx447_0, hx447_1, hx447_2⟩ := at_T58 (Kd.R_reads' HO_3.out).2.2 x7_2 p447 q447; obtain rfl : ad441 = ad447 := (by injection e447); replace p447 := eq_true p447; replace q447 := eq_true q447) | ((with_reducible refine gate_builtin (b := .append) (xs := #[.tmp 43, .tmp 48]) rfl ?_); at_builtin; refine Kd.R_append k58 (w0 := w) w.heap.size rfl (.tmp 43) (.tmp 48) 29 58 (.agg #[(.string ⟨#[]⟩), (.int .i64 0), (.string ⟨#[]⟩)]) 40 rfl Tryd.underlying29 info58 rfl (by decide) (by omega) v445 y444 (⟨(rd_T58 x3_1 x7_2).f0, (rd_T58 x3_1 x7_2).f1, (rd_T58 x3_1 x7_2).f2⟩ : S58) [.string ((rd_T58 x3_1 x7_2).f0), .int .i64 ((rd_T58 x3_1 x7_2).f1), .string ((rd_T58 x3_1 x7_2).f2)] (fun k_ => some k_ ≠ (.slice (some ad441) x3_1.length co16 : Value).ownBlock) (fun _ => False) rfl rfl ?aP (fun _ hk => hk.elim) ?aF ?aO ?aB ?aS ?aL ?_; (case aP => exact k58_mkM _ _ _ (⟨(rd_T58 x3_1 x7_2).f0, (rd_T58 x3_1 x7_2).f1, (rd_T58 x3_1 x7_2).f2⟩ : S58)); (case aB => exact (by repeat (first | (with_reducible first | exact HB.out | apply below_alloc | apply pw_below_drewN | apply below_drew1) | exact HB.out))); (case aF => exact (fun k_ hk => Kd.fresh' (Kd.R_lt (by (with_reducible repeat (first | apply Kd.R_alloc | apply Kd.R_drewN | apply Kd.R_drew)); exact HO_3.out)) k_ hk)); (case aO => exact (by (with_reducible repeat (first | apply Kd.R_alloc | apply Kd.R_drewN | apply Kd.R_drew)); exact HO446.out)); (case aS => exact (below_size (by repeat (first | (with_reducible first | exact HB.out | apply below_alloc | apply pw_below_drewN | apply below_drew1) | exact HB.out)))); (case aL => have := LMc15.out; omega); intro v449 w18 ho hb hg hat; rw [← Ny448.out] at ho; have n0_ := Aside0.mk (Kd.R_after (ok := (fun _ => True)) (by (with_reducible repeat (first | apply Kd.R_alloc | apply Kd.R_drewN | apply Kd.R_drew)); exact HO_3.out) hg hat); have n1_ := Aside0.mk (hb); have n2_ := Aside0.mk (ho); clear HO_3; clear HB; clear HO446; have HO_3 := n0_; have HB := n1_; have HO450 := n2_; clear n0_ n1_ n2_; clear ho hb hg hat))
                            repeat (go_quiet (first | (go_at_call 84; (with_reducible refine (barqueref09_Order.calls k2 ((rd_T58 l0 x4_1).f0) ((rd_T58 x3_1 x7_2).f0) t442 _ A12.out).mono ?_); rintro e w' ⟨rfl, ⟨nd, rfl⟩⟩; (try first | exact ⟨rfl, _, World.drewN_drewN _ _ _⟩ | exact ⟨rfl, _, Eq.trans (World.drewN_drewN _ _ _) (congrArg (World.drewN _) (Nat.add_assoc _ _ _))⟩); have p443 : 0 ≤ (x4_1 : Int) := of_decide_eq_true (by first | (with_reducible assumption) | assumption); have q443 : x4_1 < (l0.length : Int) := of_decide_eq_true (by first | (with_reducible assumption) | assumption); obtain ⟨ad443, e443, hx443_0, hx443_1, hx443_2⟩ := at_T58 HR0.out x4_1 p443 q443; obtain rfl : ad440 = ad443 := (by injection e443); replace hx443_0 := (HB.out.cell (World.block_lt_of_cell? w _ hx443_0)).trans hx443_0; replace hx443_1 := (HB.out.cell (World.block_lt_of_cell? w _ hx443_1)).trans hx443_1; replace hx443_2 := (HB.out.cell (World.block_lt_of_cell? w _ hx443_2)).trans hx443_2; replace p443 := eq_true p443; replace q443 := eq_true q443) | ((with_reducible refine gate_builtin (b := .append) (xs := #[.tmp 36, .tmp 41]) rfl ?_); at_builtin; refine Kd.R_append k58 (w0 := w) w.heap.size rfl (.tmp 36) (.tmp 41) 29 58 (.agg #[(.string ⟨#[]⟩), (.int .i64 0), (.string ⟨#[]⟩)]) 40 rfl Tryd.underlying29 info58 rfl (by decide) (by omega) u5 x5_2 (⟨(rd_T58 l0 x4_1).f0, (rd_T58 l0 x4_1).f1, (rd_T58 l0 x4_1).f2⟩ : S58) [.string ((rd_T58 l0 x4_1).f0), .int .i64 ((rd_T58 l0 x4_1).f1), .string ((rd_T58 l0 x4_1).f2)] (fun k_ => some k_ ≠ (.slice (some ad441) x3_1.length co16 : Value).ownBlock) (fun _ => False) rfl rfl ?aP (fun _ hk => hk.elim) ?aF ?aO ?aB ?aS ?aL ?_; (case aP => exact k58_mkM _ _ _ (⟨(rd_T58 l0 x4_1).f0, (rd_T58 l0 x4_1).f1, (rd_T58 l0 x4_1).f2⟩ : S58)); (case aB => exact (by repeat (first | (with_reducible first | exact HB.out | apply below_alloc | apply pw_below_drewN | apply below_drew1) | exact HB.out))); (case aF => exact (fun k_ hk => Kd.fresh' (Kd.R_lt (by (with_reducible repeat (first | apply Kd.R_alloc | apply Kd.R_drewN | apply Kd.R_drew)); exact HO_3.out)) k_ hk)); (case aO => exact (by (with_reducible repeat (first | apply Kd.R_alloc | apply Kd.R_drewN | apply Kd.R_drew)); exact HO_5.out)); (case aS => exact (below_size (by repeat (first | (with_reducible first | exact HB.out | apply below_alloc | apply pw_below_drewN | apply below_drew1) | exact HB.out)))); (case aL => have := LMc14.out; omega); intro v445 w17 ho hb hg hat; rw [← Ny444.out] at ho; have n0_ := Aside0.mk (Kd.R_after (ok := (fun _ => True)) (by (with_reducible repeat (first | apply Kd.R_alloc | apply Kd.R_drewN | apply Kd.R_drew)); exact Kd.R_mono HO_3.out (fun _ hk => ⟨trivial, hk⟩)) hg hat); have n1_ := Aside0.mk (hb); have n2_ := Aside0.mk (ho); clear HO_3; clear HB; clear HO_5; have HO_3 := n0_; have HB := n1_; have HO446 := n2_; clear n0_ n1_ n2_; clear ho hb hg hat; have p447 : 0 ≤ (x7_2 : Int) := of_decide_eq_true (by first | (with_reducible assumption) | assumption); have q447 : x7_2 < (x3_1.length : Int) := of_decide_eq_true (by first | (with_reducible assumption) | assumption); obtain ⟨ad447, e447, hx447_0, hx447_1, hx447_2⟩ := at_T58 (Kd.R_reads' HO_3.out).2.2 x7_2 p447 q447; obtain rfl : ad441 = ad447 := (by injection e447); replace p447 := eq_true p447; replace q447 := eq_true q447) | ((with_reducible refine gate_builtin (b := .append) (xs := #[.tmp 43, .tmp 48]) rfl ?_); at_builtin; refine Kd.R_append k58 (w0 := w) w.heap.size rfl (.tmp 43) (.tmp 48) 29 58 (.agg #[(.string ⟨#[]⟩), (.int .i64 0), (.string ⟨#[]⟩)]) 40 rfl Tryd.underlying29 info58 rfl (by decide) (by omega) v445 y444 (⟨(rd_T58 x3_1 x7_2).f0, (rd_T58 x3_1 x7_2).f1, (rd_T58 x3_1 x7_2).f2⟩ : S58) [.string ((rd_T58 x3_1 x7_2).f0), .int .i64 ((rd_T58 x3_1 x7_2).f1), .string ((rd_T58 x3_1 x7_2).f2)] (fun k_ => some k_ ≠ (.slice (some ad441) x3_1.length co16 : Value).ownBlock) (fun _ => False) rfl rfl ?aP (fun _ hk => hk.elim) ?aF ?aO ?aB ?aS ?aL ?_; (case aP => exact k58_mkM _ _ _ (⟨(rd_T58 x3_1 x7_2).f0, (rd_T58 x3_1 x7_2).f1, (rd_T58 x3_1 x7_2).f2⟩ : S58)); (case aB => exact (by repeat (first | (with_reducible first | exact HB.out | apply below_alloc | apply pw_below_drewN | apply below_drew1) | exact HB.out))); (case aF => exact (fun k_ hk => Kd.fresh' (Kd.R_lt (by (with_reducible repeat (first | apply Kd.R_alloc | apply Kd.R_drewN | apply Kd.R_drew)); exact HO_3.out)) k_ hk)); (case aO => exact (by (with_reducible repeat (first | apply Kd.R_alloc | apply Kd.R_drewN | apply Kd.R_drew)); exact HO446.out)); (case aS => exact (below_size (by repeat (first | (with_reducible first | exact HB.out | apply below_alloc | apply pw_below_drewN | apply below_drew1) | exact HB.out)))); (case aL => have := LMc15.out; omega); intro v449 w18 ho hb hg hat; rw [← Ny448.out] at ho; have n0_ := Aside0.mk (Kd.R_after (ok := (fun _ => True)) (by (with_reducible repeat (first | apply Kd.R_alloc | apply Kd.R_drewN | apply Kd.R_drew)); exact HO_3.out) hg hat); have n1_ := Aside0.mk (hb); have n2_ := Aside0.mk (ho); clear HO_3; clear HB; clear HO446; have HO_3 := n0_; have HB := n1_; have HO450 := n2_; clear n0_ n1_ n2_; clear ho hb hg hat)); try go_wp2_with (first | (go_at_call 84; (with_reducible refine (barqueref09_Order.calls k2 ((rd_T58 l0 x4_1).f0) ((rd_T58 x3_1 x7_2).f0) t442 _ A12.out).mono ?_); rintro e w' ⟨rfl, ⟨nd, rfl⟩⟩; (try first | exact ⟨rfl, _, World.drewN_drewN _ _ _⟩ | exact ⟨rfl, _, Eq.trans (World.drewN_drewN _ _ _) (congrArg (World.drewN _) (Nat.add_assoc _ _ _))⟩); have p443 : 0 ≤ (x4_1 : Int) := of_decide_eq_true (by first | (with_reducible assumption) | assumption); have q443 : x4_1 < (l0.length : Int) := of_decide_eq_true (by first | (with_reducible assumption) | assumption); obtain ⟨ad443, e443, hx443_0, hx443_1, hx443_2⟩ := at_T58 HR0.out x4_1 p443 q443; obtain rfl : ad440 = ad443 := (by injection e443); replace hx443_0 := (HB.out.cell (World.block_lt_of_cell? w _ hx443_0)).trans hx443_0; replace hx443_1 := (HB.out.cell (World.block_lt_of_cell? w _ hx443_1)).trans hx443_1; replace hx443_2 := (HB.out.cell (World.block_lt_of_cell? w _ hx443_2)).trans hx443_2; replace p443 := eq_true p443; replace q443 := eq_true q443) | ((with_reducible refine gate_builtin (b := .append) (xs := #[.tmp 36, .tmp 41]) rfl ?_); at_builtin; refine Kd.R_append k58 (w0 := w) w.heap.size rfl (.tmp 36) (.tmp 41) 29 58 (.agg #[(.string ⟨#[]⟩), (.int .i64 0), (.string ⟨#[]⟩)]) 40 rfl Tryd.underlying29 info58 rfl (by decide) (by omega) u5 x5_2 (⟨(rd_T58 l0 x4_1).f0, (rd_T58 l0 x4_1).f1, (rd_T58 l0 x4_1).f2⟩ : S58) [.string ((rd_T58 l0 x4_1).f0), .int .i64 ((rd_T58 l0 x4_1).f1), .string ((rd_T58 l0 x4_1).f2)] (fun k_ => some k_ ≠ (.slice (some ad441) x3_1.length co16 : Value).ownBlock) (fun _ => False) rfl rfl ?aP (fun _ hk => hk.elim) ?aF ?aO ?aB ?aS ?aL ?_; (case aP => exact k58_mkM _ _ _ (⟨(rd_T58 l0 x4_1).f0, (rd_T58 l0 x4_1).f1, (rd_T58 l0 x4_1).f2⟩ : S58)); (case aB => exact (by repeat (first | (with_reducible first | exact HB.out | apply below_alloc | apply pw_below_drewN | apply below_drew1) | exact HB.out))); (case aF => exact (fun k_ hk => Kd.fresh' (Kd.R_lt (by (with_reducible repeat (first | apply Kd.R_alloc | apply Kd.R_drewN | apply Kd.R_drew)); exact HO_3.out)) k_ hk)); (case aO => exact (by (with_reducible repeat (first | apply Kd.R_alloc | apply Kd.R_drewN | apply Kd.R_drew)); exact HO_5.out)); (case aS => exact (below_size (by repeat (first | (with_reducible first | exact HB.out | apply below_alloc | apply pw_below_drewN | apply below_drew1) | exact HB.out)))); (case aL => have := LMc14.out; omega); intro v445 w17 ho hb hg hat; rw [← Ny444.out] at ho; have n0_ := Aside0.mk (Kd.R_after (ok := (fun _ => True)) (by (with_reducible repeat (first | apply Kd.R_alloc | apply Kd.R_drewN | apply Kd.R_drew)); exact Kd.R_mono HO_3.out (fun _ hk => ⟨trivial, hk⟩)) hg hat); have n1_ := Aside0.mk (hb); have n2_ := Aside0.mk (ho); clear HO_3; clear HB; clear HO_5; have HO_3 := n0_; have HB := n1_; have HO446 := n2_; clear n0_ n1_ n2_; clear ho hb hg hat; have p447 : 0 ≤ (x7_2 : Int) := of_decide_eq_true (by first | (with_reducible assumption) | assumption); have q447 : x7_2 < (x3_1.length : Int) := of_decide_eq_true (by first | (with_reducible assumption) | assumption); obtain ⟨ad447, e447, hx447_0, hx447_1, hx447_2⟩ := at_T58 (Kd.R_reads' HO_3.out).2.2 x7_2 p447 q447; obtain rfl : ad441 = ad447 := (by injection e447); replace p447 := eq_true p447; replace q447 := eq_true q447) | ((with_reducible refine gate_builtin (b := .append) (xs := #[.tmp 43, .tmp 48]) rfl ?_); at_builtin; refine Kd.R_append k58 (w0 := w) w.heap.size rfl (.tmp 43) (.tmp 48) 29 58 (.agg #[(.string ⟨#[]⟩), (.int .i64 0), (.string ⟨#[]⟩)]) 40 rfl Tryd.underlying29 info58 rfl (by decide) (by omega) v445 y444 (⟨(rd_T58 x3_1 x7_2).f0, (rd_T58 x3_1 x7_2).f1, (rd_T58 x3_1 x7_2).f2⟩ : S58) [.string ((rd_T58 x3_1 x7_2).f0), .int .i64 ((rd_T58 x3_1 x7_2).f1), .string ((rd_T58 x3_1 x7_2).f2)] (fun k_ => some k_ ≠ (.slice (some ad441) x3_1.length co16 : Value).ownBlock) (fun _ => False) rfl rfl ?aP (fun _ hk => hk.elim) ?aF ?aO ?aB ?aS ?aL ?_; (case aP => exact k58_mkM _ _ _ (⟨(rd_T58 x3_1 x7_2).f0, (rd_T58 x3_1 x7_2).f1, (rd_T58 x3_1 x7_2).f2⟩ : S58)); (case aB => exact (by repeat (first | (with_reducible first | exact HB.out | apply below_alloc | apply pw_below_drewN | apply below_drew1) | exact HB.out))); (case aF => exact (fun k_ hk => Kd.fresh' (Kd.R_lt (by (with_reducible repeat (first | apply Kd.R_alloc | apply Kd.R_drewN | apply Kd.R_drew)); exact HO_3.out)) k_ hk)); (case aO => exact (by (with_reducible repeat (first | apply Kd.R_alloc | apply Kd.R_drewN | apply Kd.R_drew)); exact HO446.out)); (case aS => exact (below_size (by repeat (first | (with_reducible first | exact HB.out | apply below_alloc | apply pw_below_drewN | apply below_drew1) | exact HB.out)))); (case aL => have := LMc15.out; omega); intro v449 w18 ho hb hg hat; rw [← Ny448.out] at ho; have n0_ := Aside0.mk (Kd.R_after (ok := (fun _ => True)) (by (with_reducible repeat (first | apply Kd.R_alloc | apply Kd.R_drewN | apply Kd.R_drew)); exact HO_3.out) hg hat); have n1_ := Aside0.mk (hb); have n2_ := Aside0.mk (ho); clear HO_3; clear HB; clear HO446; have HO_3 := n0_; have HB := n1_; have HO450 := n2_; clear n0_ n1_ n2_; clear ho hb hg hat)))
                            go_roundg k2
                            case measure => have := HK1.out; have := HK2.out; omega
                            case rel => exact ⟨(y448), (true), (wrap64 (x7_2 + 1)), (by first | rfl | (simp; done) | (simp [*]; done)), (by first | rfl | (simp; done) | (simp [*]; done)), H', ⟨by have := HK1.out; have := HK2.out; omega⟩, ⟨by (with_reducible repeat (first | apply Kd.R_alloc | apply Kd.R_drewN | apply Kd.R_drew)); exact Kd.R_mono HO_3.out (fun _ hk => hk.2)⟩, ⟨by (with_reducible repeat (first | apply Kd.R_alloc | apply Kd.R_drewN | apply Kd.R_drew)); exact HO450.out⟩, ⟨by repeat (first | (with_reducible first | exact HB.out | apply below_alloc | apply pw_below_drewN | apply below_drew1) | exact HB.out)⟩⟩
                          · rw [if_neg c15] at H
                            exact absurd H (by simp)
                        · rw [if_neg c14] at H
                          exact absurd H (by simp)
                      · rw [if_neg c13] at H
                        have c13b0 : decide (t442 < 0) = false := decide_eq_false c13
                        clear c13
                        by_cases c19 : x5_2.length < 3518437208883
                        · rw [if_pos c19] at H
                          have LMc19 := Aside0.mk c19
                          clear c19
                          obtain ⟨y452, hy452⟩ : ∃ y_ : List (S58), y_ = (x5_2 ++ [(⟨(rd_T58 x3_1 x7_2).f0, (rd_T58 x3_1 x7_2).f1, (rd_T58 x3_1 x7_2).f2⟩ : S58)]) := ⟨_, rfl⟩
                          replace H : (barqueref09_Sort.l1 k2 l0 x3_1 x4_1 y452 false (wrap64 (x7_2 + 1))) = some r := by first | (rw [hy452]; with_reducible exact H) | (have H2_ := (Option.bind_some _ _).symm.trans H; rw [hy452]; with_reducible exact H2_) | (have H2_ := (Option.bind_some _ _).symm.trans H; with_reducible exact H2_) | with_reducible exact H | (rw [hy452]; exact H) | exact H
                          have Ny452 := Aside0.mk hy452
                          clear hy452
                          have H' := Aside0.mk H
                          clear H
                          obtain ⟨Ao20, co20, eo20⟩ := Kd.R_slice HO_3.out
                          subst eo20
                          have p440 : 0 ≤ (x4_1 : Int) := of_decide_eq_true (by first | (with_reducible assumption) | assumption)
                          have q440 : x4_1 < (l0.length : Int) := of_decide_eq_true (by first | (with_reducible assumption) | assumption)
                          obtain ⟨ad440, e440, hx440_0, hx440_1, hx440_2⟩ := at_T58 HR0.out x4_1 p440 q440
                          cases e440
                          replace hx440_0 := (HB.out.cell (World.block_lt_of_cell? w _ hx440_0)).trans hx440_0
                          replace hx440_1 := (HB.out.cell (World.block_lt_of_cell? w _ hx440_1)).trans hx440_1
                          replace hx440_2 := (HB.out.cell (World.block_lt_of_cell? w _ hx440_2)).trans hx440_2
                          replace p440 := eq_true p440
                          replace q440 := eq_true q440
                          have p441 : 0 ≤ (x7_2 : Int) := of_decide_eq_true (by first | (with_reducible assumption) | assumption)
                          have q441 : x7_2 < (x3_1.length : Int) := of_decide_eq_true (by first | (with_reducible assumption) | assumption)
                          obtain ⟨ad441, e441, hx441_0, hx441_1, hx441_2⟩ := at_T58 (Kd.R_reads' HO_3.out).2.2 x7_2 p441 q441
                          cases e441
                          replace p441 := eq_true p441
                          replace q441 := eq_true q441
                          go_wp2_with (first | (go_at_call 84; (with_reducible refine (barqueref09_Order.calls k2 ((rd_T58 l0 x4_1).f0) ((rd_T58 x3_1 x7_2).f0) t442 _ A12.out).mono ?_); rintro e w' ⟨rfl, ⟨nd, rfl⟩⟩; (try first | exact ⟨rfl, _, World.drewN_drewN _ _ _⟩ | exact ⟨rfl, _, Eq.trans (World.drewN_drewN _ _ _) (congrArg (World.drewN _) (Nat.add_assoc _ _ _))⟩); have p451 : 0 ≤ (x7_2 : Int) := of_decide_eq_true (by first | (with_reducible assumption) | assumption); have q451 : x7_2 < (x3_1.length : Int) := of_decide_eq_true (by first | (with_reducible assumption) | assumption); obtain ⟨ad451, e451, hx451_0, hx451_1, hx451_2⟩ := at_T58 (Kd.R_reads' HO_3.out).2.2 x7_2 p451 q451; obtain rfl : ad441 = ad451 := (by injection e451); replace p451 := eq_true p451; replace q451 := eq_true q451) | ((with_reducible refine gate_builtin (b := .append) (xs := #[.tmp 43, .tmp 48]) rfl ?_); at_builtin; refine Kd.R_append k58 (w0 := w) w.heap.size rfl (.tmp 43) (.tmp 48) 29 58 (.agg #[(.string ⟨#[]⟩), (.int .i64 0), (.string ⟨#[]⟩)]) 40 rfl Tryd.underlying29 info58 rfl (by decide) (by omega) u5 x5_2 (⟨(rd_T58 x3_1 x7_2).f0, (rd_T58 x3_1 x7_2).f1, (rd_T58 x3_1 x7_2).f2⟩ : S58) [.string ((rd_T58 x3_1 x7_2).f0), .int .i64 ((rd_T58 x3_1 x7_2).f1), .string ((rd_T58 x3_1 x7_2).f2)] (fun k_ => some k_ ≠ (.slice (some ad441) x3_1.length co20 : Value).ownBlock) (fun _ => False) rfl rfl ?aP (fun _ hk => hk.elim) ?aF ?aO ?aB ?aS ?aL ?_; (case aP => exact k58_mkM _ _ _ (⟨(rd_T58 x3_1 x7_2).f0, (rd_T58 x3_1 x7_2).f1, (rd_T58 x3_1 x7_2).f2⟩ : S58)); (case aB => exact (by repeat (first | (with_reducible first | exact HB.out | apply below_alloc | apply pw_below_drewN | apply below_drew1) | exact HB.out))); (case aF => exact (fun k_ hk => Kd.fresh' (Kd.R_lt (by (with_reducible repeat (first | apply Kd.R_alloc | apply Kd.R_drewN | apply Kd.R_drew)); exact HO_3.out)) k_ hk)); (case aO => exact (by (with_reducible repeat (first | apply Kd.R_alloc | apply Kd.R_drewN | apply Kd.R_drew)); exact HO_5.out)); (case aS => exact (below_size (by repeat (first | (with_reducible first | exact HB.out | apply below_alloc | apply pw_below_drewN | apply below_drew1) | exact HB.out)))); (case aL => have := LMc19.out; omega); intro v453 w21 ho hb hg hat; rw [← Ny452.out] at ho; have n0_ := Aside0.mk (Kd.R_after (ok := (fun _ => True)) (by (with_reducible repeat (first | apply Kd.R_alloc | apply Kd.R_drewN | apply Kd.R_drew)); exact Kd.R_mono HO_3.out (fun _ hk => ⟨trivial, hk⟩)) hg hat); have n1_ := Aside0.mk (hb); have n2_ := Aside0.mk (ho); clear HO_3; clear HB; clear HO_5; have HO_3 := n0_; have HB := n1_; have HO454 := n2_; clear n0_ n1_ n2_; clear ho hb hg hat))
                          repeat (go_quiet (first | (go_at_call 84; (with_reducible refine (barqueref09_Order.calls k2 ((rd_T58 l0 x4_1).f0) ((rd_T58 x3_1 x7_2).f0) t442 _ A12.out).mono ?_); rintro e w' ⟨rfl, ⟨nd, rfl⟩⟩; (try first | exact ⟨rfl, _, World.drewN_drewN _ _ _⟩ | exact ⟨rfl, _, Eq.trans (World.drewN_drewN _ _ _) (congrArg (World.drewN _) (Nat.add_assoc _ _ _))⟩); have p451 : 0 ≤ (x7_2 : Int) := of_decide_eq_true (by first | (with_reducible assumption) | assumption); have q451 : x7_2 < (x3_1.length : Int) := of_decide_eq_true (by first | (with_reducible assumption) | assumption); obtain ⟨ad451, e451, hx451_0, hx451_1, hx451_2⟩ := at_T58 (Kd.R_reads' HO_3.out).2.2 x7_2 p451 q451; obtain rfl : ad441 = ad451 := (by injection e451); replace p451 := eq_true p451; replace q451 := eq_true q451) | ((with_reducible refine gate_builtin (b := .append) (xs := #[.tmp 43, .tmp 48]) rfl ?_); at_builtin; refine Kd.R_append k58 (w0 := w) w.heap.size rfl (.tmp 43) (.tmp 48) 29 58 (.agg #[(.string ⟨#[]⟩), (.int .i64 0), (.string ⟨#[]⟩)]) 40 rfl Tryd.underlying29 info58 rfl (by decide) (by omega) u5 x5_2 (⟨(rd_T58 x3_1 x7_2).f0, (rd_T58 x3_1 x7_2).f1, (rd_T58 x3_1 x7_2).f2⟩ : S58) [.string ((rd_T58 x3_1 x7_2).f0), .int .i64 ((rd_T58 x3_1 x7_2).f1), .string ((rd_T58 x3_1 x7_2).f2)] (fun k_ => some k_ ≠ (.slice (some ad441) x3_1.length co20 : Value).ownBlock) (fun _ => False) rfl rfl ?aP (fun _ hk => hk.elim) ?aF ?aO ?aB ?aS ?aL ?_; (case aP => exact k58_mkM _ _ _ (⟨(rd_T58 x3_1 x7_2).f0, (rd_T58 x3_1 x7_2).f1, (rd_T58 x3_1 x7_2).f2⟩ : S58)); (case aB => exact (by repeat (first | (with_reducible first | exact HB.out | apply below_alloc | apply pw_below_drewN | apply below_drew1) | exact HB.out))); (case aF => exact (fun k_ hk => Kd.fresh' (Kd.R_lt (by (with_reducible repeat (first | apply Kd.R_alloc | apply Kd.R_drewN | apply Kd.R_drew)); exact HO_3.out)) k_ hk)); (case aO => exact (by (with_reducible repeat (first | apply Kd.R_alloc | apply Kd.R_drewN | apply Kd.R_drew)); exact HO_5.out)); (case aS => exact (below_size (by repeat (first | (with_reducible first | exact HB.out | apply below_alloc | apply pw_below_drewN | apply below_drew1) | exact HB.out)))); (case aL => have := LMc19.out; omega); intro v453 w21 ho hb hg hat; rw [← Ny452.out] at ho; have n0_ := Aside0.mk (Kd.R_after (ok := (fun _ => True)) (by (with_reducible repeat (first | apply Kd.R_alloc | apply Kd.R_drewN | apply Kd.R_drew)); exact Kd.R_mono HO_3.out (fun _ hk => ⟨trivial, hk⟩)) hg hat); have n1_ := Aside0.mk (hb); have n2_ := Aside0.mk (ho); clear HO_3; clear HB; clear HO_5; have HO_3 := n0_; have HB := n1_; have HO454 := n2_; clear n0_ n1_ n2_; clear ho hb hg hat)); try go_wp2_with (first | (go_at_call 84; (with_reducible refine (barqueref09_Order.calls k2 ((rd_T58 l0 x4_1).f0) ((rd_T58 x3_1 x7_2).f0) t442 _ A12.out).mono ?_); rintro e w' ⟨rfl, ⟨nd, rfl⟩⟩; (try first | exact ⟨rfl, _, World.drewN_drewN _ _ _⟩ | exact ⟨rfl, _, Eq.trans (World.drewN_drewN _ _ _) (congrArg (World.drewN _) (Nat.add_assoc _ _ _))⟩); have p451 : 0 ≤ (x7_2 : Int) := of_decide_eq_true (by first | (with_reducible assumption) | assumption); have q451 : x7_2 < (x3_1.length : Int) := of_decide_eq_true (by first | (with_reducible assumption) | assumption); obtain ⟨ad451, e451, hx451_0, hx451_1, hx451_2⟩ := at_T58 (Kd.R_reads' HO_3.out).2.2 x7_2 p451 q451; obtain rfl : ad441 = ad451 := (by injection e451); replace p451 := eq_true p451; replace q451 := eq_true q451) | ((with_reducible refine gate_builtin (b := .append) (xs := #[.tmp 43, .tmp 48]) rfl ?_); at_builtin; refine Kd.R_append k58 (w0 := w) w.heap.size rfl (.tmp 43) (.tmp 48) 29 58 (.agg #[(.string ⟨#[]⟩), (.int .i64 0), (.string ⟨#[]⟩)]) 40 rfl Tryd.underlying29 info58 rfl (by decide) (by omega) u5 x5_2 (⟨(rd_T58 x3_1 x7_2).f0, (rd_T58 x3_1 x7_2).f1, (rd_T58 x3_1 x7_2).f2⟩ : S58) [.string ((rd_T58 x3_1 x7_2).f0), .int .i64 ((rd_T58 x3_1 x7_2).f1), .string ((rd_T58 x3_1 x7_2).f2)] (fun k_ => some k_ ≠ (.slice (some ad441) x3_1.length co20 : Value).ownBlock) (fun _ => False) rfl rfl ?aP (fun _ hk => hk.elim) ?aF ?aO ?aB ?aS ?aL ?_; (case aP => exact k58_mkM _ _ _ (⟨(rd_T58 x3_1 x7_2).f0, (rd_T58 x3_1 x7_2).f1, (rd_T58 x3_1 x7_2).f2⟩ : S58)); (case aB => exact (by repeat (first | (with_reducible first | exact HB.out | apply below_alloc | apply pw_below_drewN | apply below_drew1) | exact HB.out))); (case aF => exact (fun k_ hk => Kd.fresh' (Kd.R_lt (by (with_reducible repeat (first | apply Kd.R_alloc | apply Kd.R_drewN | apply Kd.R_drew)); exact HO_3.out)) k_ hk)); (case aO => exact (by (with_reducible repeat (first | apply Kd.R_alloc | apply Kd.R_drewN | apply Kd.R_drew)); exact HO_5.out)); (case aS => exact (below_size (by repeat (first | (with_reducible first | exact HB.out | apply below_alloc | apply pw_below_drewN | apply below_drew1) | exact HB.out)))); (case aL => have := LMc19.out; omega); intro v453 w21 ho hb hg hat; rw [← Ny452.out] at ho; have n0_ := Aside0.mk (Kd.R_after (ok := (fun _ => True)) (by (with_reducible repeat (first | apply Kd.R_alloc | apply Kd.R_drewN | apply Kd.R_drew)); exact Kd.R_mono HO_3.out (fun _ hk => ⟨trivial, hk⟩)) hg hat); have n1_ := Aside0.mk (hb); have n2_ := Aside0.mk (ho); clear HO_3; clear HB; clear HO_5; have HO_3 := n0_; have HB := n1_; have HO454 := n2_; clear n0_ n1_ n2_; clear ho hb hg hat)))
                          go_roundg k2
                          case measure => have := HK1.out; have := HK2.out; omega
                          case rel => exact ⟨(y452), (false), (wrap64 (x7_2 + 1)), (by first | rfl | (simp; done) | (simp [*]; done)), (by first | rfl | (simp; done) | (simp [*]; done)), H', ⟨by have := HK1.out; have := HK2.out; omega⟩, ⟨by (with_reducible repeat (first | apply Kd.R_alloc | apply Kd.R_drewN | apply Kd.R_drew)); exact Kd.R_mono HO_3.out (fun _ hk => hk.2)⟩, ⟨by (with_reducible repeat (first | apply Kd.R_alloc | apply Kd.R_drewN | apply Kd.R_drew)); exact HO454.out⟩, ⟨by repeat (first | (with_reducible first | exact HB.out | apply below_alloc | apply pw_below_drewN | apply below_drew1) | exact HB.out)⟩⟩
                        · rw [if_neg c19] at H
                          exact absurd H (by simp)
                    · rw [if_neg c11] at H
                      exact absurd H (by simp)
                  · rw [if_neg c10] at H
                    exact absurd H (by simp)
                · rw [if_neg c9] at H
                  exact absurd H (by simp)
            · rw [if_neg c3] at H
              have c3b0 : decide (x7_2 < (x3_1.length : Int)) = false := decide_eq_false c3
              clear c3
              by_cases c22 : x6_2 = true
              · subst c22
                have H1 : (barqueref09_Sort.l0 k2 l0 x5_2 (wrap64 (x4_1 + 1))) = some r := by rw [if_pos rfl] at H; exact H
                clear H
                have H := H1
                clear H1
                have H' := Aside0.mk H
                clear H
                obtain ⟨Ao23, co23, eo23⟩ := Kd.R_slice HO_3.out
                subst eo23
                go_wp2
                repeat (go_quiet (fail); try go_wp2)
                go_roundg k2
                case measure => have := HK1.out; have := HK2.out; omega
                case rel => exact ⟨(x5_2), (wrap64 (x4_1 + 1)), (by first | rfl | (simp; done) | (simp [*]; done)), H', ⟨by have := HK1.out; have := HK2.out; omega⟩, ⟨by (with_reducible repeat (first | apply Kd.R_alloc | apply Kd.R_drewN | apply Kd.R_drew)); exact Kd.R_mono HO_5.out (fun _ hk => trivial)⟩, ⟨by repeat (first | (with_reducible first | exact HB.out | apply below_alloc | apply pw_below_drewN | apply below_drew1) | exact HB.out)⟩⟩
              · replace c22 := Bool.eq_false_iff.mpr c22
                subst c22
                have H1 : (if 0 ≤ x4_1 then (if x4_1 < (l0.length : Int) then (if x5_2.length < 3518437208883 then (barqueref09_Sort.l0 k2 l0 (x5_2 ++ [(⟨(rd_T58 l0 x4_1).f0, (rd_T58 l0 x4_1).f1, (rd_T58 l0 x4_1).f2⟩ : S58)]) (wrap64 (x4_1 + 1))) else (none)) else (none)) else (none)) = some r := by rw [if_neg (show ¬ (false = true) by decide)] at H; exact H
                clear H
                have H := H1
                clear H1
                by_cases c24 : 0 ≤ x4_1
                · rw [if_pos c24] at H
                  have c24b0 : decide (0 ≤ x4_1) = true := decide_eq_true c24
                  clear c24
                  by_cases c25 : x4_1 < (l0.length : Int)
                  · rw [if_pos c25] at H
                    have c25b0 : decide (x4_1 < (l0.length : Int)) = true := decide_eq_true c25
                    clear c25
                    by_cases c26 : x5_2.length < 3518437208883
                    · rw [if_pos c26] at H
                      have LMc26 := Aside0.mk c26
                      clear c26
                      obtain ⟨y456, hy456⟩ : ∃ y_ : List (S58), y_ = (x5_2 ++ [(⟨(rd_T58 l0 x4_1).f0, (rd_T58 l0 x4_1).f1, (rd_T58 l0 x4_1).f2⟩ : S58)]) := ⟨_, rfl⟩
                      replace H : (barqueref09_Sort.l0 k2 l0 y456 (wrap64 (x4_1 + 1))) = some r := by first | (rw [hy456]; with_reducible exact H) | (have H2_ := (Option.bind_some _ _).symm.trans H; rw [hy456]; with_reducible exact H2_) | (have H2_ := (Option.bind_some _ _).symm.trans H; with_reducible exact H2_) | with_reducible exact H | (rw [hy456]; exact H) | exact H
                      have Ny456 := Aside0.mk hy456
                      clear hy456
                      have H' := Aside0.mk H
                      clear H
                      obtain ⟨Ao27, co27, eo27⟩ := Kd.R_slice HO_3.out
                      subst eo27
                      have p455 : 0 ≤ (x4_1 : Int) := of_decide_eq_true (by first | (with_reducible assumption) | assumption)
                      have q455 : x4_1 < (l0.length : Int) := of_decide_eq_true (by first | (with_reducible assumption) | assumption)
                      obtain ⟨ad455, e455, hx455_0, hx455_1, hx455_2⟩ := at_T58 HR0.out x4_1 p455 q455
                      cases e455
                      replace hx455_0 := (HB.out.cell (World.block_lt_of_cell? w _ hx455_0)).trans hx455_0
                      replace hx455_1 := (HB.out.cell (World.block_lt_of_cell? w _ hx455_1)).trans hx455_1
                      replace hx455_2 := (HB.out.cell (World.block_lt_of_cell? w _ hx455_2)).trans hx455_2
                      replace p455 := eq_true p455
                      replace q455 := eq_true q455
                      go_wp2_with (first | ((with_reducible refine gate_builtin (b := .append) (xs := #[.tmp 52, .tmp 57]) rfl ?_); at_builtin; refine Kd.R_append k58 (w0 := w) w.heap.size rfl (.tmp 52) (.tmp 57) 29 58 (.agg #[(.string ⟨#[]⟩), (.int .i64 0), (.string ⟨#[]⟩)]) 40 rfl Tryd.underlying29 info58 rfl (by decide) (by omega) u5 x5_2 (⟨(rd_T58 l0 x4_1).f0, (rd_T58 l0 x4_1).f1, (rd_T58 l0 x4_1).f2⟩ : S58) [.string ((rd_T58 l0 x4_1).f0), .int .i64 ((rd_T58 l0 x4_1).f1), .string ((rd_T58 l0 x4_1).f2)] (fun k_ => some k_ ≠ (.slice Ao27 x3_1.length co27 : Value).ownBlock) (fun _ => False) rfl rfl ?aP (fun _ hk => hk.elim) ?aF ?aO ?aB ?aS ?aL ?_; (case aP => exact k58_mkM _ _ _ (⟨(rd_T58 l0 x4_1).f0, (rd_T58 l0 x4_1).f1, (rd_T58 l0 x4_1).f2⟩ : S58)); (case aB => exact (by repeat (first | (with_reducible first | exact HB.out | apply below_alloc | apply pw_below_drewN | apply below_drew1) | exact HB.out))); (case aF => exact (fun k_ hk => Kd.fresh' (Kd.R_lt (by (with_reducible repeat (first | apply Kd.R_alloc | apply Kd.R_drewN | apply Kd.R_drew)); exact HO_3.out)) k_ hk)); (case aO => exact (by (with_reducible repeat (first | apply Kd.R_alloc | apply Kd.R_drewN | apply Kd.R_drew)); exact HO_5.out)); (case aS => exact (below_size (by repeat (first | (with_reducible first | exact HB.out | apply below_alloc | apply pw_below_drewN | apply below_drew1) | exact HB.out)))); (case aL => have := LMc26.out; omega); intro v457 w28 ho hb hg hat; rw [← Ny456.out] at ho; have n0_ := Aside0.mk (Kd.R_after (ok := (fun _ => True)) (by (with_reducible repeat (first | apply Kd.R_alloc | apply Kd.R_drewN | apply Kd.R_drew)); exact Kd.R_mono HO_3.out (fun _ hk => ⟨trivial, hk⟩)) hg hat); have n1_ := Aside0.mk (hb); have n2_ := Aside0.mk (ho); clear HO_3; clear HB; clear HO_5; have HO_3 := n0_; have HB := n1_; have HO458 := n2_; clear n0_ n1_ n2_; clear ho hb hg hat))
                      repeat (go_quiet (first | ((with_reducible refine gate_builtin (b := .append) (xs := #[.tmp 52, .tmp 57]) rfl ?_); at_builtin; refine Kd.R_append k58 (w0 := w) w.heap.size rfl (.tmp 52) (.tmp 57) 29 58 (.agg #[(.string ⟨#[]⟩), (.int .i64 0), (.string ⟨#[]⟩)]) 40 rfl Tryd.underlying29 info58 rfl (by decide) (by omega) u5 x5_2 (⟨(rd_T58 l0 x4_1).f0, (rd_T58 l0 x4_1).f1, (rd_T58 l0 x4_1).f2⟩ : S58) [.string ((rd_T58 l0 x4_1).f0), .int .i64 ((rd_T58 l0 x4_1).f1), .string ((rd_T58 l0 x4_1).f2)] (fun k_ => some k_ ≠ (.slice Ao27 x3_1.length co27 : Value).ownBlock) (fun _ => False) rfl rfl ?aP (fun _ hk => hk.elim) ?aF ?aO ?aB ?aS ?aL ?_; (case aP => exact k58_mkM _ _ _ (⟨(rd_T58 l0 x4_1).f0, (rd_T58 l0 x4_1).f1, (rd_T58 l0 x4_1).f2⟩ : S58)); (case aB => exact (by repeat (first | (with_reducible first | exact HB.out | apply below_alloc | apply pw_below_drewN | apply below_drew1) | exact HB.out))); (case aF => exact (fun k_ hk => Kd.fresh' (Kd.R_lt (by (with_reducible repeat (first | apply Kd.R_alloc | apply Kd.R_drewN | apply Kd.R_drew)); exact HO_3.out)) k_ hk)); (case aO => exact (by (with_reducible repeat (first | apply Kd.R_alloc | apply Kd.R_drewN | apply Kd.R_drew)); exact HO_5.out)); (case aS => exact (below_size (by repeat (first | (with_reducible first | exact HB.out | apply below_alloc | apply pw_below_drewN | apply below_drew1) | exact HB.out)))); (case aL => have := LMc26.out; omega); intro v457 w28 ho hb hg hat; rw [← Ny456.out] at ho; have n0_ := Aside0.mk (Kd.R_after (ok := (fun _ => True)) (by (with_reducible repeat (first | apply Kd.R_alloc | apply Kd.R_drewN | apply Kd.R_drew)); exact Kd.R_mono HO_3.out (fun _ hk => ⟨trivial, hk⟩)) hg hat); have n1_ := Aside0.mk (hb); have n2_ := Aside0.mk (ho); clear HO_3; clear HB; clear HO_5; have HO_3 := n0_; have HB := n1_; have HO458 := n2_; clear n0_ n1_ n2_; clear ho hb hg hat)); try go_wp2_with (first | ((with_reducible refine gate_builtin (b := .append) (xs := #[.tmp 52, .tmp 57]) rfl ?_); at_builtin; refine Kd.R_append k58 (w0 := w) w.heap.size rfl (.tmp 52) (.tmp 57) 29 58 (.agg #[(.string ⟨#[]⟩), (.int .i64 0), (.string ⟨#[]⟩)]) 40 rfl Tryd.underlying29 info58 rfl (by decide) (by omega) u5 x5_2 (⟨(rd_T58 l0 x4_1).f0, (rd_T58 l0 x4_1).f1, (rd_T58 l0 x4_1).f2⟩ : S58) [.string ((rd_T58 l0 x4_1).f0), .int .i64 ((rd_T58 l0 x4_1).f1), .string ((rd_T58 l0 x4_1).f2)] (fun k_ => some k_ ≠ (.slice Ao27 x3_1.length co27 : Value).ownBlock) (fun _ => False) rfl rfl ?aP (fun _ hk => hk.elim) ?aF ?aO ?aB ?aS ?aL ?_; (case aP => exact k58_mkM _ _ _ (⟨(rd_T58 l0 x4_1).f0, (rd_T58 l0 x4_1).f1, (rd_T58 l0 x4_1).f2⟩ : S58)); (case aB => exact (by repeat (first | (with_reducible first | exact HB.out | apply below_alloc | apply pw_below_drewN | apply below_drew1) | exact HB.out))); (case aF => exact (fun k_ hk => Kd.fresh' (Kd.R_lt (by (with_reducible repeat (first | apply Kd.R_alloc | apply Kd.R_drewN | apply Kd.R_drew)); exact HO_3.out)) k_ hk)); (case aO => exact (by (with_reducible repeat (first | apply Kd.R_alloc | apply Kd.R_drewN | apply Kd.R_drew)); exact HO_5.out)); (case aS => exact (below_size (by repeat (first | (with_reducible first | exact HB.out | apply below_alloc | apply pw_below_drewN | apply below_drew1) | exact HB.out)))); (case aL => have := LMc26.out; omega); intro v457 w28 ho hb hg hat; rw [← Ny456.out] at ho; have n0_ := Aside0.mk (Kd.R_after (ok := (fun _ => True)) (by (with_reducible repeat (first | apply Kd.R_alloc | apply Kd.R_drewN | apply Kd.R_drew)); exact Kd.R_mono HO_3.out (fun _ hk => ⟨trivial, hk⟩)) hg hat); have n1_ := Aside0.mk (hb); have n2_ := Aside0.mk (ho); clear HO_3; clear HB; clear HO_5; have HO_3 := n0_; have HB := n1_; have HO458 := n2_; clear n0_ n1_ n2_; clear ho hb hg hat)))
                      go_roundg k2
                      case measure => have := HK1.out; have := HK2.out; omega
                      case rel => exact ⟨(y456), (wrap64 (x4_1 + 1)), (by first | rfl | (simp; done) | (simp [*]; done)), H', ⟨by have := HK1.out; have := HK2.out; omega⟩, ⟨by (with_reducible repeat (first | apply Kd.R_alloc | apply Kd.R_drewN | apply Kd.R_drew)); exact Kd.R_mono HO458.out (fun _ hk => trivial)⟩, ⟨by repeat (first | (with_reducible first | exact HB.out | apply below_alloc | apply pw_below_drewN | apply below_drew1) | exact HB.out)⟩⟩
                    · rw [if_neg c26] at H
                      exact absurd H (by simp)
                  · rw [if_neg c25] at H
                    exact absurd H (by simp)
                · rw [if_neg c24] at H
                  exact absurd H (by simp)
      · rw [if_neg c2] at H
        have c2b0 : decide (x4_1 < (l0.length : Int)) = false := decide_eq_false c2
        clear c2
        obtain rfl := Option.some.inj H
        go_wp2
        repeat (go_quiet (fail); try go_wp2)
        go_ret
        exact ⟨_, by first | rfl | (simp [errW_none, errW_some] <;> rfl) | (simp [*, errW_none, errW_some] <;> rfl), by (with_reducible repeat (first | apply Kd.R_alloc | apply Kd.R_drewN | apply Kd.R_drew)); exact HO_3.out, by repeat (first | (with_reducible first | exact HB.out | apply below_alloc | apply pw_below_drewN | apply below_drew1) | exact HB.out)⟩
end Go.Proofs.YtafjlibcdlihcaaDoor.G
end
section
namespace Go.Proofs.YtafjlibcdlihcaaDoor.G
open Go.RowKit Go.Proofs.YtafjlibcdlihcaaDoorW.PrintWords Go.Proofs.YtafjlibcdlihcaaDoorW.PrintLast Go.Proofs.YtafjlibcdlihcaaDoorW.PrintMore
set_option linter.unusedVariables false
set_option linter.unusedSimpArgs false
abbrev keyF (x : S58) : ByteArray := x.f0
theorem sort_done (l out : List S58) (i : Nat) (hi : i < l.length) (hl : l.length ≤ 4294967296) (ho : out.length ≤ 4294967296) (r : List S58) : ∀ (d j : Nat) (nx : List S58), out.length - j = d → j ≤ out.length → nx.length ≤ j + 1 →
    Ev (fun k => barqueref09_Sort.l0 k l (nx ++ out.drop j) ((i + 1 : Nat) : Int)) r → Ev (fun k => barqueref09_Sort.l1 k l out i nx true j) r := by
  have hwi : wrap64 ((i : Int) + 1) = ((i + 1 : Nat) : Int) := by rw [w64_ (by omega) (by omega)]; omega
  intro d
  induction d with
  | zero =>
    intro j nx hd hj hn h
    have e : j = out.length := by omega
    subst e
    apply Ev.step
    · intro k; rw [barqueref09_Sort.l1]
    have c1 : ¬ ((out.length : Int) < (out.length : Int)) := by omega
    simp only [c1, ↓reduceIte, hwi]
    rw [List.drop_eq_nil_of_le (Nat.le_refl _), List.append_nil] at h
    exact h
  | succ d ih =>
    intro j nx hd hj hn h
    have hlt : j < out.length := by omega
    apply Ev.step
    · intro k; rw [barqueref09_Sort.l1]
    have c1 : ((j : Int) < (out.length : Int)) := by omega
    have c2 : (0 : Int) ≤ (j : Int) := by omega
    have c3 : nx.length < 3518437208883 := by omega
    have hw : wrap64 ((j : Int) + 1) = ((j + 1 : Nat) : Int) := by rw [w64_ (by omega) (by omega)]; omega
    simp only [c1, c2, c3, ↓reduceIte, rdF_nat out j hlt, hw]
    refine ih (j + 1) _ (by omega) (by omega) (by rw [List.length_append, List.length_singleton]; omega) ?_
    rw [List.append_assoc, List.singleton_append, ← List.drop_eq_getElem_cons hlt]
    exact h
theorem sort_find (l out : List S58) (i : Nat) (hi : i < l.length) (hl : l.length ≤ 4294967296) (ho : out.length ≤ 4294967296) (hx : (l[i]'hi).f0.size ≤ 140737488351232) (hy : ∀ y ∈ out, y.f0.size ≤ 140737488351232) (r : List S58) : ∀ (d j : Nat) (nx : List S58), out.length - j = d → j ≤ out.length → nx.length ≤ j →
    Ev (fun k => barqueref09_Sort.l0 k l (nx ++ insK keyF (l[i]'hi) (out.drop j)) ((i + 1 : Nat) : Int)) r → Ev (fun k => barqueref09_Sort.l1 k l out i nx false j) r := by
  have hwi : wrap64 ((i : Int) + 1) = ((i + 1 : Nat) : Int) := by rw [w64_ (by omega) (by omega)]; omega
  have ci : ((i : Int) < (l.length : Int)) := by omega
  have ci0 : (0 : Int) ≤ (i : Int) := by omega
  intro d
  induction d with
  | zero =>
    intro j nx hd hj hn h
    have e : j = out.length := by omega
    subst e
    apply Ev.step
    · intro k; rw [barqueref09_Sort.l1]
    have c1 : ¬ ((out.length : Int) < (out.length : Int)) := by omega
    have c3 : nx.length < 3518437208883 := by omega
    simp only [c1, ci, ci0, c3, ↓reduceIte, Bool.false_eq_true, hwi, rdF_nat l i hi]
    rw [List.drop_eq_nil_of_le (Nat.le_refl _), insK] at h
    exact h
  | succ d ih =>
    intro j nx hd hj hn h
    have hlt : j < out.length := by omega
    apply Ev.step
    · intro k; rw [barqueref09_Sort.l1]
    have c1 : ((j : Int) < (out.length : Int)) := by omega
    have c2 : (0 : Int) ≤ (j : Int) := by omega
    have c3 : nx.length < 3518437208883 := by omega
    have hw : wrap64 ((j : Int) + 1) = ((j + 1 : Nat) : Int) := by rw [w64_ (by omega) (by omega)]; omega
    simp only [c1, c2, c3, ci, ci0, ↓reduceIte, Bool.false_eq_true, rdF_nat out j hlt, rdF_nat l i hi, hw, Option.bind_some]
    refine Ev.bind (reforder_ev _ _ hx (hy _ (List.getElem_mem hlt))) ?_
    rw [List.drop_eq_getElem_cons hlt, insK] at h
    by_cases c : ltP (l[i]'hi).f0 (out[j]'hlt).f0
    · rw [if_pos c] at h
      have c' : cmpL (l[i]'hi).f0.data.toList (out[j]'hlt).f0.data.toList < 0 := c
      simp only [c', ↓reduceIte]
      have c4' : (nx ++ [({ f0 := (l[i]'hi).f0, f1 := (l[i]'hi).f1, f2 := (l[i]'hi).f2 } : S58)]).length < 3518437208883 := by rw [List.length_append, List.length_singleton]; omega
      simp only [c4', ↓reduceIte]
      clear c4'
      refine sort_done l out i hi hl ho r (out.length - (j + 1)) (j + 1) _ rfl (by omega) (by simp only [List.length_append, List.length_singleton]; omega) ?_
      rw [List.append_assoc, List.append_assoc, List.singleton_append, List.singleton_append]
      exact h
    · rw [if_neg c] at h
      have c' : ¬ cmpL (l[i]'hi).f0.data.toList (out[j]'hlt).f0.data.toList < 0 := c
      simp only [c', ↓reduceIte]
      refine ih (j + 1) _ (by omega) (by omega) (by simp only [List.length_append, List.length_singleton]; omega) ?_
      rw [List.append_assoc, List.singleton_append]
      exact h
theorem fold_length (l : List S58) : ∀ acc : List S58, (l.foldl (fun a x => insK keyF x a) acc).length = acc.length + l.length := by
  induction l with
  | nil => intro acc; rfl
  | cons x l ih =>
    intro acc
    rw [List.foldl_cons, ih, insK_length, List.length_cons]
    omega
theorem fold_mem (l : List S58) : ∀ (acc : List S58) (y : S58), y ∈ l.foldl (fun a x => insK keyF x a) acc → y ∈ acc ∨ y ∈ l := by
  induction l with
  | nil => intro acc y h; exact .inl h
  | cons x l ih =>
    intro acc y h
    rw [List.foldl_cons] at h
    rcases ih _ y h with h | h
    · rcases (insK_mem keyF x y acc).1 h with h | h
      · exact .inr (by rw [h]; exact List.mem_cons_self)
      · exact .inl h
    · exact .inr (List.mem_cons_of_mem _ h)
theorem refsort_l0 (l : List S58) (hl : l.length ≤ 4294967296) (hs : ∀ x ∈ l, x.f0.size ≤ 140737488351232) : ∀ (d i : Nat) (out : List S58), l.length - i = d → i ≤ l.length → out = (l.take i).foldl (fun a x => insK keyF x a) [] →
    Ev (fun k => barqueref09_Sort.l0 k l out i) (sortK keyF l) := by
  intro d
  induction d with
  | zero =>
    intro i out hd hi ho
    have e : i = l.length := by omega
    subst e
    apply Ev.step
    · intro k; rw [barqueref09_Sort.l0]
    have c1 : ¬ ((l.length : Int) < (l.length : Int)) := by omega
    simp only [c1, ↓reduceIte]
    rw [List.take_length] at ho
    rw [ho]
    exact Ev.now _
  | succ d ih =>
    intro i out hd hi ho
    have hlt : i < l.length := by omega
    have hol : out.length = i := by rw [ho, fold_length, List.length_nil, List.length_take]; omega
    apply Ev.step
    · intro k; rw [barqueref09_Sort.l0]
    have c1 : ((i : Int) < (l.length : Int)) := by omega
    simp only [c1, ↓reduceIte]
    refine sort_find l out i hlt hl (by omega) (hs _ (List.getElem_mem hlt)) (fun y hy => ?_) _ out.length 0 [] (by omega) (by omega) (by simp) ?_
    · rw [ho] at hy
      rcases fold_mem _ _ y hy with h | h
      · simp at h
      · exact hs y (List.mem_of_mem_take h)
    · rw [List.nil_append, List.drop_zero]
      refine ih (i + 1) _ (by omega) (by omega) ?_
      rw [List.take_succ_eq_append_getElem hlt, List.foldl_append, ← ho]
      rfl
theorem refsort_ev (l : List S58) (hl : l.length ≤ 4294967296) (hs : ∀ x ∈ l, x.f0.size ≤ 140737488351232) : Ev (fun k => barqueref09_Sort.f k l) (sortK keyF l) := by
  unfold barqueref09_Sort.f
  have h := refsort_l0 l hl hs l.length 0 [] (by omega) (by omega) rfl
  simpa using h
end Go.Proofs.YtafjlibcdlihcaaDoor.G
end
section
namespace Go.Proofs.YtafjlibcdlihcaaDoor.G
open Go.RowKit Go.Proofs.YtafjlibcdlihcaaDoorW.PrintWords Go.Proofs.YtafjlibcdlihcaaDoorW.PrintLast Go.Proofs.YtafjlibcdlihcaaDoorW.PrintMore
set_option linter.unusedVariables false
set_option linter.unusedSimpArgs false
def chgE (x y : S56) : List S44 :=
  if x.f2 ≠ y.f2 ∨ x.f3 ≠ y.f3 then [⟨3, x.f0⟩] else if x.f1 ≠ y.f1 then [⟨4, x.f0⟩] else []
def mergeE : List S56 → List S56 → List S44
  | [], [] => []
  | x :: a, [] => ⟨1, x.f0⟩ :: mergeE a []
  | [], y :: b => ⟨2, y.f0⟩ :: mergeE [] b
  | x :: a, y :: b => if ltP x.f0 y.f0 then ⟨1, x.f0⟩ :: mergeE a (y :: b) else if ltP y.f0 x.f0 then ⟨2, y.f0⟩ :: mergeE (x :: a) b else chgE x y ++ mergeE a b
termination_by a b => a.length + b.length
/-- The paths of both, in order. -/
def unionE : List S56 → List S56 → List ByteArray
  | [], [] => []
  | x :: a, [] => x.f0 :: unionE a []
  | [], y :: b => y.f0 :: unionE [] b
  | x :: a, y :: b => if ltP x.f0 y.f0 then x.f0 :: unionE a (y :: b) else if ltP y.f0 x.f0 then y.f0 :: unionE (x :: a) b else x.f0 :: unionE a b
termination_by a b => a.length + b.length
def findE (l : List S56) (p : ByteArray) : Option S56 := l.find? (fun x => decide (x.f0 = p))
def kindE (a b : List S56) (p : ByteArray) : List S44 :=
  match findE a p, findE b p with
  | _, none => [⟨1, p⟩]
  | none, some _ => [⟨2, p⟩]
  | some x, some y => if x.f2 ≠ y.f2 ∨ x.f3 ≠ y.f3 then [⟨3, p⟩] else if x.f1 ≠ y.f1 then [⟨4, p⟩] else []
abbrev SortedI (l : List S56) : Prop := SortedK (fun x : S56 => x.f0) l
theorem findE_none (l : List S56) (p : ByteArray) (h : ∀ x ∈ l, x.f0 ≠ p) : findE l p = none := by
  unfold findE
  rw [List.find?_eq_none]
  intro x hx
  simpa using h x hx
theorem findE_cons_ne (x : S56) (l : List S56) (p : ByteArray) (h : x.f0 ≠ p) : findE (x :: l) p = findE l p := by
  unfold findE
  rw [List.find?_cons_of_neg (by simpa using h)]
theorem findE_cons_eq (x : S56) (l : List S56) : findE (x :: l) x.f0 = some x := by
  unfold findE
  rw [List.find?_cons_of_pos (by simp)]
theorem union_mem : ∀ (a b : List S56) (p : ByteArray), p ∈ unionE a b ↔ (∃ x ∈ a, x.f0 = p) ∨ ∃ y ∈ b, y.f0 = p
  | [], [], p => by simp [unionE]
  | x :: a, [], p => by
    rw [unionE, List.mem_cons, union_mem a []]
    simp only [List.mem_cons, List.not_mem_nil, false_and, exists_false, or_false, exists_eq_or_imp]
    constructor
    · rintro (h | h)
      · exact .inl h.symm
      · exact .inr h
    · rintro (h | h)
      · exact .inl h.symm
      · exact .inr h
  | [], y :: b, p => by
    rw [unionE, List.mem_cons, union_mem [] b]
    simp only [List.mem_cons, List.not_mem_nil, false_and, exists_false, false_or, exists_eq_or_imp]
    constructor
    · rintro (h | h)
      · exact .inl h.symm
      · exact .inr h
    · rintro (h | h)
      · exact .inl h.symm
      · exact .inr h
  | x :: a, y :: b, p => by
    rw [unionE]
    simp only [List.mem_cons, exists_eq_or_imp]
    by_cases h1 : ltP x.f0 y.f0
    · rw [if_pos h1, List.mem_cons, union_mem a (y :: b)]
      simp only [List.mem_cons, exists_eq_or_imp]
      constructor
      · rintro (h | h | h)
        · exact .inl (.inl h.symm)
        · exact .inl (.inr h)
        · exact .inr h
      · rintro ((h | h) | h)
        · exact .inl h.symm
        · exact .inr (.inl h)
        · exact .inr (.inr h)
    · rw [if_neg h1]
      by_cases h2 : ltP y.f0 x.f0
      · rw [if_pos h2, List.mem_cons, union_mem (x :: a) b]
        simp only [List.mem_cons, exists_eq_or_imp]
        constructor
        · rintro (h | h | h)
          · exact .inr (.inl h.symm)
          · exact .inl h
          · exact .inr (.inr h)
        · rintro (h | h | h)
          · exact .inr (.inl h)
          · exact .inl h.symm
          · exact .inr (.inr h)
      · rw [if_neg h2, List.mem_cons, union_mem a b]
        have e : x.f0 = y.f0 := by
          rcases ltP_tri x.f0 y.f0 with g | g | g
          · exact absurd g h1
          · exact g
          · exact absurd g h2
        constructor
        · rintro (h | h | h)
          · exact .inl (.inl h.symm)
          · exact .inl (.inr h)
          · exact .inr (.inr h)
        · rintro ((h | h) | (h | h))
          · exact .inl h.symm
          · exact .inr (.inl h)
          · exact .inl (h.symm.trans e.symm)
          · exact .inr (.inr h)
termination_by a b => a.length + b.length
theorem sortedI_lt {x : S56} {l : List S56} (h : SortedI (x :: l)) : ∀ z ∈ l, ltP x.f0 z.f0 := (List.pairwise_cons.1 h).1
theorem union_sorted : ∀ (a b : List S56), SortedI a → SortedI b → SortedK id (unionE a b)
  | [], [], _, _ => by rw [unionE]; exact List.Pairwise.nil
  | x :: a, [], ha, hb => by
    rw [unionE]
    refine List.pairwise_cons.2 ⟨fun p hp => ?_, union_sorted a [] (List.pairwise_cons.1 ha).2 hb⟩
    rcases (union_mem a [] p).1 hp with ⟨z, hz, e⟩ | ⟨z, hz, e⟩
    · rw [← e]; exact sortedI_lt ha z hz
    · simp at hz
  | [], y :: b, ha, hb => by
    rw [unionE]
    refine List.pairwise_cons.2 ⟨fun p hp => ?_, union_sorted [] b ha (List.pairwise_cons.1 hb).2⟩
    rcases (union_mem [] b p).1 hp with ⟨z, hz, e⟩ | ⟨z, hz, e⟩
    · simp at hz
    · rw [← e]; exact sortedI_lt hb z hz
  | x :: a, y :: b, ha, hb => by
    rw [unionE]
    by_cases h1 : ltP x.f0 y.f0
    · rw [if_pos h1]
      refine List.pairwise_cons.2 ⟨fun p hp => ?_, union_sorted a (y :: b) (List.pairwise_cons.1 ha).2 hb⟩
      rcases (union_mem a (y :: b) p).1 hp with ⟨z, hz, e⟩ | ⟨z, hz, e⟩
      · rw [← e]; exact sortedI_lt ha z hz
      · rw [← e]
        rcases List.mem_cons.1 hz with g | g
        · rw [g]; exact h1
        · exact ltP_trans h1 (sortedI_lt hb z g)
    · rw [if_neg h1]
      by_cases h2 : ltP y.f0 x.f0
      · rw [if_pos h2]
        refine List.pairwise_cons.2 ⟨fun p hp => ?_, union_sorted (x :: a) b ha (List.pairwise_cons.1 hb).2⟩
        rcases (union_mem (x :: a) b p).1 hp with ⟨z, hz, e⟩ | ⟨z, hz, e⟩
        · rw [← e]
          rcases List.mem_cons.1 hz with g | g
          · rw [g]; exact h2
          · exact ltP_trans h2 (sortedI_lt ha z g)
        · rw [← e]; exact sortedI_lt hb z hz
      · rw [if_neg h2]
        have e0 : x.f0 = y.f0 := by
          rcases ltP_tri x.f0 y.f0 with g | g | g
          · exact absurd g h1
          · exact g
          · exact absurd g h2
        refine List.pairwise_cons.2 ⟨fun p hp => ?_, union_sorted a b (List.pairwise_cons.1 ha).2 (List.pairwise_cons.1 hb).2⟩
        rcases (union_mem a b p).1 hp with ⟨z, hz, e⟩ | ⟨z, hz, e⟩
        · rw [← e]; exact sortedI_lt ha z hz
        · rw [← e]
          show ltP x.f0 z.f0
          rw [e0]; exact sortedI_lt hb z hz
termination_by a b => a.length + b.length
theorem flatMap_congr_ {α β : Type} : ∀ (l : List α) (f g : α → List β), (∀ x ∈ l, f x = g x) → l.flatMap f = l.flatMap g
  | [], _, _, _ => rfl
  | x :: l, f, g, h => by
    rw [List.flatMap_cons, List.flatMap_cons, h x List.mem_cons_self, flatMap_congr_ l f g (fun y hy => h y (List.mem_cons_of_mem _ hy))]
theorem kind_left (x : S56) (a b : List S56) (p : ByteArray) (h : x.f0 ≠ p) : kindE (x :: a) b p = kindE a b p := by
  unfold kindE
  rw [findE_cons_ne x a p h]
theorem kind_right (y : S56) (a b : List S56) (p : ByteArray) (h : y.f0 ≠ p) : kindE a (y :: b) p = kindE a b p := by
  unfold kindE
  rw [findE_cons_ne y b p h]
theorem merge_kind : ∀ (a b : List S56), SortedI a → SortedI b → mergeE a b = (unionE a b).flatMap (kindE a b)
  | [], [], _, _ => by rw [mergeE, unionE]; rfl
  | x :: a, [], ha, hb => by
    rw [mergeE, unionE, List.flatMap_cons, merge_kind a [] (List.pairwise_cons.1 ha).2 hb]
    have h1 : kindE (x :: a) [] x.f0 = [⟨1, x.f0⟩] := by unfold kindE; rw [findE_cons_eq]; rfl
    rw [h1, List.singleton_append]
    refine congrArg (List.cons _) ?_
    refine flatMap_congr_ _ _ _ (fun p hp => (kind_left x a [] p ?_).symm)
    rcases (union_mem a [] p).1 hp with ⟨z, hz, e⟩ | ⟨z, hz, e⟩
    · rw [← e]; exact ltP_ne (sortedI_lt ha z hz)
    · simp at hz
  | [], y :: b, ha, hb => by
    rw [mergeE, unionE, List.flatMap_cons, merge_kind [] b ha (List.pairwise_cons.1 hb).2]
    have h1 : kindE [] (y :: b) y.f0 = [⟨2, y.f0⟩] := by unfold kindE; rw [findE_cons_eq]; rfl
    rw [h1, List.singleton_append]
    refine congrArg (List.cons _) ?_
    refine flatMap_congr_ _ _ _ (fun p hp => (kind_right y [] b p ?_).symm)
    rcases (union_mem [] b p).1 hp with ⟨z, hz, e⟩ | ⟨z, hz, e⟩
    · simp at hz
    · rw [← e]; exact ltP_ne (sortedI_lt hb z hz)
  | x :: a, y :: b, ha, hb => by
    rw [mergeE, unionE]
    by_cases h1 : ltP x.f0 y.f0
    · rw [if_pos h1, if_pos h1, List.flatMap_cons, merge_kind a (y :: b) (List.pairwise_cons.1 ha).2 hb]
      have hn : findE (y :: b) x.f0 = none := findE_none _ _ (fun z hz => by
        rcases List.mem_cons.1 hz with g | g
        · rw [g]; exact fun e => ltP_ne h1 e.symm
        · exact fun e => ltP_ne (ltP_trans h1 (sortedI_lt hb z g)) e.symm)
      have h3 : kindE (x :: a) (y :: b) x.f0 = [⟨1, x.f0⟩] := by unfold kindE; rw [hn, findE_cons_eq]
      rw [h3, List.singleton_append]
      refine congrArg (List.cons _) ?_
      refine flatMap_congr_ _ _ _ (fun p hp => (kind_left x a (y :: b) p ?_).symm)
      rcases (union_mem a (y :: b) p).1 hp with ⟨z, hz, e⟩ | ⟨z, hz, e⟩
      · rw [← e]; exact ltP_ne (sortedI_lt ha z hz)
      · rw [← e]
        rcases List.mem_cons.1 hz with g | g
        · rw [g]; exact ltP_ne h1
        · exact ltP_ne (ltP_trans h1 (sortedI_lt hb z g))
    · rw [if_neg h1, if_neg h1]
      by_cases h2 : ltP y.f0 x.f0
      · rw [if_pos h2, if_pos h2, List.flatMap_cons, merge_kind (x :: a) b ha (List.pairwise_cons.1 hb).2]
        have hn : findE (x :: a) y.f0 = none := findE_none _ _ (fun z hz => by
          rcases List.mem_cons.1 hz with g | g
          · rw [g]; exact fun e => ltP_ne h2 e.symm
          · exact fun e => ltP_ne (ltP_trans h2 (sortedI_lt ha z g)) e.symm)
        have h3 : kindE (x :: a) (y :: b) y.f0 = [⟨2, y.f0⟩] := by unfold kindE; rw [hn, findE_cons_eq]
        rw [h3, List.singleton_append]
        refine congrArg (List.cons _) ?_
        refine flatMap_congr_ _ _ _ (fun p hp => (kind_right y (x :: a) b p ?_).symm)
        rcases (union_mem (x :: a) b p).1 hp with ⟨z, hz, e⟩ | ⟨z, hz, e⟩
        · rw [← e]
          rcases List.mem_cons.1 hz with g | g
          · rw [g]; exact ltP_ne h2
          · exact ltP_ne (ltP_trans h2 (sortedI_lt ha z g))
        · rw [← e]; exact ltP_ne (sortedI_lt hb z hz)
      · rw [if_neg h2, if_neg h2, List.flatMap_cons, merge_kind a b (List.pairwise_cons.1 ha).2 (List.pairwise_cons.1 hb).2]
        have e0 : x.f0 = y.f0 := by
          rcases ltP_tri x.f0 y.f0 with g | g | g
          · exact absurd g h1
          · exact g
          · exact absurd g h2
        have h3 : kindE (x :: a) (y :: b) x.f0 = chgE x y := by
          unfold kindE chgE
          rw [findE_cons_eq, e0, findE_cons_eq]
        rw [h3]
        refine congrArg (fun z => chgE x y ++ z) ?_
        refine flatMap_congr_ _ _ _ (fun p hp => ?_)
        have hx : x.f0 ≠ p := by
          rcases (union_mem a b p).1 hp with ⟨z, hz, e⟩ | ⟨z, hz, e⟩
          · rw [← e]; exact ltP_ne (sortedI_lt ha z hz)
          · rw [← e, e0]; exact ltP_ne (sortedI_lt hb z hz)
        rw [kind_left x a (y :: b) p hx, kind_right y a b p (by rw [← e0]; exact hx)]
termination_by a b => a.length + b.length
def allE (a b : List S56) : List S58 :=
  a.map (fun x => ⟨x.f0, 0, (⟨#[]⟩ : ByteArray)⟩) ++ (b.filter (fun y => decide (findE a y.f0 = none))).map (fun x => ⟨x.f0, 0, (⟨#[]⟩ : ByteArray)⟩)
theorem findE_mem (a : List S56) (p : ByteArray) : findE a p = none ↔ ∀ x ∈ a, x.f0 ≠ p := by
  unfold findE
  rw [List.find?_eq_none]
  simp
theorem all_sort (a b : List S56) (ha : SortedI a) (hb : SortedI b) :
    sortK keyF (allE a b) = (unionE a b).map (fun p => ⟨p, 0, (⟨#[]⟩ : ByteArray)⟩) := by
  have hnd : (allE a b).Pairwise fun x y => keyF x ≠ keyF y := by
    unfold allE
    refine List.pairwise_append.2 ⟨?_, ?_, ?_⟩
    · rw [List.pairwise_map]
      exact ha.imp (fun h => ltP_ne h)
    · rw [List.pairwise_map]
      exact (hb.imp (fun {x y} h => (ltP_ne h : x.f0 ≠ y.f0))).filter _
    · intro x hx y hy
      obtain ⟨x0, hx0, rfl⟩ := List.mem_map.1 hx
      obtain ⟨y0, hy0, rfl⟩ := List.mem_map.1 hy
      have h2 := (List.mem_filter.1 hy0).2
      exact (findE_mem a y0.f0).1 (by simpa using h2) x0 hx0
  obtain ⟨s1, s2⟩ := sortK_spec keyF (allE a b) hnd
  refine sorted_unique keyF _ _ s1 ?_ (fun z => ?_)
  · show List.Pairwise _ _
    rw [List.pairwise_map]
    exact union_sorted a b ha hb
  · rw [s2]
    unfold allE
    simp only [List.mem_append, List.mem_map, List.mem_filter]
    constructor
    · rintro (⟨x, hx, rfl⟩ | ⟨y, ⟨hy, _⟩, rfl⟩)
      · exact ⟨x.f0, (union_mem a b _).2 (.inl ⟨x, hx, rfl⟩), rfl⟩
      · exact ⟨y.f0, (union_mem a b _).2 (.inr ⟨y, hy, rfl⟩), rfl⟩
    · rintro ⟨p, hp, rfl⟩
      by_cases hf : findE a p = none
      · rcases (union_mem a b p).1 hp with ⟨x, hx, e⟩ | ⟨y, hy, e⟩
        · exact absurd e ((findE_mem a p).1 hf x hx)
        · exact .inr ⟨y, ⟨hy, by rw [e]; simpa using hf⟩, by rw [e]⟩
      · have : ∃ x ∈ a, x.f0 = p := by
          apply Classical.byContradiction
          intro hc
          exact hf ((findE_mem a p).2 (fun x hx e => hc ⟨x, hx, e⟩))
        obtain ⟨x, hx, e⟩ := this
        exact .inl ⟨x, hx, by rw [e]⟩
end Go.Proofs.YtafjlibcdlihcaaDoor.G
end
