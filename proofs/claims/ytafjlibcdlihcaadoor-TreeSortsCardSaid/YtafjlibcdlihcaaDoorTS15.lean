/- Texts of this session's claim of TreeSorts, less what its theorem does not reach. No condition. -/
import Derived.Test.YtafjlibcdlihcaaDoorProg
import Derived.Test.YtafjlibcdlihcaaDoorTS1
import Derived.Test.YtafjlibcdlihcaaDoorTS2
import Derived.Test.YtafjlibcdlihcaaDoorTS12
import Derived.Test.YtafjlibcdlihcaaDoorTS13
import Derived.Test.YtafjlibcdlihcaaDoorTS14
section
namespace Go.Proofs.YtafjlibcdlihcaaDoor.G
open Go.RowKit Go.Proofs.YtafjlibcdlihcaaDoorW.PrintWords Go.Proofs.YtafjlibcdlihcaaDoorW.PrintLast Go.Proofs.YtafjlibcdlihcaaDoorW.PrintMore
attribute [local go_sem] max2_int min2_int max_two min_two max_three min_three max_four min_four   -- for this text's walks alone
set_option linter.unusedVariables false
set_option linter.unusedSimpArgs false
mutual
def barqueref09_Sort.l0 : Nat → List (S58) → List (S58) → Int → Option ((List (S58)))
  | 0, _, _, _ => none
  | k + 1, x0, x3, x4 => if x4 < (x0.length : Int) then (barqueref09_Sort.l1 k x0 x3 x4 ([] : List (S58)) false 0) else (some x3)
def barqueref09_Sort.l1 : Nat → List (S58) → List (S58) → Int → List (S58) → Bool → Int → Option ((List (S58)))
  | 0, _, _, _, _, _, _ => none
  | k + 1, x0, x3, x4, x5, x6, x7 => if x7 < (x3.length : Int) then (if x6 = true then (if 0 ≤ x7 then (if x5.length < 3518437208883 then (barqueref09_Sort.l1 k x0 x3 x4 (x5 ++ [(⟨(rd_T58 x3 x7).f0, (rd_T58 x3 x7).f1, (rd_T58 x3 x7).f2⟩ : S58)]) x6 (wrap64 (x7 + 1))) else (none)) else (none)) else (if 0 ≤ x4 then (if x4 < (x0.length : Int) then (if 0 ≤ x7 then ((barqueref09_Order.f k ((rd_T58 x0 x4).f0) ((rd_T58 x3 x7).f0)).bind fun t442 => (if t442 < 0 then (if x5.length < 3518437208883 then ((some (x5 ++ [(⟨(rd_T58 x0 x4).f0, (rd_T58 x0 x4).f1, (rd_T58 x0 x4).f2⟩ : S58)] : List (S58))).bind fun y444 => (if y444.length < 3518437208883 then (barqueref09_Sort.l1 k x0 x3 x4 (y444 ++ [(⟨(rd_T58 x3 x7).f0, (rd_T58 x3 x7).f1, (rd_T58 x3 x7).f2⟩ : S58)]) true (wrap64 (x7 + 1))) else (none))) else (none)) else (if x5.length < 3518437208883 then (barqueref09_Sort.l1 k x0 x3 x4 (x5 ++ [(⟨(rd_T58 x3 x7).f0, (rd_T58 x3 x7).f1, (rd_T58 x3 x7).f2⟩ : S58)]) x6 (wrap64 (x7 + 1))) else (none)))) else (none)) else (none)) else (none))) else (if x6 = true then (barqueref09_Sort.l0 k x0 x5 (wrap64 (x4 + 1))) else (if 0 ≤ x4 then (if x4 < (x0.length : Int) then (if x5.length < 3518437208883 then (barqueref09_Sort.l0 k x0 (x5 ++ [(⟨(rd_T58 x0 x4).f0, (rd_T58 x0 x4).f1, (rd_T58 x0 x4).f2⟩ : S58)]) (wrap64 (x4 + 1))) else (none)) else (none)) else (none)))
end
def barqueref09_Sort.f (k : Nat) (l0 : List (S58)) : Option ((List (S58))) := barqueref09_Sort.l0 k l0 ([] : List (S58)) 0
theorem barqueref09_Sort.mono_l : ∀ k, (∀ y0 y1 y2, LeO (barqueref09_Sort.l0 k y0 y1 y2) (barqueref09_Sort.l0 (k + 1) y0 y1 y2)) ∧ (∀ y0 y1 y2 y3 y4 y5, LeO (barqueref09_Sort.l1 k y0 y1 y2 y3 y4 y5) (barqueref09_Sort.l1 (k + 1) y0 y1 y2 y3 y4 y5))
  | 0 => ⟨fun _ _ _ r h => by simp [barqueref09_Sort.l0] at h, fun _ _ _ _ _ _ r h => by simp [barqueref09_Sort.l1] at h⟩
  | k + 1 => by
    obtain ⟨ih0, ih1⟩ := barqueref09_Sort.mono_l k
    refine ⟨?_, ?_⟩
    · intro y0 y1 y2
      unfold barqueref09_Sort.l0
      repeat' first
      | (with_reducible exact ih0 _ _ _)
      | (with_reducible exact ih1 _ _ _ _ _ _)
      | (with_reducible exact barqueref09_Order.mono _ _ _)
      | (with_reducible exact LeO.refl _)
      | (with_reducible exact LeO.none _)
      | (with_reducible refine LeO.ite ?_ ?_)
      | (with_reducible refine LeO.bind ?_ (fun _ => ?_))
      | exact ih0 _ _ _
      | exact ih1 _ _ _ _ _ _
      | exact barqueref09_Order.mono _ _ _
      | exact LeO.none _
      | refine LeO.ite ?_ ?_
      | refine LeO.bind ?_ (fun _ => ?_)
    · intro y0 y1 y2 y3 y4 y5
      unfold barqueref09_Sort.l1
      repeat' first
      | (with_reducible exact ih0 _ _ _)
      | (with_reducible exact ih1 _ _ _ _ _ _)
      | (with_reducible exact barqueref09_Order.mono _ _ _)
      | (with_reducible exact LeO.refl _)
      | (with_reducible exact LeO.none _)
      | (with_reducible refine LeO.ite ?_ ?_)
      | (with_reducible refine LeO.bind ?_ (fun _ => ?_))
      | exact ih0 _ _ _
      | exact ih1 _ _ _ _ _ _
      | exact barqueref09_Order.mono _ _ _
      | exact LeO.none _
      | refine LeO.ite ?_ ?_
      | refine LeO.bind ?_ (fun _ => ?_)
theorem barqueref09_Sort.mono : ∀ a0 k, LeO (barqueref09_Sort.f k a0) (barqueref09_Sort.f (k + 1) a0) := by
  intro a0 k
  obtain ⟨ih0, ih1⟩ := barqueref09_Sort.mono_l k
  unfold barqueref09_Sort.f
  repeat' first
      | (with_reducible exact ih0 _ _ _)
      | (with_reducible exact ih1 _ _ _ _ _ _)
      | (with_reducible exact barqueref09_Order.mono _ _ _)
      | (with_reducible exact LeO.refl _)
      | (with_reducible exact LeO.none _)
      | (with_reducible refine LeO.ite ?_ ?_)
      | (with_reducible refine LeO.bind ?_ (fun _ => ?_))
      | exact ih0 _ _ _
      | exact ih1 _ _ _ _ _ _
      | exact barqueref09_Order.mono _ _ _
      | exact LeO.none _
      | refine LeO.ite ?_ ?_
      | refine LeO.bind ?_ (fun _ => ?_)
set_option maxHeartbeats 8000000 in
set_option maxRecDepth 100000 in
theorem barqueref09_Sort.calls (k : Nat) (A0 : Option Addr) (c0 : Nat) (l0 : List (S58)) (r : List (S58)) (w : World) (hr0 : Kd.C k58 w A0 l0.length l0) (hc0 : l0.length ≤ c0) (h : barqueref09_Sort.f k l0 = some r) :
    Calls Tryd.prog 43 #[.slice A0 l0.length c0] w fun e w' => ∃ v0_ : Value, e = .returned (v0_) ∧ Kd.R k58 58 w' w.heap.size (fun _ => True) v0_ r ∧ Below w.heap.size w w' := by
  have hu58 := Tryd.underlying58
  have HR0 := Aside0.mk hr0
  have HC0 := Aside0.mk hc0
  clear hr0 hc0
  have HB := Aside0.mk (Below.refl w.heap.size w)
  have H : (barqueref09_Sort.l0 k l0 ([] : List (S58)) 0) = some r := h
  clear h
  have H' := Aside0.mk H
  clear H
  go_enter Tryd.func43, Tryd.ntmps43
  go_wp2
  repeat (go_quiet (fail); try go_wp2)
  go_loopg [3, 4] k (fun kq v3 v4 w' => ∃ (x3_1 : List (S58)) (x4_1 : Int), v4 = .int .i64 x4_1 ∧ Aside0 (barqueref09_Sort.l0 kq l0 x3_1 x4_1 = some r) ∧ Aside0 (kq ≤ k) ∧ Aside0 (Kd.R k58 58 w' w.heap.size (fun _ => True) v3 x3_1) ∧ Aside0 (Below w.heap.size w w'))
  case atStart => exact ⟨(([] : List (S58))), (0), (by first | rfl | (simp; done) | (simp [*]; done)), H', ⟨Nat.le_refl _⟩, ⟨by first | exact Kd.R_nil _ _ _ _ _ | exact Kd.N_nil _ _ _ _ _ | exact Kd.V_nil _ _ _ _ _ | exact Kd.Q_nil _ _ _ _ _ | exact Kd.S_nil _ _ _ _ _⟩, ⟨by repeat (first | (with_reducible first | exact HB.out | apply below_alloc | apply pw_below_drewN | apply below_drew1) | exact HB.out)⟩⟩
  case round =>
    clear H'
    obtain ⟨x3_1, x4_1, rfl, HA, HK1, HO_3, HB⟩ := hrel
    cases gk with
    | zero => exact absurd HA.out (by simp [barqueref09_Sort.l0])
    | succ k1 =>
      have H := HA.out
      clear HA
      simp only [barqueref09_Sort.l0] at H
      by_cases c2 : x4_1 < (l0.length : Int)
      · rw [if_pos c2] at H
        have c2b0 : decide (x4_1 < (l0.length : Int)) = true := decide_eq_true c2
        clear c2
        have H' := Aside0.mk H
        clear H
        go_wp2
        repeat (go_quiet (fail); try go_wp2)
        go_loopg [5, 6, 7] k1 (fun kq v5 v6 v7 w' => ∃ (x5_2 : List (S58)) (x6_2 : Bool) (x7_2 : Int), v6 = .bool x6_2 ∧ v7 = .int .i64 x7_2 ∧ Aside0 (barqueref09_Sort.l1 kq l0 x3_1 x4_1 x5_2 x6_2 x7_2 = some r) ∧ Aside0 (kq ≤ k1) ∧ Aside0 (Kd.R k58 58 w' w.heap.size (fun k_ => some k_ ≠ (v5 : Value).ownBlock) u3 x3_1) ∧ Aside0 (Kd.R k58 58 w' w.heap.size (fun k_ => some k_ ≠ (u3 : Value).ownBlock) v5 x5_2) ∧ Aside0 (Below w.heap.size w w'))
        case atStart => exact ⟨(([] : List (S58))), (false), (0), (by first | rfl | (simp; done) | (simp [*]; done)), (by first | rfl | (simp; done) | (simp [*]; done)), H', ⟨Nat.le_refl _⟩, ⟨by (with_reducible repeat (first | apply Kd.R_alloc | apply Kd.R_drewN | apply Kd.R_drew)); exact Kd.R_mono HO_3.out (fun _ hk => (by simp [Value.ownBlock]))⟩, ⟨by first | exact Kd.R_nil _ _ _ _ _ | exact Kd.N_nil _ _ _ _ _ | exact Kd.V_nil _ _ _ _ _ | exact Kd.Q_nil _ _ _ _ _ | exact Kd.S_nil _ _ _ _ _⟩, ⟨by repeat (first | (with_reducible first | exact HB.out | apply below_alloc | apply pw_below_drewN | apply below_drew1) | exact HB.out)⟩⟩
        case round =>
          clear H'
          try clear c2
          try clear c2b0
          try clear p2
          obtain ⟨x5_2, x6_2, x7_2, rfl, rfl, HA, HK2, HO_3, HO_5, HB⟩ := hrel
          cases gk with
          | zero => exact absurd HA.out (by simp [barqueref09_Sort.l1])
          | succ k2 =>
            have H := HA.out
            clear HA
            simp only [barqueref09_Sort.l1] at H
            by_cases c3 : x7_2 < (x3_1.length : Int)
            · rw [if_pos c3] at H
              have c3b0 : decide (x7_2 < (x3_1.length : Int)) = true := decide_eq_true c3
              clear c3
              by_cases c4 : x6_2 = true
              · subst c4
                have H1 : (if 0 ≤ x7_2 then (if x5_2.length < 3518437208883 then (barqueref09_Sort.l1 k2 l0 x3_1 x4_1 (x5_2 ++ [(⟨(rd_T58 x3_1 x7_2).f0, (rd_T58 x3_1 x7_2).f1, (rd_T58 x3_1 x7_2).f2⟩ : S58)]) true (wrap64 (x7_2 + 1))) else (none)) else (none)) = some r := by rw [if_pos rfl] at H; exact H
                clear H
                have H := H1
                clear H1
                by_cases c5 : 0 ≤ x7_2
                · rw [if_pos c5] at H
                  have c5b0 : decide (0 ≤ x7_2) = true := decide_eq_true c5
                  clear c5
                  by_cases c6 : x5_2.length < 3518437208883
                  · rw [if_pos c6] at H
                    have LMc6 := Aside0.mk c6
                    clear c6
                    obtain ⟨y437, hy437⟩ : ∃ y_ : List (S58), y_ = (x5_2 ++ [(⟨(rd_T58 x3_1 x7_2).f0, (rd_T58 x3_1 x7_2).f1, (rd_T58 x3_1 x7_2).f2⟩ : S58)]) := ⟨_, rfl⟩
                    replace H : (barqueref09_Sort.l1 k2 l0 x3_1 x4_1 y437 true (wrap64 (x7_2 + 1))) = some r := by first | (rw [hy437]; with_reducible exact H) | (have H2_ := (Option.bind_some _ _).symm.trans H; rw [hy437]; with_reducible exact H2_) | (have H2_ := (Option.bind_some _ _).symm.trans H; with_reducible exact H2_) | with_reducible exact H | (rw [hy437]; exact H) | exact H
                    have Ny437 := Aside0.mk hy437
                    clear hy437
                    have H' := Aside0.mk H
                    clear H
                    obtain ⟨Ao7, co7, eo7⟩ := Kd.R_slice HO_3.out
                    subst eo7
                    have p436 : 0 ≤ (x7_2 : Int) := of_decide_eq_true (by first | (with_reducible assumption) | assumption)
                    have q436 : x7_2 < (x3_1.length : Int) := of_decide_eq_true (by first | (with_reducible assumption) | assumption)
                    obtain ⟨ad436, e436, hx436_0, hx436_1, hx436_2⟩ := at_T58 (Kd.R_reads' HO_3.out).2.2 x7_2 p436 q436
                    cases e436
                    replace p436 := eq_true p436
                    replace q436 := eq_true q436
                    go_wp2_with (first | ((with_reducible refine gate_builtin (b := .append) (xs := #[.tmp 43, .tmp 48]) rfl ?_); at_builtin; refine Kd.R_append k58 (w0 := w) w.heap.size rfl (.tmp 43) (.tmp 48) 29 58 (.agg #[(.string ⟨#[]⟩), (.int .i64 0), (.string ⟨#[]⟩)]) 40 rfl Tryd.underlying29 info58 rfl (by decide) (by omega) u5 x5_2 (⟨(rd_T58 x3_1 x7_2).f0, (rd_T58 x3_1 x7_2).f1, (rd_T58 x3_1 x7_2).f2⟩ : S58) [.string ((rd_T58 x3_1 x7_2).f0), .int .i64 ((rd_T58 x3_1 x7_2).f1), .string ((rd_T58 x3_1 x7_2).f2)] (fun k_ => some k_ ≠ (.slice (some ad436) x3_1.length co7 : Value).ownBlock) (fun _ => False) rfl rfl ?aP (fun _ hk => hk.elim) ?aF ?aO ?aB ?aS ?aL ?_; (case aP => exact k58_mkM _ _ _ (⟨(rd_T58 x3_1 x7_2).f0, (rd_T58 x3_1 x7_2).f1, (rd_T58 x3_1 x7_2).f2⟩ : S58)); (case aB => exact (by repeat (first | (with_reducible first | exact HB.out | apply below_alloc | apply pw_below_drewN | apply below_drew1) | exact HB.out))); (case aF => exact (fun k_ hk => Kd.fresh' (Kd.R_lt (by (with_reducible repeat (first | apply Kd.R_alloc | apply Kd.R_drewN | apply Kd.R_drew)); exact HO_3.out)) k_ hk)); (case aO => exact (by (with_reducible repeat (first | apply Kd.R_alloc | apply Kd.R_drewN | apply Kd.R_drew)); exact HO_5.out)); (case aS => exact (below_size (by repeat (first | (with_reducible first | exact HB.out | apply below_alloc | apply pw_below_drewN | apply below_drew1) | exact HB.out)))); (case aL => have := LMc6.out; omega); intro v438 w8 ho hb hg hat; rw [← Ny437.out] at ho; have n0_ := Aside0.mk (Kd.R_after (ok := (fun _ => True)) (by (with_reducible repeat (first | apply Kd.R_alloc | apply Kd.R_drewN | apply Kd.R_drew)); exact Kd.R_mono HO_3.out (fun _ hk => ⟨trivial, hk⟩)) hg hat); have n1_ := Aside0.mk (hb); have n2_ := Aside0.mk (ho); clear HO_3; clear HB; clear HO_5; have HO_3 := n0_; have HB := n1_; have HO439 := n2_; clear n0_ n1_ n2_; clear ho hb hg hat))
                    repeat (go_quiet (first | ((with_reducible refine gate_builtin (b := .append) (xs := #[.tmp 43, .tmp 48]) rfl ?_); at_builtin; refine Kd.R_append k58 (w0 := w) w.heap.size rfl (.tmp 43) (.tmp 48) 29 58 (.agg #[(.string ⟨#[]⟩), (.int .i64 0), (.string ⟨#[]⟩)]) 40 rfl Tryd.underlying29 info58 rfl (by decide) (by omega) u5 x5_2 (⟨(rd_T58 x3_1 x7_2).f0, (rd_T58 x3_1 x7_2).f1, (rd_T58 x3_1 x7_2).f2⟩ : S58) [.string ((rd_T58 x3_1 x7_2).f0), .int .i64 ((rd_T58 x3_1 x7_2).f1), .string ((rd_T58 x3_1 x7_2).f2)] (fun k_ => some k_ ≠ (.slice (some ad436) x3_1.length co7 : Value).ownBlock) (fun _ => False) rfl rfl ?aP (fun _ hk => hk.elim) ?aF ?aO ?aB ?aS ?aL ?_; (case aP => exact k58_mkM _ _ _ (⟨(rd_T58 x3_1 x7_2).f0, (rd_T58 x3_1 x7_2).f1, (rd_T58 x3_1 x7_2).f2⟩ : S58)); (case aB => exact (by repeat (first | (with_reducible first | exact HB.out | apply below_alloc | apply pw_below_drewN | apply below_drew1) | exact HB.out))); (case aF => exact (fun k_ hk => Kd.fresh' (Kd.R_lt (by (with_reducible repeat (first | apply Kd.R_alloc | apply Kd.R_drewN | apply Kd.R_drew)); exact HO_3.out)) k_ hk)); (case aO => exact (by (with_reducible repeat (first | apply Kd.R_alloc | apply Kd.R_drewN | apply Kd.R_drew)); exact HO_5.out)); (case aS => exact (below_size (by repeat (first | (with_reducible first | exact HB.out | apply below_alloc | apply pw_below_drewN | apply below_drew1) | exact HB.out)))); (case aL => have := LMc6.out; omega); intro v438 w8 ho hb hg hat; rw [← Ny437.out] at ho; have n0_ := Aside0.mk (Kd.R_after (ok := (fun _ => True)) (by (with_reducible repeat (first | apply Kd.R_alloc | apply Kd.R_drewN | apply Kd.R_drew)); exact Kd.R_mono HO_3.out (fun _ hk => ⟨trivial, hk⟩)) hg hat); have n1_ := Aside0.mk (hb); have n2_ := Aside0.mk (ho); clear HO_3; clear HB; clear HO_5; have HO_3 := n0_; have HB := n1_; have HO439 := n2_; clear n0_ n1_ n2_; clear ho hb hg hat)); try go_wp2_with (first | ((with_reducible refine gate_builtin (b := .append) (xs := #[.tmp 43, .tmp 48]) rfl ?_); at_builtin; refine Kd.R_append k58 (w0 := w) w.heap.size rfl (.tmp 43) (.tmp 48) 29 58 (.agg #[(.string ⟨#[]⟩), (.int .i64 0), (.string ⟨#[]⟩)]) 40 rfl Tryd.underlying29 info58 rfl (by decide) (by omega) u5 x5_2 (⟨(rd_T58 x3_1 x7_2).f0, (rd_T58 x3_1 x7_2).f1, (rd_T58 x3_1 x7_2).f2⟩ : S58) [.string ((rd_T58 x3_1 x7_2).f0), .int .i64 ((rd_T58 x3_1 x7_2).f1), .string ((rd_T58 x3_1 x7_2).f2)] (fun k_ => some k_ ≠ (.slice (some ad436) x3_1.length co7 : Value).ownBlock) (fun _ => False) rfl rfl ?aP (fun _ hk => hk.elim) ?aF ?aO ?aB ?aS ?aL ?_; (case aP => exact k58_mkM _ _ _ (⟨(rd_T58 x3_1 x7_2).f0, (rd_T58 x3_1 x7_2).f1, (rd_T58 x3_1 x7_2).f2⟩ : S58)); (case aB => exact (by repeat (first | (with_reducible first | exact HB.out | apply below_alloc | apply pw_below_drewN | apply below_drew1) | exact HB.out))); (case aF => exact (fun k_ hk => Kd.fresh' (Kd.R_lt (by (with_reducible repeat (first | apply Kd.R_alloc | apply Kd.R_drewN | apply Kd.R_drew)); exact HO_3.out)) k_ hk)); (case aO => exact (by (with_reducible repeat (first | apply Kd.R_alloc | apply Kd.R_drewN | apply Kd.R_drew)); exact HO_5.out)); (case aS => exact (below_size (by repeat (first | (with_reducible first | exact HB.out | apply below_alloc | apply pw_below_drewN | apply below_drew1) | exact HB.out)))); (case aL => have := LMc6.out; omega); intro v438 w8 ho hb hg hat; rw [← Ny437.out] at ho; have n0_ := Aside0.mk (Kd.R_after (ok := (fun _ => True)) (by (with_reducible repeat (first | apply Kd.R_alloc | apply Kd.R_drewN | apply Kd.R_drew)); exact Kd.R_mono HO_3.out (fun _ hk => ⟨trivial, hk⟩)) hg hat); have n1_ := Aside0.mk (hb); have n2_ := Aside0.mk (ho); clear HO_3; clear HB; clear HO_5; have HO_3 := n0_; have HB := n1_; have HO439 := n2_; clear n0_ n1_ n2_; clear ho hb hg hat)))
                    go_roundg k2
                    case measure => have := HK1.out; have := HK2.out; omega
                    case rel => exact ⟨(y437), (true), (wrap64 (x7_2 + 1)), (by first | rfl | (simp; done) | (simp [*]; done)), (by first | rfl | (simp; done) | (simp [*]; done)), H', ⟨by have := HK1.out; have := HK2.out; omega⟩, ⟨by (with_reducible repeat (first | apply Kd.R_alloc | apply Kd.R_drewN | apply Kd.R_drew)); exact Kd.R_mono HO_3.out (fun _ hk => hk.2)⟩, ⟨by (with_reducible repeat (first | apply Kd.R_alloc | apply Kd.R_drewN | apply Kd.R_drew)); exact HO439.out⟩, ⟨by repeat (first | (with_reducible first | exact HB.out | apply below_alloc | apply pw_below_drewN | apply below_drew1) | exact HB.out)⟩⟩
                  · rw [if_neg c6] at H
                    exact absurd H (by simp)
                · rw [if_neg c5] at H
                  exact absurd H (by simp)
              · replace c4 := Bool.eq_false_iff.mpr c4
                subst c4
                have H1 : (if 0 ≤ x4_1 then (if x4_1 < (l0.length : Int) then (if 0 ≤ x7_2 then ((barqueref09_Order.f k2 ((rd_T58 l0 x4_1).f0) ((rd_T58 x3_1 x7_2).f0)).bind fun t442 => (if t442 < 0 then (if x5_2.length < 3518437208883 then ((some (x5_2 ++ [(⟨(rd_T58 l0 x4_1).f0, (rd_T58 l0 x4_1).f1, (rd_T58 l0 x4_1).f2⟩ : S58)] : List (S58))).bind fun y444 => (if y444.length < 3518437208883 then (barqueref09_Sort.l1 k2 l0 x3_1 x4_1 (y444 ++ [(⟨(rd_T58 x3_1 x7_2).f0, (rd_T58 x3_1 x7_2).f1, (rd_T58 x3_1 x7_2).f2⟩ : S58)]) true (wrap64 (x7_2 + 1))) else (none))) else (none)) else (if x5_2.length < 3518437208883 then (barqueref09_Sort.l1 k2 l0 x3_1 x4_1 (x5_2 ++ [(⟨(rd_T58 x3_1 x7_2).f0, (rd_T58 x3_1 x7_2).f1, (rd_T58 x3_1 x7_2).f2⟩ : S58)]) false (wrap64 (x7_2 + 1))) else (none)))) else (none)) else (none)) else (none)) = some r := by rw [if_neg (show ¬ (false = true) by decide)] at H; exact H
                clear H
                have H := H1
                clear H1
                by_cases c9 : 0 ≤ x4_1
                · rw [if_pos c9] at H
                  have c9b0 : decide (0 ≤ x4_1) = true := decide_eq_true c9
                  clear c9
                  by_cases c10 : x4_1 < (l0.length : Int)
                  · rw [if_pos c10] at H
                    have c10b0 : decide (x4_1 < (l0.length : Int)) = true := decide_eq_true c10
                    clear c10
                    by_cases c11 : 0 ≤ x7_2
                    · rw [if_pos c11] at H
                      have c11b0 : decide (0 ≤ x7_2) = true := decide_eq_true c11
                      clear c11
                      replace H := Option.bind_eq_some_iff.mp H
                      obtain ⟨t442, A120, H⟩ := H
                      replace H : (if t442 < 0 then (if x5_2.length < 3518437208883 then ((some (x5_2 ++ [(⟨(rd_T58 l0 x4_1).f0, (rd_T58 l0 x4_1).f1, (rd_T58 l0 x4_1).f2⟩ : S58)] : List (S58))).bind fun y444 => (if y444.length < 3518437208883 then (barqueref09_Sort.l1 k2 l0 x3_1 x4_1 (y444 ++ [(⟨(rd_T58 x3_1 x7_2).f0, (rd_T58 x3_1 x7_2).f1, (rd_T58 x3_1 x7_2).f2⟩ : S58)]) true (wrap64 (x7_2 + 1))) else (none))) else (none)) else (if x5_2.length < 3518437208883 then (barqueref09_Sort.l1 k2 l0 x3_1 x4_1 (x5_2 ++ [(⟨(rd_T58 x3_1 x7_2).f0, (rd_T58 x3_1 x7_2).f1, (rd_T58 x3_1 x7_2).f2⟩ : S58)]) false (wrap64 (x7_2 + 1))) else (none))) = some r := H
                      have A12 := Aside0.mk A120
                      clear A120
                      by_cases c13 : t442 < 0
                      · rw [if_pos c13] at H
                        have c13b0 : decide (t442 < 0) = true := decide_eq_true c13
                        clear c13
                        by_cases c14 : x5_2.length < 3518437208883
                        · rw [if_pos c14] at H
                          have LMc14 := Aside0.mk c14
                          clear c14
                          obtain ⟨y444, hy444⟩ : ∃ y_ : List (S58), y_ = (x5_2 ++ [(⟨(rd_T58 l0 x4_1).f0, (rd_T58 l0 x4_1).f1, (rd_T58 l0 x4_1).f2⟩ : S58)]) := ⟨_, rfl⟩
                          replace H : (if y444.length < 3518437208883 then (barqueref09_Sort.l1 k2 l0 x3_1 x4_1 (y444 ++ [(⟨(rd_T58 x3_1 x7_2).f0, (rd_T58 x3_1 x7_2).f1, (rd_T58 x3_1 x7_2).f2⟩ : S58)]) true (wrap64 (x7_2 + 1))) else (none)) = some r := by first | (rw [hy444]; with_reducible exact H) | (have H2_ := (Option.bind_some _ _).symm.trans H; rw [hy444]; with_reducible exact H2_) | (have H2_ := (Option.bind_some _ _).symm.trans H; with_reducible exact H2_) | with_reducible exact H | (rw [hy444]; exact H) | exact H
                          have Ny444 := Aside0.mk hy444
                          clear hy444
                          by_cases c15 : y444.length < 3518437208883
                          · rw [if_pos c15] at H
                            have LMc15 := Aside0.mk c15
                            clear c15
                            obtain ⟨y448, hy448⟩ : ∃ y_ : List (S58), y_ = (y444 ++ [(⟨(rd_T58 x3_1 x7_2).f0, (rd_T58 x3_1 x7_2).f1, (rd_T58 x3_1 x7_2).f2⟩ : S58)]) := ⟨_, rfl⟩
                            replace H : (barqueref09_Sort.l1 k2 l0 x3_1 x4_1 y448 true (wrap64 (x7_2 + 1))) = some r := by first | (rw [hy448]; with_reducible exact H) | (have H2_ := (Option.bind_some _ _).symm.trans H; rw [hy448]; with_reducible exact H2_) | (have H2_ := (Option.bind_some _ _).symm.trans H; with_reducible exact H2_) | with_reducible exact H | (rw [hy448]; exact H) | exact H
                            have Ny448 := Aside0.mk hy448
                            clear hy448
                            have H' := Aside0.mk H
                            clear H
                            obtain ⟨Ao16, co16, eo16⟩ := Kd.R_slice HO_3.out
                            subst eo16
                            have p440 : 0 ≤ (x4_1 : Int) := of_decide_eq_true (by first | (with_reducible assumption) | assumption)
                            have q440 : x4_1 < (l0.length : Int) := of_decide_eq_true (by first | (with_reducible assumption) | assumption)
                            obtain ⟨ad440, e440, hx440_0, hx440_1, hx440_2⟩ := at_T58 HR0.out x4_1 p440 q440
                            cases e440
                            replace hx440_0 := (HB.out.cell (World.block_lt_of_cell? w _ hx440_0)).trans hx440_0
                            replace hx440_1 := (HB.out.cell (World.block_lt_of_cell? w _ hx440_1)).trans hx440_1
                            replace hx440_2 := (HB.out.cell (World.block_lt_of_cell? w _ hx440_2)).trans hx440_2
                            replace p440 := eq_true p440
                            replace q440 := eq_true q440
                            have p441 : 0 ≤ (x7_2 : Int) := of_decide_eq_true (by first | (with_reducible assumption) | assumption)
                            have q441 : x7_2 < (x3_1.length : Int) := of_decide_eq_true (by first | (with_reducible assumption) | assumption)
                            obtain ⟨ad441, e441, hx441_0, hx441_1, hx441_2⟩ := at_T58 (Kd.R_reads' HO_3.out).2.2 x7_2 p441 q441
                            cases e441
                            replace p441 := eq_true p441
                            replace q441 := eq_true q441
                            go_wp2_with (first | (go_at_call 84; (with_reducible refine (barqueref09_Order.calls k2 ((rd_T58 l0 x4_1).f0) ((rd_T58 x3_1 x7_2).f0) t442 _ A12.out).mono ?_); rintro e w' ⟨rfl, ⟨nd, rfl⟩⟩; (try first | exact ⟨rfl, _, World.drewN_drewN _ _ _⟩ | exact ⟨rfl, _, Eq.trans (World.drewN_drewN _ _ _) (congrArg (World.drewN _) (Nat.add_assoc _ _ _))⟩); have p443 : 0 ≤ (x4_1 : Int) := of_decide_eq_true (by first | (with_reducible assumption) | assumption); have q443 : x4_1 < (l0.length : Int) := of_decide_eq_true (by first | (with_reducible assumption) | assumption); obtain ⟨ad443, e443, hx443_0, hx443_1, hx443_2⟩ := at_T58 HR0.out x4_1 p443 q443; obtain rfl : ad440 = ad443 := (by injection e443); replace hx443_0 := (HB.out.cell (World.block_lt_of_cell? w _ hx443_0)).trans hx443_0; replace hx443_1 := (HB.out.cell (World.block_lt_of_cell? w _ hx443_1)).trans hx443_1; replace hx443_2 := (HB.out.cell (World.block_lt_of_cell? w _ hx443_2)).trans hx443_2; replace p443 := eq_true p443; replace q443 := eq_true q443) | ((with_reducible refine gate_builtin (b := .append) (xs := #[.tmp 36, .tmp 41]) rfl ?_); at_builtin; refine Kd.R_append k58 (w0 := w) w.heap.size rfl (.tmp 36) (.tmp 41) 29 58 (.agg #[(.string ⟨#[]⟩), (.int .i64 0), (.string ⟨#[]⟩)]) 40 rfl Tryd.underlying29 info58 rfl (by decide) (by omega) u5 x5_2 (⟨(rd_T58 l0 x4_1).f0, (rd_T58 l0 x4_1).f1, (rd_T58 l0 x4_1).f2⟩ : S58) [.string ((rd_T58 l0 x4_1).f0), .int .i64 ((rd_T58 l0 x4_1).f1), .string ((rd_T58 l0 x4_1).f2)] (fun k_ => some k_ ≠ (.slice (some ad441) x3_1.length co16 : Value).ownBlock) (fun _ => False) rfl rfl ?aP (fun _ hk => hk.elim) ?aF ?aO ?aB ?aS ?aL ?_; (case aP => exact k58_mkM _ _ _ (⟨(rd_T58 l0 x4_1).f0, (rd_T58 l0 x4_1).f1, (rd_T58 l0 x4_1).f2⟩ : S58)); (case aB => exact (by repeat (first | (with_reducible first | exact HB.out | apply below_alloc | apply pw_below_drewN | apply below_drew1) | exact HB.out))); (case aF => exact (fun k_ hk => Kd.fresh' (Kd.R_lt (by (with_reducible repeat (first | apply Kd.R_alloc | apply Kd.R_drewN | apply Kd.R_drew)); exact HO_3.out)) k_ hk)); (case aO => exact (by (with_reducible repeat (first | apply Kd.R_alloc | apply Kd.R_drewN | apply Kd.R_drew)); exact HO_5.out)); (case aS => exact (below_size (by repeat (first | (with_reducible first | exact HB.out | apply below_alloc | apply pw_below_drewN | apply below_drew1) | exact HB.out)))); (case aL => have := LMc14.out; omega); intro v445 w17 ho hb hg hat; rw [← Ny444.out] at ho; have n0_ := Aside0.mk (Kd.R_after (ok := (fun _ => True)) (by (with_reducible repeat (first | apply Kd.R_alloc | apply Kd.R_drewN | apply Kd.R_drew)); exact Kd.R_mono HO_3.out (fun _ hk => ⟨trivial, hk⟩)) hg hat); have n1_ := Aside0.mk (hb); have n2_ := Aside0.mk (ho); clear HO_3; clear HB; clear HO_5; have HO_3 := n0_; have HB := n1_; have HO446 := n2_; clear n0_ n1_ n2_; clear ho hb hg hat; have p447 : 0 ≤ (x7_2 : Int) := of_decide_eq_true (by first | (with_reducible assumption) | assumption); have q447 : x7_2 < (x3_1.length : Int) := of_decide_eq_true (by first | (with_reducible assumption) | assumption); obtain ⟨ad447, e447, hx447_0, hx447_1, hx447_2⟩ := at_T58 (Kd.R_reads' HO_3.out).2.2 x7_2 p447 q447; obtain rfl : ad441 = ad447 := (by injection e447); replace p447 := eq_true p447; replace q447 := eq_true q447) | ((with_reducible refine gate_builtin (b := .append) (xs := #[.tmp 43, .tmp 48]) rfl ?_); at_builtin; refine Kd.R_append k58 (w0 := w) w.heap.size rfl (.tmp 43) (.tmp 48) 29 58 (.agg #[(.string ⟨#[]⟩), (.int .i64 0), (.string ⟨#[]⟩)]) 40 rfl Tryd.underlying29 info58 rfl (by decide) (by omega) v445 y444 (⟨(rd_T58 x3_1 x7_2).f0, (rd_T58 x3_1 x7_2).f1, (rd_T58 x3_1 x7_2).f2⟩ : S58) [.string ((rd_T58 x3_1 x7_2).f0), .int .i64 ((rd_T58 x3_1 x7_2).f1), .string ((rd_T58 x3_1 x7_2).f2)] (fun k_ => some k_ ≠ (.slice (some ad441) x3_1.length co16 : Value).ownBlock) (fun _ => False) rfl rfl ?aP (fun _ hk => hk.elim) ?aF ?aO ?aB ?aS ?aL ?_; (case aP => exact k58_mkM _ _ _ (⟨(rd_T58 x3_1 x7_2).f0, (rd_T58 x3_1 x7_2).f1, (rd_T58 x3_1 x7_2).f2⟩ : S58)); (case aB => exact (by repeat (first | (with_reducible first | exact HB.out | apply below_alloc | apply pw_below_drewN | apply below_drew1) | exact HB.out))); (case aF => exact (fun k_ hk => Kd.fresh' (Kd.R_lt (by (with_reducible repeat (first | apply Kd.R_alloc | apply Kd.R_drewN | apply Kd.R_drew)); exact HO_3.out)) k_ hk)); (case aO => exact (by (with_reducible repeat (first | apply Kd.R_alloc | apply Kd.R_drewN | apply Kd.R_drew)); exact HO446.out)); (case aS => exact (below_size (by repeat (first | (with_reducible first | exact HB.out | apply below_alloc | apply pw_below_drewN | apply below_drew1) | exact HB.out)))); (case aL => have := LMc15.out; omega); intro v449 w18 ho hb hg hat; rw [← Ny448.out] at ho; have n0_ := Aside0.mk (Kd.R_after (ok := (fun _ => True)) (by (with_reducible repeat (first | apply Kd.R_alloc | apply Kd.R_drewN | apply Kd.R_drew)); exact HO_3.out) hg hat); have n1_ := Aside0.mk (hb); have n2_ := Aside0.mk (ho); clear HO_3; clear HB; clear HO446; have HO_3 := n0_; have HB := n1_; have HO450 := n2_; clear n0_ n1_ n2_; clear ho hb hg hat))
                            repeat (go_quiet (first | (go_at_call 84; (with_reducible refine (barqueref09_Order.calls k2 ((rd_T58 l0 x4_1).f0) ((rd_T58 x3_1 x7_2).f0) t442 _ A12.out).mono ?_); rintro e w' ⟨rfl, ⟨nd, rfl⟩⟩; (try first | exact ⟨rfl, _, World.drewN_drewN _ _ _⟩ | exact ⟨rfl, _, Eq.trans (World.drewN_drewN _ _ _) (congrArg (World.drewN _) (Nat.add_assoc _ _ _))⟩); have p443 : 0 ≤ (x4_1 : Int) := of_decide_eq_true (by first | (with_reducible assumption) | assumption); have q443 : x4_1 < (l0.length : Int) := of_decide_eq_true (by first | (with_reducible assumption) | assumption); obtain ⟨ad443, e443, hx443_0, hx443_1, hx443_2⟩ := at_T58 HR0.out x4_1 p443 q443; obtain rfl : ad440 = ad443 := (by injection e443); replace hx443_0 := (HB.out.cell (World.block_lt_of_cell? w _ hx443_0)).trans hx443_0; replace hx443_1 := (HB.out.cell (World.block_lt_of_cell? w _ hx443_1)).trans hx443_1; replace hx443_2 := (HB.out.cell (World.block_lt_of_cell? w _ hx443_2)).trans hx443_2; replace p443 := eq_true p443; replace q443 := eq_true q443) | ((with_reducible refine gate_builtin (b := .append) (xs := #[.tmp 36, .tmp 41]) rfl ?_); at_builtin; refine Kd.R_append k58 (w0 := w) w.heap.size rfl (.tmp 36) (.tmp 41) 29 58 (.agg #[(.string ⟨#[]⟩), (.int .i64 0), (.string ⟨#[]⟩)]) 40 rfl Tryd.underlying29 info58 rfl (by decide) (by omega) u5 x5_2 (⟨(rd_T58 l0 x4_1).f0, (rd_T58 l0 x4_1).f1, (rd_T58 l0 x4_1).f2⟩ : S58) [.string ((rd_T58 l0 x4_1).f0), .int .i64 ((rd_T58 l0 x4_1).f1), .string ((rd_T58 l0 x4_1).f2)] (fun k_ => some k_ ≠ (.slice (some ad441) x3_1.length co16 : Value).ownBlock) (fun _ => False) rfl rfl ?aP (fun _ hk => hk.elim) ?aF ?aO ?aB ?aS ?aL ?_; (case aP => exact k58_mkM _ _ _ (⟨(rd_T58 l0 x4_1).f0, (rd_T58 l0 x4_1).f1, (rd_T58 l0 x4_1).f2⟩ : S58)); (case aB => exact (by repeat (first | (with_reducible first | exact HB.out | apply below_alloc | apply pw_below_drewN | apply below_drew1) | exact HB.out))); (case aF => exact (fun k_ hk => Kd.fresh' (Kd.R_lt (by (with_reducible repeat (first | apply Kd.R_alloc | apply Kd.R_drewN | apply Kd.R_drew)); exact HO_3.out)) k_ hk)); (case aO => exact (by (with_reducible repeat (first | apply Kd.R_alloc | apply Kd.R_drewN | apply Kd.R_drew)); exact HO_5.out)); (case aS => exact (below_size (by repeat (first | (with_reducible first | exact HB.out | apply below_alloc | apply pw_below_drewN | apply below_drew1) | exact HB.out)))); (case aL => have := LMc14.out; omega); intro v445 w17 ho hb hg hat; rw [← Ny444.out] at ho; have n0_ := Aside0.mk (Kd.R_after (ok := (fun _ => True)) (by (with_reducible repeat (first | apply Kd.R_alloc | apply Kd.R_drewN | apply Kd.R_drew)); exact Kd.R_mono HO_3.out (fun _ hk => ⟨trivial, hk⟩)) hg hat); have n1_ := Aside0.mk (hb); have n2_ := Aside0.mk (ho); clear HO_3; clear HB; clear HO_5; have HO_3 := n0_; have HB := n1_; have HO446 := n2_; clear n0_ n1_ n2_; clear ho hb hg hat; have p447 : 0 ≤ (x7_2 : Int) := of_decide_eq_true (by first | (with_reducible assumption) | assumption); have q447 : x7_2 < (x3_1.length : Int) := of_decide_eq_true (by first | (with_reducible assumption) | assumption); obtain ⟨ad447, e447, hx447_0, hx447_1, hx447_2⟩ := at_T58 (Kd.R_reads' HO_3.out).2.2 x7_2 p447 q447; obtain rfl : ad441 = ad447 := (by injection e447); replace p447 := eq_true p447; replace q447 := eq_true q447) | ((with_reducible refine gate_builtin (b := .append) (xs := #[.tmp 43, .tmp 48]) rfl ?_); at_builtin; refine Kd.R_append k58 (w0 := w) w.heap.size rfl (.tmp 43) (.tmp 48) 29 58 (.agg #[(.string ⟨#[]⟩), (.int .i64 0), (.string ⟨#[]⟩)]) 40 rfl Tryd.underlying29 info58 rfl (by decide) (by omega) v445 y444 (⟨(rd_T58 x3_1 x7_2).f0, (rd_T58 x3_1 x7_2).f1, (rd_T58 x3_1 x7_2).f2⟩ : S58) [.string ((rd_T58 x3_1 x7_2).f0), .int .i64 ((rd_T58 x3_1 x7_2).f1), .string ((rd_T58 x3_1 x7_2).f2)] (fun k_ => some k_ ≠ (.slice (some ad441) x3_1.length co16 : Value).ownBlock) (fun _ => False) rfl rfl ?aP (fun _ hk => hk.elim) ?aF ?aO ?aB ?aS ?aL ?_; (case aP => exact k58_mkM _ _ _ (⟨(rd_T58 x3_1 x7_2).f0, (rd_T58 x3_1 x7_2).f1, (rd_T58 x3_1 x7_2).f2⟩ : S58)); (case aB => exact (by repeat (first | (with_reducible first | exact HB.out | apply below_alloc | apply pw_below_drewN | apply below_drew1) | exact HB.out))); (case aF => exact (fun k_ hk => Kd.fresh' (Kd.R_lt (by (with_reducible repeat (first | apply Kd.R_alloc | apply Kd.R_drewN | apply Kd.R_drew)); exact HO_3.out)) k_ hk)); (case aO => exact (by (with_reducible repeat (first | apply Kd.R_alloc | apply Kd.R_drewN | apply Kd.R_drew)); exact HO446.out)); (case aS => exact (below_size (by repeat (first | (with_reducible first | exact HB.out | apply below_alloc | apply pw_below_drewN | apply below_drew1) | exact HB.out)))); (case aL => have := LMc15.out; omega); intro v449 w18 ho hb hg hat; rw [← Ny448.out] at ho; have n0_ := Aside0.mk (Kd.R_after (ok := (fun _ => True)) (by (with_reducible repeat (first | apply Kd.R_alloc | apply Kd.R_drewN | apply Kd.R_drew)); exact HO_3.out) hg hat); have n1_ := Aside0.mk (hb); have n2_ := Aside0.mk (ho); clear HO_3; clear HB; clear HO446; have HO_3 := n0_; have HB := n1_; have HO450 := n2_; clear n0_ n1_ n2_; clear ho hb hg hat)); try go_wp2_with (first | (go_at_call 84; (with_reducible refine (barqueref09_Order.calls k2 ((rd_T58 l0 x4_1).f0) ((rd_T58 x3_1 x7_2).f0) t442 _ A12.out).mono ?_); rintro e w' ⟨rfl, ⟨nd, rfl⟩⟩; (try first | exact ⟨rfl, _, World.drewN_drewN _ _ _⟩ | exact ⟨rfl, _, Eq.trans (World.drewN_drewN _ _ _) (congrArg (World.drewN _) (Nat.add_assoc _ _ _))⟩); have p443 : 0 ≤ (x4_1 : Int) := of_decide_eq_true (by first | (with_reducible assumption) | assumption); have q443 : x4_1 < (l0.length : Int) := of_decide_eq_true (by first | (with_reducible assumption) | assumption); obtain ⟨ad443, e443, hx443_0, hx443_1, hx443_2⟩ := at_T58 HR0.out x4_1 p443 q443; obtain rfl : ad440 = ad443 := (by injection e443); replace hx443_0 := (HB.out.cell (World.block_lt_of_cell? w _ hx443_0)).trans hx443_0; replace hx443_1 := (HB.out.cell (World.block_lt_of_cell? w _ hx443_1)).trans hx443_1; replace hx443_2 := (HB.out.cell (World.block_lt_of_cell? w _ hx443_2)).trans hx443_2; replace p443 := eq_true p443; replace q443 := eq_true q443) | ((with_reducible refine gate_builtin (b := .append) (xs := #[.tmp 36, .tmp 41]) rfl ?_); at_builtin; refine Kd.R_append k58 (w0 := w) w.heap.size rfl (.tmp 36) (.tmp 41) 29 58 (.agg #[(.string ⟨#[]⟩), (.int .i64 0), (.string ⟨#[]⟩)]) 40 rfl Tryd.underlying29 info58 rfl (by decide) (by omega) u5 x5_2 (⟨(rd_T58 l0 x4_1).f0, (rd_T58 l0 x4_1).f1, (rd_T58 l0 x4_1).f2⟩ : S58) [.string ((rd_T58 l0 x4_1).f0), .int .i64 ((rd_T58 l0 x4_1).f1), .string ((rd_T58 l0 x4_1).f2)] (fun k_ => some k_ ≠ (.slice (some ad441) x3_1.length co16 : Value).ownBlock) (fun _ => False) rfl rfl ?aP (fun _ hk => hk.elim) ?aF ?aO ?aB ?aS ?aL ?_; (case aP => exact k58_mkM _ _ _ (⟨(rd_T58 l0 x4_1).f0, (rd_T58 l0 x4_1).f1, (rd_T58 l0 x4_1).f2⟩ : S58)); (case aB => exact (by repeat (first | (with_reducible first | exact HB.out | apply below_alloc | apply pw_below_drewN | apply below_drew1) | exact HB.out))); (case aF => exact (fun k_ hk => Kd.fresh' (Kd.R_lt (by (with_reducible repeat (first | apply Kd.R_alloc | apply Kd.R_drewN | apply Kd.R_drew)); exact HO_3.out)) k_ hk)); (case aO => exact (by (with_reducible repeat (first | apply Kd.R_alloc | apply Kd.R_drewN | apply Kd.R_drew)); exact HO_5.out)); (case aS => exact (below_size (by repeat (first | (with_reducible first | exact HB.out | apply below_alloc | apply pw_below_drewN | apply below_drew1) | exact HB.out)))); (case aL => have := LMc14.out; omega); intro v445 w17 ho hb hg hat; rw [← Ny444.out] at ho; have n0_ := Aside0.mk (Kd.R_after (ok := (fun _ => True)) (by (with_reducible repeat (first | apply Kd.R_alloc | apply Kd.R_drewN | apply Kd.R_drew)); exact Kd.R_mono HO_3.out (fun _ hk => ⟨trivial, hk⟩)) hg hat); have n1_ := Aside0.mk (hb); have n2_ := Aside0.mk (ho); clear HO_3; clear HB; clear HO_5; have HO_3 := n0_; have HB := n1_; have HO446 := n2_; clear n0_ n1_ n2_; clear ho hb hg hat; have p447 : 0 ≤ (x7_2 : Int) := of_decide_eq_true (by first | (with_reducible assumption) | assumption); have q447 : x7_2 < (x3_1.length : Int) := of_decide_eq_true (by first | (with_reducible assumption) | assumption); obtain ⟨ad447, e447, hx447_0, hx447_1, hx447_2⟩ := at_T58 (Kd.R_reads' HO_3.out).2.2 x7_2 p447 q447; obtain rfl : ad441 = ad447 := (by injection e447); replace p447 := eq_true p447; replace q447 := eq_true q447) | ((with_reducible refine gate_builtin (b := .append) (xs := #[.tmp 43, .tmp 48]) rfl ?_); at_builtin; refine Kd.R_append k58 (w0 := w) w.heap.size rfl (.tmp 43) (.tmp 48) 29 58 (.agg #[(.string ⟨#[]⟩), (.int .i64 0), (.string ⟨#[]⟩)]) 40 rfl Tryd.underlying29 info58 rfl (by decide) (by omega) v445 y444 (⟨(rd_T58 x3_1 x7_2).f0, (rd_T58 x3_1 x7_2).f1, (rd_T58 x3_1 x7_2).f2⟩ : S58) [.string ((rd_T58 x3_1 x7_2).f0), .int .i64 ((rd_T58 x3_1 x7_2).f1), .string ((rd_T58 x3_1 x7_2).f2)] (fun k_ => some k_ ≠ (.slice (some ad441) x3_1.length co16 : Value).ownBlock) (fun _ => False) rfl rfl ?aP (fun _ hk => hk.elim) ?aF ?aO ?aB ?aS ?aL ?_; (case aP => exact k58_mkM _ _ _ (⟨(rd_T58 x3_1 x7_2).f0, (rd_T58 x3_1 x7_2).f1, (rd_T58 x3_1 x7_2).f2⟩ : S58)); (case aB => exact (by repeat (first | (with_reducible first | exact HB.out | apply below_alloc | apply pw_below_drewN | apply below_drew1) | exact HB.out))); (case aF => exact (fun k_ hk => Kd.fresh' (Kd.R_lt (by (with_reducible repeat (first | apply Kd.R_alloc | apply Kd.R_drewN | apply Kd.R_drew)); exact HO_3.out)) k_ hk)); (case aO => exact (by (with_reducible repeat (first | apply Kd.R_alloc | apply Kd.R_drewN | apply Kd.R_drew)); exact HO446.out)); (case aS => exact (below_size (by repeat (first | (with_reducible first | exact HB.out | apply below_alloc | apply pw_below_drewN | apply below_drew1) | exact HB.out)))); (case aL => have := LMc15.out; omega); intro v449 w18 ho hb hg hat; rw [← Ny448.out] at ho; have n0_ := Aside0.mk (Kd.R_after (ok := (fun _ => True)) (by (with_reducible repeat (first | apply Kd.R_alloc | apply Kd.R_drewN | apply Kd.R_drew)); exact HO_3.out) hg hat); have n1_ := Aside0.mk (hb); have n2_ := Aside0.mk (ho); clear HO_3; clear HB; clear HO446; have HO_3 := n0_; have HB := n1_; have HO450 := n2_; clear n0_ n1_ n2_; clear ho hb hg hat)))
                            go_roundg k2
                            case measure => have := HK1.out; have := HK2.out; omega
                            case rel => exact ⟨(y448), (true), (wrap64 (x7_2 + 1)), (by first | rfl | (simp; done) | (simp [*]; done)), (by first | rfl | (simp; done) | (simp [*]; done)), H', ⟨by have := HK1.out; have := HK2.out; omega⟩, ⟨by (with_reducible repeat (first | apply Kd.R_alloc | apply Kd.R_drewN | apply Kd.R_drew)); exact Kd.R_mono HO_3.out (fun _ hk => hk.2)⟩, ⟨by (with_reducible repeat (first | apply Kd.R_alloc | apply Kd.R_drewN | apply Kd.R_drew)); exact HO450.out⟩, ⟨by repeat (first | (with_reducible first | exact HB.out | apply below_alloc | apply pw_below_drewN | apply below_drew1) | exact HB.out)⟩⟩
                          · rw [if_neg c15] at H
                            exact absurd H (by simp)
                        · rw [if_neg c14] at H
                          exact absurd H (by simp)
                      · rw [if_neg c13] at H
                        have c13b0 : decide (t442 < 0) = false := decide_eq_false c13
                        clear c13
                        by_cases c19 : x5_2.length < 3518437208883
                        · rw [if_pos c19] at H
                          have LMc19 := Aside0.mk c19
                          clear c19
                          obtain ⟨y452, hy452⟩ : ∃ y_ : List (S58), y_ = (x5_2 ++ [(⟨(rd_T58 x3_1 x7_2).f0, (rd_T58 x3_1 x7_2).f1, (rd_T58 x3_1 x7_2).f2⟩ : S58)]) := ⟨_, rfl⟩
                          replace H : (barqueref09_Sort.l1 k2 l0 x3_1 x4_1 y452 false (wrap64 (x7_2 + 1))) = some r := by first | (rw [hy452]; with_reducible exact H) | (have H2_ := (Option.bind_some _ _).symm.trans H; rw [hy452]; with_reducible exact H2_) | (have H2_ := (Option.bind_some _ _).symm.trans H; with_reducible exact H2_) | with_reducible exact H | (rw [hy452]; exact H) | exact H
                          have Ny452 := Aside0.mk hy452
                          clear hy452
                          have H' := Aside0.mk H
                          clear H
                          obtain ⟨Ao20, co20, eo20⟩ := Kd.R_slice HO_3.out
                          subst eo20
                          have p440 : 0 ≤ (x4_1 : Int) := of_decide_eq_true (by first | (with_reducible assumption) | assumption)
                          have q440 : x4_1 < (l0.length : Int) := of_decide_eq_true (by first | (with_reducible assumption) | assumption)
                          obtain ⟨ad440, e440, hx440_0, hx440_1, hx440_2⟩ := at_T58 HR0.out x4_1 p440 q440
                          cases e440
                          replace hx440_0 := (HB.out.cell (World.block_lt_of_cell? w _ hx440_0)).trans hx440_0
                          replace hx440_1 := (HB.out.cell (World.block_lt_of_cell? w _ hx440_1)).trans hx440_1
                          replace hx440_2 := (HB.out.cell (World.block_lt_of_cell? w _ hx440_2)).trans hx440_2
                          replace p440 := eq_true p440
                          replace q440 := eq_true q440
                          have p441 : 0 ≤ (x7_2 : Int) := of_decide_eq_true (by first | (with_reducible assumption) | assumption)
                          have q441 : x7_2 < (x3_1.length : Int) := of_decide_eq_true (by first | (with_reducible assumption) | assumption)
                          obtain ⟨ad441, e441, hx441_0, hx441_1, hx441_2⟩ := at_T58 (Kd.R_reads' HO_3.out).2.2 x7_2 p441 q441
                          cases e441
                          replace p441 := eq_true p441
                          replace q441 := eq_true q441
                          go_wp2_with (first | (go_at_call 84; (with_reducible refine (barqueref09_Order.calls k2 ((rd_T58 l0 x4_1).f0) ((rd_T58 x3_1 x7_2).f0) t442 _ A12.out).mono ?_); rintro e w' ⟨rfl, ⟨nd, rfl⟩⟩; (try first | exact ⟨rfl, _, World.drewN_drewN _ _ _⟩ | exact ⟨rfl, _, Eq.trans (World.drewN_drewN _ _ _) (congrArg (World.drewN _) (Nat.add_assoc _ _ _))⟩); have p451 : 0 ≤ (x7_2 : Int) := of_decide_eq_true (by first | (with_reducible assumption) | assumption); have q451 : x7_2 < (x3_1.length : Int) := of_decide_eq_true (by first | (with_reducible assumption) | assumption); obtain ⟨ad451, e451, hx451_0, hx451_1, hx451_2⟩ := at_T58 (Kd.R_reads' HO_3.out).2.2 x7_2 p451 q451; obtain rfl : ad441 = ad451 := (by injection e451); replace p451 := eq_true p451; replace q451 := eq_true q451) | ((with_reducible refine gate_builtin (b := .append) (xs := #[.tmp 43, .tmp 48]) rfl ?_); at_builtin; refine Kd.R_append k58 (w0 := w) w.heap.size rfl (.tmp 43) (.tmp 48) 29 58 (.agg #[(.string ⟨#[]⟩), (.int .i64 0), (.string ⟨#[]⟩)]) 40 rfl Tryd.underlying29 info58 rfl (by decide) (by omega) u5 x5_2 (⟨(rd_T58 x3_1 x7_2).f0, (rd_T58 x3_1 x7_2).f1, (rd_T58 x3_1 x7_2).f2⟩ : S58) [.string ((rd_T58 x3_1 x7_2).f0), .int .i64 ((rd_T58 x3_1 x7_2).f1), .string ((rd_T58 x3_1 x7_2).f2)] (fun k_ => some k_ ≠ (.slice (some ad441) x3_1.length co20 : Value).ownBlock) (fun _ => False) rfl rfl ?aP (fun _ hk => hk.elim) ?aF ?aO ?aB ?aS ?aL ?_; (case aP => exact k58_mkM _ _ _ (⟨(rd_T58 x3_1 x7_2).f0, (rd_T58 x3_1 x7_2).f1, (rd_T58 x3_1 x7_2).f2⟩ : S58)); (case aB => exact (by repeat (first | (with_reducible first | exact HB.out | apply below_alloc | apply pw_below_drewN | apply below_drew1) | exact HB.out))); (case aF => exact (fun k_ hk => Kd.fresh' (Kd.R_lt (by (with_reducible repeat (first | apply Kd.R_alloc | apply Kd.R_drewN | apply Kd.R_drew)); exact HO_3.out)) k_ hk)); (case aO => exact (by (with_reducible repeat (first | apply Kd.R_alloc | apply Kd.R_drewN | apply Kd.R_drew)); exact HO_5.out)); (case aS => exact (below_size (by repeat (first | (with_reducible first | exact HB.out | apply below_alloc | apply pw_below_drewN | apply below_drew1) | exact HB.out)))); (case aL => have := LMc19.out; omega); intro v453 w21 ho hb hg hat; rw [← Ny452.out] at ho; have n0_ := Aside0.mk (Kd.R_after (ok := (fun _ => True)) (by (with_reducible repeat (first | apply Kd.R_alloc | apply Kd.R_drewN | apply Kd.R_drew)); exact Kd.R_mono HO_3.out (fun _ hk => ⟨trivial, hk⟩)) hg hat); have n1_ := Aside0.mk (hb); have n2_ := Aside0.mk (ho); clear HO_3; clear HB; clear HO_5; have HO_3 := n0_; have HB := n1_; have HO454 := n2_; clear n0_ n1_ n2_; clear ho hb hg hat))
                          repeat (go_quiet (first | (go_at_call 84; (with_reducible refine (barqueref09_Order.calls k2 ((rd_T58 l0 x4_1).f0) ((rd_T58 x3_1 x7_2).f0) t442 _ A12.out).mono ?_); rintro e w' ⟨rfl, ⟨nd, rfl⟩⟩; (try first | exact ⟨rfl, _, World.drewN_drewN _ _ _⟩ | exact ⟨rfl, _, Eq.trans (World.drewN_drewN _ _ _) (congrArg (World.drewN _) (Nat.add_assoc _ _ _))⟩); have p451 : 0 ≤ (x7_2 : Int) := of_decide_eq_true (by first | (with_reducible assumption) | assumption); have q451 : x7_2 < (x3_1.length : Int) := of_decide_eq_true (by first | (with_reducible assumption) | assumption); obtain ⟨ad451, e451, hx451_0, hx451_1, hx451_2⟩ := at_T58 (Kd.R_reads' HO_3.out).2.2 x7_2 p451 q451; obtain rfl : ad441 = ad451 := (by injection e451); replace p451 := eq_true p451; replace q451 := eq_true q451) | ((with_reducible refine gate_builtin (b := .append) (xs := #[.tmp 43, .tmp 48]) rfl ?_); at_builtin; refine Kd.R_append k58 (w0 := w) w.heap.size rfl (.tmp 43) (.tmp 48) 29 58 (.agg #[(.string ⟨#[]⟩), (.int .i64 0), (.string ⟨#[]⟩)]) 40 rfl Tryd.underlying29 info58 rfl (by decide) (by omega) u5 x5_2 (⟨(rd_T58 x3_1 x7_2).f0, (rd_T58 x3_1 x7_2).f1, (rd_T58 x3_1 x7_2).f2⟩ : S58) [.string ((rd_T58 x3_1 x7_2).f0), .int .i64 ((rd_T58 x3_1 x7_2).f1), .string ((rd_T58 x3_1 x7_2).f2)] (fun k_ => some k_ ≠ (.slice (some ad441) x3_1.length co20 : Value).ownBlock) (fun _ => False) rfl rfl ?aP (fun _ hk => hk.elim) ?aF ?aO ?aB ?aS ?aL ?_; (case aP => exact k58_mkM _ _ _ (⟨(rd_T58 x3_1 x7_2).f0, (rd_T58 x3_1 x7_2).f1, (rd_T58 x3_1 x7_2).f2⟩ : S58)); (case aB => exact (by repeat (first | (with_reducible first | exact HB.out | apply below_alloc | apply pw_below_drewN | apply below_drew1) | exact HB.out))); (case aF => exact (fun k_ hk => Kd.fresh' (Kd.R_lt (by (with_reducible repeat (first | apply Kd.R_alloc | apply Kd.R_drewN | apply Kd.R_drew)); exact HO_3.out)) k_ hk)); (case aO => exact (by (with_reducible repeat (first | apply Kd.R_alloc | apply Kd.R_drewN | apply Kd.R_drew)); exact HO_5.out)); (case aS => exact (below_size (by repeat (first | (with_reducible first | exact HB.out | apply below_alloc | apply pw_below_drewN | apply below_drew1) | exact HB.out)))); (case aL => have := LMc19.out; omega); intro v453 w21 ho hb hg hat; rw [← Ny452.out] at ho; have n0_ := Aside0.mk (Kd.R_after (ok := (fun _ => True)) (by (with_reducible repeat (first | apply Kd.R_alloc | apply Kd.R_drewN | apply Kd.R_drew)); exact Kd.R_mono HO_3.out (fun _ hk => ⟨trivial, hk⟩)) hg hat); have n1_ := Aside0.mk (hb); have n2_ := Aside0.mk (ho); clear HO_3; clear HB; clear HO_5; have HO_3 := n0_; have HB := n1_; have HO454 := n2_; clear n0_ n1_ n2_; clear ho hb hg hat)); try go_wp2_with (first | (go_at_call 84; (with_reducible refine (barqueref09_Order.calls k2 ((rd_T58 l0 x4_1).f0) ((rd_T58 x3_1 x7_2).f0) t442 _ A12.out).mono ?_); rintro e w' ⟨rfl, ⟨nd, rfl⟩⟩; (try first | exact ⟨rfl, _, World.drewN_drewN _ _ _⟩ | exact ⟨rfl, _, Eq.trans (World.drewN_drewN _ _ _) (congrArg (World.drewN _) (Nat.add_assoc _ _ _))⟩); have p451 : 0 ≤ (x7_2 : Int) := of_decide_eq_true (by first | (with_reducible assumption) | assumption); have q451 : x7_2 < (x3_1.length : Int) := of_decide_eq_true (by first | (with_reducible assumption) | assumption); obtain ⟨ad451, e451, hx451_0, hx451_1, hx451_2⟩ := at_T58 (Kd.R_reads' HO_3.out).2.2 x7_2 p451 q451; obtain rfl : ad441 = ad451 := (by injection e451); replace p451 := eq_true p451; replace q451 := eq_true q451) | ((with_reducible refine gate_builtin (b := .append) (xs := #[.tmp 43, .tmp 48]) rfl ?_); at_builtin; refine Kd.R_append k58 (w0 := w) w.heap.size rfl (.tmp 43) (.tmp 48) 29 58 (.agg #[(.string ⟨#[]⟩), (.int .i64 0), (.string ⟨#[]⟩)]) 40 rfl Tryd.underlying29 info58 rfl (by decide) (by omega) u5 x5_2 (⟨(rd_T58 x3_1 x7_2).f0, (rd_T58 x3_1 x7_2).f1, (rd_T58 x3_1 x7_2).f2⟩ : S58) [.string ((rd_T58 x3_1 x7_2).f0), .int .i64 ((rd_T58 x3_1 x7_2).f1), .string ((rd_T58 x3_1 x7_2).f2)] (fun k_ => some k_ ≠ (.slice (some ad441) x3_1.length co20 : Value).ownBlock) (fun _ => False) rfl rfl ?aP (fun _ hk => hk.elim) ?aF ?aO ?aB ?aS ?aL ?_; (case aP => exact k58_mkM _ _ _ (⟨(rd_T58 x3_1 x7_2).f0, (rd_T58 x3_1 x7_2).f1, (rd_T58 x3_1 x7_2).f2⟩ : S58)); (case aB => exact (by repeat (first | (with_reducible first | exact HB.out | apply below_alloc | apply pw_below_drewN | apply below_drew1) | exact HB.out))); (case aF => exact (fun k_ hk => Kd.fresh' (Kd.R_lt (by (with_reducible repeat (first | apply Kd.R_alloc | apply Kd.R_drewN | apply Kd.R_drew)); exact HO_3.out)) k_ hk)); (case aO => exact (by (with_reducible repeat (first | apply Kd.R_alloc | apply Kd.R_drewN | apply Kd.R_drew)); exact HO_5.out)); (case aS => exact (below_size (by repeat (first | (with_reducible first | exact HB.out | apply below_alloc | apply pw_below_drewN | apply below_drew1) | exact HB.out)))); (case aL => have := LMc19.out; omega); intro v453 w21 ho hb hg hat; rw [← Ny452.out] at ho; have n0_ := Aside0.mk (Kd.R_after (ok := (fun _ => True)) (by (with_reducible repeat (first | apply Kd.R_alloc | apply Kd.R_drewN | apply Kd.R_drew)); exact Kd.R_mono HO_3.out (fun _ hk => ⟨trivial, hk⟩)) hg hat); have n1_ := Aside0.mk (hb); have n2_ := Aside0.mk (ho); clear HO_3; clear HB; clear HO_5; have HO_3 := n0_; have HB := n1_; have HO454 := n2_; clear n0_ n1_ n2_; clear ho hb hg hat)))
                          go_roundg k2
                          case measure => have := HK1.out; have := HK2.out; omega
                          case rel => exact ⟨(y452), (false), (wrap64 (x7_2 + 1)), (by first | rfl | (simp; done) | (simp [*]; done)), (by first | rfl | (simp; done) | (simp [*]; done)), H', ⟨by have := HK1.out; have := HK2.out; omega⟩, ⟨by (with_reducible repeat (first | apply Kd.R_alloc | apply Kd.R_drewN | apply Kd.R_drew)); exact Kd.R_mono HO_3.out (fun _ hk => hk.2)⟩, ⟨by (with_reducible repeat (first | apply Kd.R_alloc | apply Kd.R_drewN | apply Kd.R_drew)); exact HO454.out⟩, ⟨by repeat (first | (with_reducible first | exact HB.out | apply below_alloc | apply pw_below_drewN | apply below_drew1) | exact HB.out)⟩⟩
                        · rw [if_neg c19] at H
                          exact absurd H (by simp)
                    · rw [if_neg c11] at H
                      exact absurd H (by simp)
                  · rw [if_neg c10] at H
                    exact absurd H (by simp)
                · rw [if_neg c9] at H
                  exact absurd H (by simp)
            · rw [if_neg c3] at H
              have c3b0 : decide (x7_2 < (x3_1.length : Int)) = false := decide_eq_false c3
              clear c3
              by_cases c22 : x6_2 = true
              · subst c22
                have H1 : (barqueref09_Sort.l0 k2 l0 x5_2 (wrap64 (x4_1 + 1))) = some r := by rw [if_pos rfl] at H; exact H
                clear H
                have H := H1
                clear H1
                have H' := Aside0.mk H
                clear H
                obtain ⟨Ao23, co23, eo23⟩ := Kd.R_slice HO_3.out
                subst eo23
                go_wp2
                repeat (go_quiet (fail); try go_wp2)
                go_roundg k2
                case measure => have := HK1.out; have := HK2.out; omega
                case rel => exact ⟨(x5_2), (wrap64 (x4_1 + 1)), (by first | rfl | (simp; done) | (simp [*]; done)), H', ⟨by have := HK1.out; have := HK2.out; omega⟩, ⟨by (with_reducible repeat (first | apply Kd.R_alloc | apply Kd.R_drewN | apply Kd.R_drew)); exact Kd.R_mono HO_5.out (fun _ hk => trivial)⟩, ⟨by repeat (first | (with_reducible first | exact HB.out | apply below_alloc | apply pw_below_drewN | apply below_drew1) | exact HB.out)⟩⟩
              · replace c22 := Bool.eq_false_iff.mpr c22
                subst c22
                have H1 : (if 0 ≤ x4_1 then (if x4_1 < (l0.length : Int) then (if x5_2.length < 3518437208883 then (barqueref09_Sort.l0 k2 l0 (x5_2 ++ [(⟨(rd_T58 l0 x4_1).f0, (rd_T58 l0 x4_1).f1, (rd_T58 l0 x4_1).f2⟩ : S58)]) (wrap64 (x4_1 + 1))) else (none)) else (none)) else (none)) = some r := by rw [if_neg (show ¬ (false = true) by decide)] at H; exact H
                clear H
                have H := H1
                clear H1
                by_cases c24 : 0 ≤ x4_1
                · rw [if_pos c24] at H
                  have c24b0 : decide (0 ≤ x4_1) = true := decide_eq_true c24
                  clear c24
                  by_cases c25 : x4_1 < (l0.length : Int)
                  · rw [if_pos c25] at H
                    have c25b0 : decide (x4_1 < (l0.length : Int)) = true := decide_eq_true c25
                    clear c25
                    by_cases c26 : x5_2.length < 3518437208883
                    · rw [if_pos c26] at H
                      have LMc26 := Aside0.mk c26
                      clear c26
                      obtain ⟨y456, hy456⟩ : ∃ y_ : List (S58), y_ = (x5_2 ++ [(⟨(rd_T58 l0 x4_1).f0, (rd_T58 l0 x4_1).f1, (rd_T58 l0 x4_1).f2⟩ : S58)]) := ⟨_, rfl⟩
                      replace H : (barqueref09_Sort.l0 k2 l0 y456 (wrap64 (x4_1 + 1))) = some r := by first | (rw [hy456]; with_reducible exact H) | (have H2_ := (Option.bind_some _ _).symm.trans H; rw [hy456]; with_reducible exact H2_) | (have H2_ := (Option.bind_some _ _).symm.trans H; with_reducible exact H2_) | with_reducible exact H | (rw [hy456]; exact H) | exact H
                      have Ny456 := Aside0.mk hy456
                      clear hy456
                      have H' := Aside0.mk H
                      clear H
                      obtain ⟨Ao27, co27, eo27⟩ := Kd.R_slice HO_3.out
                      subst eo27
                      have p455 : 0 ≤ (x4_1 : Int) := of_decide_eq_true (by first | (with_reducible assumption) | assumption)
                      have q455 : x4_1 < (l0.length : Int) := of_decide_eq_true (by first | (with_reducible assumption) | assumption)
                      obtain ⟨ad455, e455, hx455_0, hx455_1, hx455_2⟩ := at_T58 HR0.out x4_1 p455 q455
                      cases e455
                      replace hx455_0 := (HB.out.cell (World.block_lt_of_cell? w _ hx455_0)).trans hx455_0
                      replace hx455_1 := (HB.out.cell (World.block_lt_of_cell? w _ hx455_1)).trans hx455_1
                      replace hx455_2 := (HB.out.cell (World.block_lt_of_cell? w _ hx455_2)).trans hx455_2
                      replace p455 := eq_true p455
                      replace q455 := eq_true q455
                      go_wp2_with (first | ((with_reducible refine gate_builtin (b := .append) (xs := #[.tmp 52, .tmp 57]) rfl ?_); at_builtin; refine Kd.R_append k58 (w0 := w) w.heap.size rfl (.tmp 52) (.tmp 57) 29 58 (.agg #[(.string ⟨#[]⟩), (.int .i64 0), (.string ⟨#[]⟩)]) 40 rfl Tryd.underlying29 info58 rfl (by decide) (by omega) u5 x5_2 (⟨(rd_T58 l0 x4_1).f0, (rd_T58 l0 x4_1).f1, (rd_T58 l0 x4_1).f2⟩ : S58) [.string ((rd_T58 l0 x4_1).f0), .int .i64 ((rd_T58 l0 x4_1).f1), .string ((rd_T58 l0 x4_1).f2)] (fun k_ => some k_ ≠ (.slice Ao27 x3_1.length co27 : Value).ownBlock) (fun _ => False) rfl rfl ?aP (fun _ hk => hk.elim) ?aF ?aO ?aB ?aS ?aL ?_; (case aP => exact k58_mkM _ _ _ (⟨(rd_T58 l0 x4_1).f0, (rd_T58 l0 x4_1).f1, (rd_T58 l0 x4_1).f2⟩ : S58)); (case aB => exact (by repeat (first | (with_reducible first | exact HB.out | apply below_alloc | apply pw_below_drewN | apply below_drew1) | exact HB.out))); (case aF => exact (fun k_ hk => Kd.fresh' (Kd.R_lt (by (with_reducible repeat (first | apply Kd.R_alloc | apply Kd.R_drewN | apply Kd.R_drew)); exact HO_3.out)) k_ hk)); (case aO => exact (by (with_reducible repeat (first | apply Kd.R_alloc | apply Kd.R_drewN | apply Kd.R_drew)); exact HO_5.out)); (case aS => exact (below_size (by repeat (first | (with_reducible first | exact HB.out | apply below_alloc | apply pw_below_drewN | apply below_drew1) | exact HB.out)))); (case aL => have := LMc26.out; omega); intro v457 w28 ho hb hg hat; rw [← Ny456.out] at ho; have n0_ := Aside0.mk (Kd.R_after (ok := (fun _ => True)) (by (with_reducible repeat (first | apply Kd.R_alloc | apply Kd.R_drewN | apply Kd.R_drew)); exact Kd.R_mono HO_3.out (fun _ hk => ⟨trivial, hk⟩)) hg hat); have n1_ := Aside0.mk (hb); have n2_ := Aside0.mk (ho); clear HO_3; clear HB; clear HO_5; have HO_3 := n0_; have HB := n1_; have HO458 := n2_; clear n0_ n1_ n2_; clear ho hb hg hat))
                      repeat (go_quiet (first | ((with_reducible refine gate_builtin (b := .append) (xs := #[.tmp 52, .tmp 57]) rfl ?_); at_builtin; refine Kd.R_append k58 (w0 := w) w.heap.size rfl (.tmp 52) (.tmp 57) 29 58 (.agg #[(.string ⟨#[]⟩), (.int .i64 0), (.string ⟨#[]⟩)]) 40 rfl Tryd.underlying29 info58 rfl (by decide) (by omega) u5 x5_2 (⟨(rd_T58 l0 x4_1).f0, (rd_T58 l0 x4_1).f1, (rd_T58 l0 x4_1).f2⟩ : S58) [.string ((rd_T58 l0 x4_1).f0), .int .i64 ((rd_T58 l0 x4_1).f1), .string ((rd_T58 l0 x4_1).f2)] (fun k_ => some k_ ≠ (.slice Ao27 x3_1.length co27 : Value).ownBlock) (fun _ => False) rfl rfl ?aP (fun _ hk => hk.elim) ?aF ?aO ?aB ?aS ?aL ?_; (case aP => exact k58_mkM _ _ _ (⟨(rd_T58 l0 x4_1).f0, (rd_T58 l0 x4_1).f1, (rd_T58 l0 x4_1).f2⟩ : S58)); (case aB => exact (by repeat (first | (with_reducible first | exact HB.out | apply below_alloc | apply pw_below_drewN | apply below_drew1) | exact HB.out))); (case aF => exact (fun k_ hk => Kd.fresh' (Kd.R_lt (by (with_reducible repeat (first | apply Kd.R_alloc | apply Kd.R_drewN | apply Kd.R_drew)); exact HO_3.out)) k_ hk)); (case aO => exact (by (with_reducible repeat (first | apply Kd.R_alloc | apply Kd.R_drewN | apply Kd.R_drew)); exact HO_5.out)); (case aS => exact (below_size (by repeat (first | (with_reducible first | exact HB.out | apply below_alloc | apply pw_below_drewN | apply below_drew1) | exact HB.out)))); (case aL => have := LMc26.out; omega); intro v457 w28 ho hb hg hat; rw [← Ny456.out] at ho; have n0_ := Aside0.mk (Kd.R_after (ok := (fun _ => True)) (by (with_reducible repeat (first | apply Kd.R_alloc | apply Kd.R_drewN | apply Kd.R_drew)); exact Kd.R_mono HO_3.out (fun _ hk => ⟨trivial, hk⟩)) hg hat); have n1_ := Aside0.mk (hb); have n2_ := Aside0.mk (ho); clear HO_3; clear HB; clear HO_5; have HO_3 := n0_; have HB := n1_; have HO458 := n2_; clear n0_ n1_ n2_; clear ho hb hg hat)); try go_wp2_with (first | ((with_reducible refine gate_builtin (b := .append) (xs := #[.tmp 52, .tmp 57]) rfl ?_); at_builtin; refine Kd.R_append k58 (w0 := w) w.heap.size rfl (.tmp 52) (.tmp 57) 29 58 (.agg #[(.string ⟨#[]⟩), (.int .i64 0), (.string ⟨#[]⟩)]) 40 rfl Tryd.underlying29 info58 rfl (by decide) (by omega) u5 x5_2 (⟨(rd_T58 l0 x4_1).f0, (rd_T58 l0 x4_1).f1, (rd_T58 l0 x4_1).f2⟩ : S58) [.string ((rd_T58 l0 x4_1).f0), .int .i64 ((rd_T58 l0 x4_1).f1), .string ((rd_T58 l0 x4_1).f2)] (fun k_ => some k_ ≠ (.slice Ao27 x3_1.length co27 : Value).ownBlock) (fun _ => False) rfl rfl ?aP (fun _ hk => hk.elim) ?aF ?aO ?aB ?aS ?aL ?_; (case aP => exact k58_mkM _ _ _ (⟨(rd_T58 l0 x4_1).f0, (rd_T58 l0 x4_1).f1, (rd_T58 l0 x4_1).f2⟩ : S58)); (case aB => exact (by repeat (first | (with_reducible first | exact HB.out | apply below_alloc | apply pw_below_drewN | apply below_drew1) | exact HB.out))); (case aF => exact (fun k_ hk => Kd.fresh' (Kd.R_lt (by (with_reducible repeat (first | apply Kd.R_alloc | apply Kd.R_drewN | apply Kd.R_drew)); exact HO_3.out)) k_ hk)); (case aO => exact (by (with_reducible repeat (first | apply Kd.R_alloc | apply Kd.R_drewN | apply Kd.R_drew)); exact HO_5.out)); (case aS => exact (below_size (by repeat (first | (with_reducible first | exact HB.out | apply below_alloc | apply pw_below_drewN | apply below_drew1) | exact HB.out)))); (case aL => have := LMc26.out; omega); intro v457 w28 ho hb hg hat; rw [← Ny456.out] at ho; have n0_ := Aside0.mk (Kd.R_after (ok := (fun _ => True)) (by (with_reducible repeat (first | apply Kd.R_alloc | apply Kd.R_drewN | apply Kd.R_drew)); exact Kd.R_mono HO_3.out (fun _ hk => ⟨trivial, hk⟩)) hg hat); have n1_ := Aside0.mk (hb); have n2_ := Aside0.mk (ho); clear HO_3; clear HB; clear HO_5; have HO_3 := n0_; have HB := n1_; have HO458 := n2_; clear n0_ n1_ n2_; clear ho hb hg hat)))
                      go_roundg k2
                      case measure => have := HK1.out; have := HK2.out; omega
                      case rel => exact ⟨(y456), (wrap64 (x4_1 + 1)), (by first | rfl | (simp; done) | (simp [*]; done)), H', ⟨by have := HK1.out; have := HK2.out; omega⟩, ⟨by (with_reducible repeat (first | apply Kd.R_alloc | apply Kd.R_drewN | apply Kd.R_drew)); exact Kd.R_mono HO458.out (fun _ hk => trivial)⟩, ⟨by repeat (first | (with_reducible first | exact HB.out | apply below_alloc | apply pw_below_drewN | apply below_drew1) | exact HB.out)⟩⟩
                    · rw [if_neg c26] at H
                      exact absurd H (by simp)
                  · rw [if_neg c25] at H
                    exact absurd H (by simp)
                · rw [if_neg c24] at H
                  exact absurd H (by simp)
      · rw [if_neg c2] at H
        have c2b0 : decide (x4_1 < (l0.length : Int)) = false := decide_eq_false c2
        clear c2
        obtain rfl := Option.some.inj H
        go_wp2
        repeat (go_quiet (fail); try go_wp2)
        go_ret
        exact ⟨_, by first | rfl | (simp [errW_none, errW_some] <;> rfl) | (simp [*, errW_none, errW_some] <;> rfl), by (with_reducible repeat (first | apply Kd.R_alloc | apply Kd.R_drewN | apply Kd.R_drew)); exact HO_3.out, by repeat (first | (with_reducible first | exact HB.out | apply below_alloc | apply pw_below_drewN | apply below_drew1) | exact HB.out)⟩
end Go.Proofs.YtafjlibcdlihcaaDoor.G
end
section
namespace Go.Proofs.YtafjlibcdlihcaaDoor.G
open Go.RowKit Go.Proofs.YtafjlibcdlihcaaDoorW.PrintWords Go.Proofs.YtafjlibcdlihcaaDoorW.PrintLast Go.Proofs.YtafjlibcdlihcaaDoorW.PrintMore
set_option linter.unusedVariables false
set_option linter.unusedSimpArgs false
abbrev keyF (x : S58) : ByteArray := x.f0
theorem sort_done (l out : List S58) (i : Nat) (hi : i < l.length) (hl : l.length ≤ 4294967296) (ho : out.length ≤ 4294967296) (r : List S58) : ∀ (d j : Nat) (nx : List S58), out.length - j = d → j ≤ out.length → nx.length ≤ j + 1 →
    Ev (fun k => barqueref09_Sort.l0 k l (nx ++ out.drop j) ((i + 1 : Nat) : Int)) r → Ev (fun k => barqueref09_Sort.l1 k l out i nx true j) r := by
  have hwi : wrap64 ((i : Int) + 1) = ((i + 1 : Nat) : Int) := by rw [w64_ (by omega) (by omega)]; omega
  intro d
  induction d with
  | zero =>
    intro j nx hd hj hn h
    have e : j = out.length := by omega
    subst e
    apply Ev.step
    · intro k; rw [barqueref09_Sort.l1]
    have c1 : ¬ ((out.length : Int) < (out.length : Int)) := by omega
    simp only [c1, ↓reduceIte, hwi]
    rw [List.drop_eq_nil_of_le (Nat.le_refl _), List.append_nil] at h
    exact h
  | succ d ih =>
    intro j nx hd hj hn h
    have hlt : j < out.length := by omega
    apply Ev.step
    · intro k; rw [barqueref09_Sort.l1]
    have c1 : ((j : Int) < (out.length : Int)) := by omega
    have c2 : (0 : Int) ≤ (j : Int) := by omega
    have c3 : nx.length < 3518437208883 := by omega
    have hw : wrap64 ((j : Int) + 1) = ((j + 1 : Nat) : Int) := by rw [w64_ (by omega) (by omega)]; omega
    simp only [c1, c2, c3, ↓reduceIte, rdF_nat out j hlt, hw]
    refine ih (j + 1) _ (by omega) (by omega) (by rw [List.length_append, List.length_singleton]; omega) ?_
    rw [List.append_assoc, List.singleton_append, ← List.drop_eq_getElem_cons hlt]
    exact h
theorem fold_length (l : List S58) : ∀ acc : List S58, (l.foldl (fun a x => insK keyF x a) acc).length = acc.length + l.length := by
  induction l with
  | nil => intro acc; rfl
  | cons x l ih =>
    intro acc
    rw [List.foldl_cons, ih, insK_length, List.length_cons]
    omega
theorem fold_mem (l : List S58) : ∀ (acc : List S58) (y : S58), y ∈ l.foldl (fun a x => insK keyF x a) acc → y ∈ acc ∨ y ∈ l := by
  induction l with
  | nil => intro acc y h; exact .inl h
  | cons x l ih =>
    intro acc y h
    rw [List.foldl_cons] at h
    rcases ih _ y h with h | h
    · rcases (insK_mem keyF x y acc).1 h with h | h
      · exact .inr (by rw [h]; exact List.mem_cons_self)
      · exact .inl h
    · exact .inr (List.mem_cons_of_mem _ h)
end Go.Proofs.YtafjlibcdlihcaaDoor.G
end
section
namespace Go.Proofs.YtafjlibcdlihcaaDoor.G
open Go.RowKit Go.Proofs.YtafjlibcdlihcaaDoorW.PrintWords Go.Proofs.YtafjlibcdlihcaaDoorW.PrintLast Go.Proofs.YtafjlibcdlihcaaDoorW.PrintMore
set_option linter.unusedVariables false
set_option linter.unusedSimpArgs false
theorem order_l0W (a b : ByteArray) (ha : a.size ≤ 9223372036854775807) (hb : b.size ≤ 9223372036854775807) (m : Nat) (hm : m = min a.size b.size) : ∀ (d i : Nat), m - i = d → i ≤ m →
    a.data.toList.take i = b.data.toList.take i →
    Ev (fun k => tree_Order.l0 k a b m i) (ordV (a.data.toList.drop i) (b.data.toList.drop i)) := by
  intro d
  induction d with
  | zero =>
    intro i hd hi hp
    have e : i = m := by omega
    clear hd hi hp
    subst e
    apply Ev.step
    · intro k; rw [tree_Order.l0]
    have c1 : ¬ ((i : Int) < (i : Int)) := by omega
    simp only [c1, ↓reduceIte]
    rw [w64_ (by omega) (by omega)]
    have hv : ordV (a.data.toList.drop i) (b.data.toList.drop i) = (a.size : Int) - (b.size : Int) := by
      by_cases h : a.size ≤ b.size
      · have e2 : i = a.size := by omega
        rw [show a.data.toList.drop i = [] from List.drop_eq_nil_of_le (by rw [sz_]; omega), ordV, List.length_drop, sz_]
        omega
      · have e2 : i = b.size := by omega
        rw [show b.data.toList.drop i = [] from List.drop_eq_nil_of_le (by rw [sz_]; omega)]
        have hl : (a.data.toList.drop i).length = a.size - i := by rw [List.length_drop, sz_]
        cases hx : a.data.toList.drop i with
        | nil => rw [hx] at hl; simp at hl; omega
        | cons c x =>
          rw [hx] at hl
          rw [ordV, hl]
          · omega
          · simp
    rw [hv]
    exact Ev.now _
  | succ d ih =>
    intro i hd hi hp
    have hlt : i < m := by omega
    have hia : i < a.size := by omega
    have hib : i < b.size := by omega
    have hla : i < a.data.toList.length := by rw [sz_]; exact hia
    have hlb : i < b.data.toList.length := by rw [sz_]; exact hib
    apply Ev.step
    · intro k; rw [tree_Order.l0]
    have c1 : ((i : Int) < (m : Int)) := by omega
    have c2 : (0 : Int) ≤ (i : Int) := by omega
    have c3 : ((i : Int) < (a.size : Int)) := by omega
    have c4 : ((i : Int) < (b.size : Int)) := by omega
    have hw : wrap64 ((i : Int) + 1) = ((i + 1 : Nat) : Int) := by rw [w64_ (by omega) (by omega)]; omega
    simp only [c1, c2, c3, c4, ↓reduceIte, hw, bt_nat a i hia, bt_nat b i hib]
    rw [List.drop_eq_getElem_cons hla, List.drop_eq_getElem_cons hlb]
    obtain ⟨x, hx⟩ : ∃ x, a.data.toList[i]'hla = x := ⟨_, rfl⟩
    obtain ⟨y, hy⟩ : ∃ y, b.data.toList[i]'hlb = y := ⟨_, rfl⟩
    simp only [hx, hy]
    have bx := x.toNat_lt
    have by_ := y.toNat_lt
    rw [w64_ (i := (x.toNat : Int)) (by omega) (by omega), w64_ (i := (y.toNat : Int)) (by omega) (by omega)]
    unfold ordV
    by_cases h : x = y
    · subst h
      simp only [↓reduceIte]
      refine ih (i + 1) (by omega) (by omega) ?_
      rw [List.take_succ_eq_append_getElem hla, List.take_succ_eq_append_getElem hlb, hp, hx, hy]
    · have h' : ¬ ((x.toNat : Int) = (y.toNat : Int)) := fun e => h (UInt8.toNat_inj.1 (Int.ofNat.inj e))
      simp only [h, h', ↓reduceIte]
      have e47 : ∀ c : UInt8, ((c.toNat : Int) = 47) ↔ c = 47 := fun c => ⟨fun e => UInt8.toNat_inj.1 (Int.ofNat.inj e), fun e => by rw [e]; rfl⟩
      simp only [e47]
      by_cases h1 : x = 47
      · simp only [h1, ↓reduceIte]; exact Ev.now _
      · by_cases h2 : y = 47
        · simp only [h1, h2, ↓reduceIte]; exact Ev.now _
        · simp only [h1, h2, ↓reduceIte]
          rw [w64_ (by omega) (by omega)]
          exact Ev.now _
theorem order_evW (a b : ByteArray) (ha : a.size ≤ 9223372036854775807) (hb : b.size ≤ 9223372036854775807) : Ev (fun k => tree_Order.f k a b) (ordV a.data.toList b.data.toList) := by
  unfold tree_Order.f
  have hm : mn (a.size : Int) (b.size : Int) = ((min a.size b.size : Nat) : Int) := by
    unfold mn
    split <;> omega
  rw [hm]
  have h := order_l0W a b ha hb (min a.size b.size) rfl (min a.size b.size) 0 (by omega) (by omega) rfl
  simpa using h
theorem reforder_l0W (a b : ByteArray) (ha : a.size ≤ 9223372036854775807) (hb : b.size ≤ 9223372036854775807) : ∀ (d i : Nat), max a.size b.size - i = d →
    i ≤ 9223372036854775807 → Ev (fun k => barqueref09_Order.l0 k a b i) (cmpL (a.data.toList.drop i) (b.data.toList.drop i)) := by
  intro d
  induction d with
  | zero =>
    intro i hd hi
    apply Ev.step
    · intro k; rw [barqueref09_Order.l0]
    have c1 : ¬ ((i : Int) < (a.size : Int)) := by omega
    have c2 : decide ((i : Int) < (b.size : Int)) = false := by simp; omega
    simp only [c1, c2, ↓reduceIte]
    rw [show a.data.toList.drop i = [] from List.drop_eq_nil_of_le (by rw [sz_]; omega), show b.data.toList.drop i = [] from List.drop_eq_nil_of_le (by rw [sz_]; omega)]
    apply Ev.step
    · intro k; rw [barqueref09_Order.j1]
    simp only [Bool.false_eq_true, ↓reduceIte]
    exact Ev.now _
  | succ d ih =>
    intro i hd hi
    have main : Ev (fun k => barqueref09_Order.j1 k a b i true) (cmpL (a.data.toList.drop i) (b.data.toList.drop i)) := by
      apply reforder_j1
      apply Ev.step
      · intro k; rw [barqueref09_Order.j3]
      have hw : wrap64 ((i : Int) + 1) = ((i + 1 : Nat) : Int) := by rw [w64_ (by omega) (by omega)]; omega
      rw [hw]
      by_cases h1 : i < a.size <;> by_cases h2 : i < b.size
      · have hla : i < a.data.toList.length := by rw [sz_]; exact h1
        have hlb : i < b.data.toList.length := by rw [sz_]; exact h2
        rw [keyI_in a i h1, keyI_in b i h2]
        have hih := ih (i + 1) (by omega) (by omega)
        rw [List.drop_eq_getElem_cons hla, List.drop_eq_getElem_cons hlb]
        obtain ⟨x, hx⟩ : ∃ x, a.data.toList[i]'hla = x := ⟨_, rfl⟩
        obtain ⟨y, hy⟩ : ∃ y, b.data.toList[i]'hlb = y := ⟨_, rfl⟩
        rw [hx, hy]
        unfold cmpL
        by_cases he : x = y
        · subst he
          have c1 : ¬ ((keyB x : Int) < (keyB x : Int)) := by omega
          have c2 : ¬ ((keyB x : Int) > (keyB x : Int)) := by omega
          simp only [c1, c2, ↓reduceIte]
          exact hih
        · have hk : keyB x ≠ keyB y := fun e => he (keyB_inj e)
          by_cases h3 : keyB x < keyB y
          · have c1 : ((keyB x : Int) < (keyB y : Int)) := by omega
            simp only [c1, he, h3, ↓reduceIte]
            exact Ev.now _
          · have c1 : ¬ ((keyB x : Int) < (keyB y : Int)) := by omega
            have c2 : ((keyB x : Int) > (keyB y : Int)) := by omega
            simp only [c1, c2, he, h3, ↓reduceIte]
            exact Ev.now _
      · have hla : i < a.data.toList.length := by rw [sz_]; exact h1
        rw [keyI_in a i h1, keyI_out b i h2, List.drop_eq_getElem_cons hla, show b.data.toList.drop i = [] from List.drop_eq_nil_of_le (by rw [sz_]; omega), cmpL]
        have c1 : ¬ ((keyB (a.data.toList[i]'hla) : Int) < -1) := by omega
        have c2 : ((keyB (a.data.toList[i]'hla) : Int) > -1) := by omega
        simp only [c1, c2, ↓reduceIte]
        exact Ev.now _
      · have hlb : i < b.data.toList.length := by rw [sz_]; exact h2
        rw [keyI_out a i h1, keyI_in b i h2, List.drop_eq_getElem_cons hlb, show a.data.toList.drop i = [] from List.drop_eq_nil_of_le (by rw [sz_]; omega), cmpL]
        have c1 : ((-1 : Int) < (keyB (b.data.toList[i]'hlb) : Int)) := by omega
        simp only [c1, ↓reduceIte]
        exact Ev.now _
      · omega
    apply Ev.step
    · intro k; rw [barqueref09_Order.l0]
    by_cases h1 : i < a.size
    · have c1 : ((i : Int) < (a.size : Int)) := by omega
      simp only [c1, ↓reduceIte]
      exact main
    · have c1 : ¬ ((i : Int) < (a.size : Int)) := by omega
      have c2 : decide ((i : Int) < (b.size : Int)) = true := by simp; omega
      simp only [c1, c2, ↓reduceIte]
      exact main
theorem reforder_evW (a b : ByteArray) (ha : a.size ≤ 9223372036854775807) (hb : b.size ≤ 9223372036854775807) : Ev (fun k => barqueref09_Order.f k a b) (cmpL a.data.toList b.data.toList) := by
  unfold barqueref09_Order.f
  have h := reforder_l0W a b ha hb _ 0 rfl (by omega)
  simpa using h
theorem sort_findW (l out : List S58) (i : Nat) (hi : i < l.length) (hl : l.length ≤ 4294967296) (ho : out.length ≤ 4294967296) (hx : (l[i]'hi).f0.size ≤ 9223372036854775807) (hy : ∀ y ∈ out, y.f0.size ≤ 9223372036854775807) (r : List S58) : ∀ (d j : Nat) (nx : List S58), out.length - j = d → j ≤ out.length → nx.length ≤ j →
    Ev (fun k => barqueref09_Sort.l0 k l (nx ++ insK keyF (l[i]'hi) (out.drop j)) ((i + 1 : Nat) : Int)) r → Ev (fun k => barqueref09_Sort.l1 k l out i nx false j) r := by
  have hwi : wrap64 ((i : Int) + 1) = ((i + 1 : Nat) : Int) := by rw [w64_ (by omega) (by omega)]; omega
  have ci : ((i : Int) < (l.length : Int)) := by omega
  have ci0 : (0 : Int) ≤ (i : Int) := by omega
  intro d
  induction d with
  | zero =>
    intro j nx hd hj hn h
    have e : j = out.length := by omega
    subst e
    apply Ev.step
    · intro k; rw [barqueref09_Sort.l1]
    have c1 : ¬ ((out.length : Int) < (out.length : Int)) := by omega
    have c3 : nx.length < 3518437208883 := by omega
    simp only [c1, ci, ci0, c3, ↓reduceIte, Bool.false_eq_true, hwi, rdF_nat l i hi]
    rw [List.drop_eq_nil_of_le (Nat.le_refl _), insK] at h
    exact h
  | succ d ih =>
    intro j nx hd hj hn h
    have hlt : j < out.length := by omega
    apply Ev.step
    · intro k; rw [barqueref09_Sort.l1]
    have c1 : ((j : Int) < (out.length : Int)) := by omega
    have c2 : (0 : Int) ≤ (j : Int) := by omega
    have c3 : nx.length < 3518437208883 := by omega
    have hw : wrap64 ((j : Int) + 1) = ((j + 1 : Nat) : Int) := by rw [w64_ (by omega) (by omega)]; omega
    simp only [c1, c2, c3, ci, ci0, ↓reduceIte, Bool.false_eq_true, rdF_nat out j hlt, rdF_nat l i hi, hw, Option.bind_some]
    refine Ev.bind (reforder_evW _ _ hx (hy _ (List.getElem_mem hlt))) ?_
    rw [List.drop_eq_getElem_cons hlt, insK] at h
    by_cases c : ltP (l[i]'hi).f0 (out[j]'hlt).f0
    · rw [if_pos c] at h
      have c' : cmpL (l[i]'hi).f0.data.toList (out[j]'hlt).f0.data.toList < 0 := c
      simp only [c', ↓reduceIte]
      have c4' : (nx ++ [({ f0 := (l[i]'hi).f0, f1 := (l[i]'hi).f1, f2 := (l[i]'hi).f2 } : S58)]).length < 3518437208883 := by rw [List.length_append, List.length_singleton]; omega
      simp only [c4', ↓reduceIte]
      clear c4'
      refine sort_done l out i hi hl ho r (out.length - (j + 1)) (j + 1) _ rfl (by omega) (by simp only [List.length_append, List.length_singleton]; omega) ?_
      rw [List.append_assoc, List.append_assoc, List.singleton_append, List.singleton_append]
      exact h
    · rw [if_neg c] at h
      have c' : ¬ cmpL (l[i]'hi).f0.data.toList (out[j]'hlt).f0.data.toList < 0 := c
      simp only [c', ↓reduceIte]
      refine ih (j + 1) _ (by omega) (by omega) (by simp only [List.length_append, List.length_singleton]; omega) ?_
      rw [List.append_assoc, List.singleton_append]
      exact h
theorem refsort_l0W (l : List S58) (hl : l.length ≤ 4294967296) (hs : ∀ x ∈ l, x.f0.size ≤ 9223372036854775807) : ∀ (d i : Nat) (out : List S58), l.length - i = d → i ≤ l.length → out = (l.take i).foldl (fun a x => insK keyF x a) [] →
    Ev (fun k => barqueref09_Sort.l0 k l out i) (sortK keyF l) := by
  intro d
  induction d with
  | zero =>
    intro i out hd hi ho
    have e : i = l.length := by omega
    subst e
    apply Ev.step
    · intro k; rw [barqueref09_Sort.l0]
    have c1 : ¬ ((l.length : Int) < (l.length : Int)) := by omega
    simp only [c1, ↓reduceIte]
    rw [List.take_length] at ho
    rw [ho]
    exact Ev.now _
  | succ d ih =>
    intro i out hd hi ho
    have hlt : i < l.length := by omega
    have hol : out.length = i := by rw [ho, fold_length, List.length_nil, List.length_take]; omega
    apply Ev.step
    · intro k; rw [barqueref09_Sort.l0]
    have c1 : ((i : Int) < (l.length : Int)) := by omega
    simp only [c1, ↓reduceIte]
    refine sort_findW l out i hlt hl (by omega) (hs _ (List.getElem_mem hlt)) (fun y hy => ?_) _ out.length 0 [] (by omega) (by omega) (by simp) ?_
    · rw [ho] at hy
      rcases fold_mem _ _ y hy with h | h
      · simp at h
      · exact hs y (List.mem_of_mem_take h)
    · rw [List.nil_append, List.drop_zero]
      refine ih (i + 1) _ (by omega) (by omega) ?_
      rw [List.take_succ_eq_append_getElem hlt, List.foldl_append, ← ho]
      rfl
theorem refsort_evW (l : List S58) (hl : l.length ≤ 4294967296) (hs : ∀ x ∈ l, x.f0.size ≤ 9223372036854775807) : Ev (fun k => barqueref09_Sort.f k l) (sortK keyF l) := by
  unfold barqueref09_Sort.f
  have h := refsort_l0W l hl hs l.length 0 [] (by omega) (by omega) rfl
  simpa using h
end Go.Proofs.YtafjlibcdlihcaaDoor.G
end
section
namespace Go.Proofs.YtafjlibcdlihcaaDoor.G
open Go.RowKit Go.Proofs.YtafjlibcdlihcaaDoorW.PrintWords Go.Proofs.YtafjlibcdlihcaaDoorW.PrintLast Go.Proofs.YtafjlibcdlihcaaDoorW.PrintMore
attribute [local go_sem] max2_int min2_int max_two min_two max_three min_three max_four min_four   -- for this text's walks alone
set_option linter.unusedVariables false
set_option linter.unusedSimpArgs false
def tree_Sort_1.f (k : Nat) (a0_0 : ByteArray) (a0_1 : Int) (a0_2 : ByteArray) (a1_0 : ByteArray) (a1_1 : Int) (a1_2 : ByteArray) : Option (Int) := (tree_Order.f k a0_0 a1_0).bind fun t761 => (some t761)
theorem tree_Sort_1.mono : ∀ a0 a1 a2 a3 a4 a5 k, LeO (tree_Sort_1.f k a0 a1 a2 a3 a4 a5) (tree_Sort_1.f (k + 1) a0 a1 a2 a3 a4 a5) := by
  intro a0 a1 a2 a3 a4 a5 k
  unfold tree_Sort_1.f
  repeat' first
      | (with_reducible exact tree_Order.mono _ _ _)
      | (with_reducible exact LeO.refl _)
      | (with_reducible exact LeO.none _)
      | (with_reducible refine LeO.ite ?_ ?_)
      | (with_reducible refine LeO.bind ?_ (fun _ => ?_))
      | exact tree_Order.mono _ _ _
      | exact LeO.none _
      | refine LeO.ite ?_ ?_
      | refine LeO.bind ?_ (fun _ => ?_)
set_option maxHeartbeats 8000000 in
set_option maxRecDepth 100000 in
theorem tree_Sort_1.calls (k : Nat) (a0_0 : ByteArray) (a0_1 : Int) (a0_2 : ByteArray) (a1_0 : ByteArray) (a1_1 : Int) (a1_2 : ByteArray) (r : Int) (w : World) (h : tree_Sort_1.f k a0_0 a0_1 a0_2 a1_0 a1_1 a1_2 = some r) :
    Calls Tryd.prog 83 #[.agg #[.string a0_0, .int .i64 a0_1, .string a0_2], .agg #[.string a1_0, .int .i64 a1_1, .string a1_2]] w fun e w' => e = .returned (.int .i64 r) ∧ Below w.heap.size w w' := by
  have hu58 := Tryd.underlying58
  have HB := Aside0.mk (Below.refl w.heap.size w)
  have H : ((tree_Order.f k a0_0 a1_0).bind fun t761 => (some t761)) = some r := h
  clear h
  replace H := Option.bind_eq_some_iff.mp H
  obtain ⟨t761, A30, H⟩ := H
  replace H : (some t761) = some r := H
  have A3 := Aside0.mk A30
  clear A30
  obtain rfl := Option.some.inj H
  go_enter Tryd.func83, Tryd.ntmps83
  go_wp2_with (first | ((with_reducible refine gate_dst (N := 2) rfl ?_); refine box_event ?hg (N := 2) ?hd (cs := #[.string a0_0, .int .i64 a0_1, .string a0_2]) (t := 58) ?hr ?_; (case hd => rfl); (case hg => rfl); (case hr => first | (go_simp; done) | (go_simp; rfl)); intro gb759 hg w4 hbox hb; have n0_ := Aside0.mk (below_step (by repeat (first | (with_reducible first | exact HB.out | apply below_alloc | apply pw_below_drewN | apply below_drew1) | exact HB.out)) hb); have n1_ := Aside0.mk (hbox); have n2_ := Aside0.mk ((by rw [hg]; exact (below_size (by repeat (first | (with_reducible first | exact HB.out | apply below_alloc | apply pw_below_drewN | apply below_drew1) | exact HB.out))) : w.heap.size ≤ gb759)); have n3_ := Aside0.mk ((by rw [hg]; exact (below_size (by repeat (first | (with_reducible first | exact HB.out | apply below_alloc | apply pw_below_drewN | apply below_drew1) | exact HB.out))) : w.heap.size ≤ gb759)); clear HB; have HB := n0_; have BK759 := n1_; have GW759 := n2_; have GE759 := n3_; clear n0_ n1_ n2_ n3_; clear hb hbox hg) | ((with_reducible refine gate_dst (N := 3) rfl ?_); refine box_event ?hg (N := 3) ?hd (cs := #[.string a1_0, .int .i64 a1_1, .string a1_2]) (t := 58) ?hr ?_; (case hd => rfl); (case hg => rfl); (case hr => first | (go_simp; done) | (go_simp; rfl)); intro gb760 hg w5 hbox hb; have n0_ := Aside0.mk (blk_below (g := gb759) (o := .cells #[.string a0_0, .int .i64 a0_1, .string a0_2] 58 (0, 0)) (by (with_reducible repeat (first | refine blk_drewN ?_ _ | refine blk_drew ?_ | refine blk_alloc ?_ _)); exact BK759.out) hb); have n1_ := Aside0.mk (below_step (by repeat (first | (with_reducible first | exact HB.out | apply below_alloc | apply pw_below_drewN | apply below_drew1 | refine below_set ?_ GE759.out) | exact HB.out)) hb); have n2_ := Aside0.mk (hbox); have n3_ := Aside0.mk ((by rw [hg]; exact (below_size (by repeat (first | (with_reducible first | exact HB.out | apply below_alloc | apply pw_below_drewN | apply below_drew1 | refine below_set ?_ GE759.out) | exact HB.out))) : w.heap.size ≤ gb760)); have n4_ := Aside0.mk ((by rw [hg]; exact (below_size (by repeat (first | (with_reducible first | exact HB.out | apply below_alloc | apply pw_below_drewN | apply below_drew1 | refine below_set ?_ GE759.out) | exact HB.out))) : w.heap.size ≤ gb760)); have n5_ := Aside0.mk ((by rw [hg]; exact Nat.ne_of_lt (blk_lt (g := gb759) (o := .cells #[.string a0_0, .int .i64 a0_1, .string a0_2] 58 (0, 0)) (by (with_reducible repeat (first | refine blk_drewN ?_ _ | refine blk_drew ?_ | refine blk_alloc ?_ _)); exact BK759.out)) : gb759 ≠ gb760)); have n6_ := Aside0.mk ((by rw [hg]; exact Nat.ne_of_gt (blk_lt (g := gb759) (o := .cells #[.string a0_0, .int .i64 a0_1, .string a0_2] 58 (0, 0)) (by (with_reducible repeat (first | refine blk_drewN ?_ _ | refine blk_drew ?_ | refine blk_alloc ?_ _)); exact BK759.out)) : gb760 ≠ gb759)); clear BK759; clear HB; have BK759 := n0_; have HB := n1_; have BK760 := n2_; have GW760 := n3_; have GE760 := n4_; have NB759_760 := n5_; have NB760_759 := n6_; clear n0_ n1_ n2_ n3_ n4_ n5_ n6_; clear hb hbox hg; have hnb6 := NB759_760.out; have hnc6 := NB760_759.out; have hcz7_0 : w5.cell? ⟨gb759, 0, none⟩ = some (.string a0_0) := (blk_cell BK759.out 0).trans rfl; have hcz7_1 : w5.cell? ⟨gb759, 1, none⟩ = some (.int .i64 a0_1) := (blk_cell BK759.out 1).trans rfl; have hcz7_2 : w5.cell? ⟨gb759, 2, none⟩ = some (.string a0_2) := (blk_cell BK759.out 2).trans rfl; have hfz7_0 := blk_frozen BK759.out 0; have hfz7_1 := blk_frozen BK759.out 1; have hfz7_2 := blk_frozen BK759.out 2; have hcz8_0 : w5.cell? ⟨gb760, 0, none⟩ = some (.string a1_0) := (blk_cell BK760.out 0).trans rfl; have hcz8_1 : w5.cell? ⟨gb760, 1, none⟩ = some (.int .i64 a1_1) := (blk_cell BK760.out 1).trans rfl; have hcz8_2 : w5.cell? ⟨gb760, 2, none⟩ = some (.string a1_2) := (blk_cell BK760.out 2).trans rfl; have hfz8_0 := blk_frozen BK760.out 0; have hfz8_1 := blk_frozen BK760.out 1; have hfz8_2 := blk_frozen BK760.out 2) | ((with_reducible refine gate_callee (f := 18) rfl ?_); refine goesL_ (some 9) rfl rfl Tryd.func18 (by kernel_rfl) rfl #[.string a0_0, .string a1_0] rfl (by (try simp only [List.map_toArray, List.map_cons, List.map_nil]); first | done | rfl | (simp only [List.length_drop, List.length_take]; rfl)) ?_; (with_reducible refine (tree_Order.calls k a0_0 a1_0 t761 _ A3.out).mono ?_); rintro e w9 ⟨rfl, hb⟩; refine ⟨_, rfl, ?_⟩; have n0_ := Aside0.mk (blk_below (g := gb759) (o := .cells #[.string a0_0, .int .i64 a0_1, .string a0_2] 58 (0, 0)) (by (with_reducible repeat (first | refine blk_drewN ?_ _ | refine blk_drew ?_ | refine blk_alloc ?_ _)); exact BK759.out) hb); have n1_ := Aside0.mk (blk_below (g := gb760) (o := .cells #[.string a1_0, .int .i64 a1_1, .string a1_2] 58 (0, 0)) (by (with_reducible repeat (first | refine blk_drewN ?_ _ | refine blk_drew ?_ | refine blk_alloc ?_ _)); exact BK760.out) hb); have n2_ := Aside0.mk (below_step (by repeat (first | (with_reducible first | exact HB.out | apply below_alloc | apply pw_below_drewN | apply below_drew1 | refine below_set ?_ GE759.out | refine below_set ?_ GE760.out) | exact HB.out)) hb); clear BK759; clear BK760; clear HB; have BK759 := n0_; have BK760 := n1_; have HB := n2_; clear n0_ n1_ n2_; (try clear hb); (try clear hb2); (try clear hk); (try clear hi)))
  go_ret
  exact ⟨by first | rfl | (simp [errW_none, errW_some] <;> rfl) | (simp [*, errW_none, errW_some] <;> rfl), by repeat (first | (with_reducible first | exact HB.out | apply below_alloc | apply pw_below_drewN | apply below_drew1 | refine below_set ?_ GE759.out | refine below_set ?_ GE760.out) | exact HB.out)⟩
end Go.Proofs.YtafjlibcdlihcaaDoor.G
end
section
namespace Go.Proofs.YtafjlibcdlihcaaDoor.Fnv
open Go.RowKit Go.Proofs.YtafjlibcdlihcaaDoorW.PrintWords Go.Proofs.YtafjlibcdlihcaaDoorW.PrintLast Go.Proofs.YtafjlibcdlihcaaDoorW.PrintMore
set_option linter.unusedVariables false
variable {P : Program} {ops : Array Oper} {Q : Exit → Act → World → Prop}
theorem goesL_ {rest : List Oper} {oi : Oper} {a : Act} {w : World} (s : Tmp) (N : Option Tmp) (hd : oi.dst = N) (hg : oi.guard = none) {f : FuncId} {fn : Func} {xs : Array Operand} {ts : Array TypeId} (hf : P.funcs[f]? = some fn) (hname : (fn.name == "runtime.NumGoroutine") = false) (hb : fn.body.isSome = true) (args : Array Value)
    (hop : oi.op = .call { callee := .value (.tmp s), args := xs, argTypes := ts }) (hargs : xs.map a.eval = args) (hv : a.eval (.tmp s) = .func (.func f) #[] #[])
    (h : Calls P f args w fun e w' => ∃ v, e = .returned v ∧ wpList P ops Q rest (a.put N v) w') : wpList P ops Q (oi :: rest) a w := by
  refine wpList_plain hg fun K hK => ?_
  have he := enters_ hf hname hb args w
  have hrun : (execOp a.eval oi).run P w = .ok (.enter f args) w := by
    unfold execOp
    simp [hop, resolve, hv, Deferred.ofValue, invoke, hargs, he]
  unfold Oper.wp
  rw [hrun, Oper.upon_enter]
  refine h.mono fun e w'' hh => ?_
  obtain ⟨v, rfl, hk⟩ := hh
  subst hd
  exact hK _ _ hk
theorem goes_ {oi : Oper} {N : Option Tmp} {a : Act} {w : World} {K : Act → World → Prop} (s : Tmp) {f : FuncId} {fn : Func} {xs : Array Operand} {ts : Array TypeId} (hf : P.funcs[f]? = some fn) (hname : (fn.name == "runtime.NumGoroutine") = false) (hb : fn.body.isSome = true) (args : Array Value)
    (hw : Region.wanted oi (yielded ops a.tmps) = true) (hN : oi.dst = N) (hop : oi.op = .call { callee := .value (.tmp s), args := xs, argTypes := ts }) (hargs : xs.map a.eval = args) (hv : a.eval (.tmp s) = .func (.func f) #[] #[])
    (h : Calls P f args w fun e w' => ∃ v, e = .returned v ∧ K (a.put N v) w') : if Region.wanted oi (yielded ops a.tmps) = true then Oper.wp P oi a w K Q else K (a.put N undef) w := by
  refine call_ f args hw hN ?_ h
  have he := enters_ hf hname hb args w
  unfold execOp
  simp [hop, resolve, hv, Deferred.ofValue, invoke, hargs, he]
end Go.Proofs.YtafjlibcdlihcaaDoor.Fnv
end
