/- Texts of this session's claim of ImageBack, less what its theorem does not reach. No condition. -/
import Derived.Test.YtmeofdpmddjbgaaDoorIK12
import Derived.Test.YtmeofdpmddjbgaaDoorIK13
import Derived.Test.YtmeofdpmddjbgaaDoorIK14
import Derived.Test.YtmeofdpmddjbgaaDoorIK15
import Derived.Test.YtmeofdpmddjbgaaDoorIK16
import Derived.Test.YtmeofdpmddjbgaaDoorIK17
section
namespace Go.Proofs.YtmeofdpmddjbgaaDoor.G
open Go.RowKit Go.Proofs.YtmeofdpmddjbgaaDoorW.PrintWords Go.Proofs.YtmeofdpmddjbgaaDoorW.PrintLast Go.Proofs.YtmeofdpmddjbgaaDoorW.PrintMore
attribute [local go_sem] max2_int min2_int max_two min_two max_three min_three max_four min_four   -- for this text's walks alone
set_option linter.unusedVariables false
set_option linter.unusedSimpArgs false
def barqueref10_Tree.l0 : Nat → ByteArray → Int → List (S33) → Int → List (S75) → Int → Option ((List (S33)) × Int)
  | 0, _, _, _, _, _, _ => none
  | k + 1, x0, x6, x7, x8, x357000, x357001 => if x8 < (x357000.length : Int) then (if 0 ≤ x8 then (if ((rd_T75 x357000 x8).f1) > (wrap64 ((x0.size : Int) - x6)) then (some (([] : List (S33)), 3)) else (if 0 ≤ x6 then (if x6 ≤ (wrap64 (x6 + ((rd_T75 x357000 x8).f1))) then (if (wrap64 (x6 + ((rd_T75 x357000 x8).f1))) ≤ (x0.size : Int) then (if x7.length < 3518437208883 then (barqueref10_Tree.l0 k x0 (wrap64 (x6 + ((rd_T75 x357000 x8).f1))) (x7 ++ [(⟨(rd_T75 x357000 x8).f0.f0, (rd_T75 x357000 x8).f0.f1, x0.extract (x6 : Int).toNat ((wrap64 (x6 + ((rd_T75 x357000 x8).f1))) : Int).toNat⟩ : S33)]) (wrap64 (x8 + 1)) x357000 x357001) else (none)) else (none)) else (none)) else (none))) else (none)) else (if x6 < (x0.size : Int) then (some (([] : List (S33)), 4)) else (some (x7, 0)))
def barqueref10_Tree.f (k : Nat) (a0 : ByteArray) : Option ((List (S33)) × Int) := if (a0.size : Int) > 524288 then (some (([] : List (S33)), 4)) else ((barqueref10_Told.f k a0).bind fun bt351 => (if bt351.2.2 = 0 then (barqueref10_Tree.l0 k a0 bt351.2.1 ([] : List (S33)) 0 bt351.1 bt351.2.1) else (some (([] : List (S33)), bt351.2.2))))
theorem barqueref10_Tree.mono_l : ∀ k, (∀ y0 y1 y2 y3 y4 y5, LeO (barqueref10_Tree.l0 k y0 y1 y2 y3 y4 y5) (barqueref10_Tree.l0 (k + 1) y0 y1 y2 y3 y4 y5))
  | 0 => fun _ _ _ _ _ _ r h => by simp [barqueref10_Tree.l0] at h
  | k + 1 => by
    have ih0 := barqueref10_Tree.mono_l k
    · intro y0 y1 y2 y3 y4 y5
      unfold barqueref10_Tree.l0
      repeat' first
      | (with_reducible exact ih0 _ _ _ _ _ _)
      | (with_reducible exact barqueref10_Told.mono _ _)
      | (with_reducible exact LeO.refl _)
      | (with_reducible exact LeO.none _)
      | (with_reducible refine LeO.ite ?_ ?_)
      | (with_reducible refine LeO.bind ?_ (fun _ => ?_))
      | exact ih0 _ _ _ _ _ _
      | exact barqueref10_Told.mono _ _
      | exact LeO.none _
      | refine LeO.ite ?_ ?_
      | refine LeO.bind ?_ (fun _ => ?_)
theorem barqueref10_Tree.mono : ∀ a0 k, LeO (barqueref10_Tree.f k a0) (barqueref10_Tree.f (k + 1) a0) := by
  intro a0 k
  have ih0 := barqueref10_Tree.mono_l k
  unfold barqueref10_Tree.f
  repeat' first
      | (with_reducible exact ih0 _ _ _ _ _ _)
      | (with_reducible exact barqueref10_Told.mono _ _)
      | (with_reducible exact LeO.refl _)
      | (with_reducible exact LeO.none _)
      | (with_reducible refine LeO.ite ?_ ?_)
      | (with_reducible refine LeO.bind ?_ (fun _ => ?_))
      | exact ih0 _ _ _ _ _ _
      | exact barqueref10_Told.mono _ _
      | exact LeO.none _
      | refine LeO.ite ?_ ?_
      | refine LeO.bind ?_ (fun _ => ?_)
set_option maxHeartbeats 8000000 in
set_option maxRecDepth 100000 in
theorem barqueref10_Tree.calls (k : Nat) (a0 : ByteArray) (r1 : List (S33)) (r2 : Int) (w : World) (h : barqueref10_Tree.f k a0 = some (r1, r2)) :
    Calls Tryd.prog 18 #[.string a0] w fun e w' => ∃ v0_ : Value, e = .returned (.tuple #[v0_, .int .i64 r2]) ∧ Kd.R k33 33 w' w.heap.size (fun _ => True) v0_ r1 ∧ Below w.heap.size w w' := by
  have hu71 := Tryd.underlying71
  have hu75 := Tryd.underlying75
  have hu33 := Tryd.underlying33
  have HB := Aside0.mk (Below.refl w.heap.size w)
  have H : (if (a0.size : Int) > 524288 then (some (([] : List (S33)), 4)) else ((barqueref10_Told.f k a0).bind fun bt351 => (if bt351.2.2 = 0 then (barqueref10_Tree.l0 k a0 bt351.2.1 ([] : List (S33)) 0 bt351.1 bt351.2.1) else (some (([] : List (S33)), bt351.2.2))))) = some (r1, r2) := h
  clear h
  by_cases c2 : (a0.size : Int) > 524288
  · rw [if_pos c2] at H
    have c2b0 : decide (524288 < (a0.size : Int)) = true := decide_eq_true c2
    have c2b1 : decide (524288 < a0.size) = true := decide_eq_true (by omega)
    clear c2
    simp only [Option.some.injEq, Prod.mk.injEq] at H
    obtain ⟨rfl, rfl⟩ := H
    go_enter Tryd.func18, Tryd.ntmps18
    go_wp2
    go_ret2
    exact ⟨_, by first | rfl | (simp [errW_none, errW_some] <;> rfl) | (simp [*, errW_none, errW_some] <;> rfl), by first | exact Kd.R_nil _ _ _ _ _ | exact Kd.N_nil _ _ _ _ _ | exact Kd.V_nil _ _ _ _ _ | exact Kd.Q_nil _ _ _ _ _ | exact Kd.S_nil _ _ _ _ _, by repeat (first | (with_reducible first | exact HB.out | apply below_alloc | apply pw_below_drewN | apply below_drew1) | exact HB.out)⟩
  · rw [if_neg c2] at H
    have c2b0 : decide (524288 < (a0.size : Int)) = false := decide_eq_false c2
    have c2b1 : decide (524288 < a0.size) = false := decide_eq_false (by omega)
    clear c2
    replace H := Option.bind_eq_some_iff.mp H
    obtain ⟨⟨t351, t354, t355⟩, A30, H⟩ := H
    replace H : (if t355 = 0 then (barqueref10_Tree.l0 k a0 t354 ([] : List (S33)) 0 t351 t354) else (some (([] : List (S33)), t355))) = some (r1, r2) := H
    have A3 := Aside0.mk A30
    clear A30
    by_cases c4 : t355 = 0
    · rw [if_pos c4] at H
      have c4b0 : (t355 == 0) = true := beq_iff_eq.mpr c4
      have c4b1 : (t355 != 0) = false := bne_eq_false_iff_eq.mpr c4
      clear c4
      have H' := Aside0.mk H
      clear H
      go_enter Tryd.func18, Tryd.ntmps18
      go_wp2_with (first | ((with_reducible refine gate_callee (f := 38) rfl ?_); refine goesL_ (some 15) rfl rfl Tryd.func38 (by kernel_rfl) rfl #[.string a0] rfl (by (try simp only [List.map_toArray, List.map_cons, List.map_nil]); first | done | rfl | (simp only [List.length_drop, List.length_take]; rfl)) ?_; (with_reducible refine (barqueref10_Told.calls k a0 t351 t354 t355 _ A3.out).mono ?_); rintro e w5 ⟨v352, rfl, ho0, hb⟩; refine ⟨_, rfl, ?_⟩; have n0_ := Aside0.mk (Kd.R_lower ho0 (below_size (by repeat (first | (with_reducible first | exact HB.out | apply below_alloc | apply pw_below_drewN | apply below_drew1) | exact HB.out)))); have n1_ := Aside0.mk (below_step (by repeat (first | (with_reducible first | exact HB.out | apply below_alloc | apply pw_below_drewN | apply below_drew1) | exact HB.out)) hb); clear HB; have HO353 := n0_; have HB := n1_; clear n0_ n1_; (try clear hb); (try clear hb2); (try clear hk); (try clear hi); (try clear ho0)) | ((with_reducible refine gate_dst (N := 4) rfl ?_); refine box_event ?hg (N := 4) ?hd (cs := #[.slice none 0 0, .int .i64 0]) (t := 71) ?hr ?_; (case hd => rfl); (case hg => rfl); (case hr => first | (go_simp; done) | (go_simp; rfl)); intro gb356 hg w6 hbox hb; have n0_ := Aside0.mk (Kd.R_below (by (with_reducible repeat (first | apply Kd.R_alloc | apply Kd.R_drewN | apply Kd.R_drew)); exact HO353.out) hb); have n1_ := Aside0.mk (below_step (by repeat (first | (with_reducible first | exact HB.out | apply below_alloc | apply pw_below_drewN | apply below_drew1) | exact HB.out)) hb); have n2_ := Aside0.mk (hbox); have n3_ := Aside0.mk ((by rw [hg]; exact (below_size (by repeat (first | (with_reducible first | exact HB.out | apply below_alloc | apply pw_below_drewN | apply below_drew1) | exact HB.out))) : w.heap.size ≤ gb356)); have n4_ := Aside0.mk ((by rw [hg]; exact (below_size (by repeat (first | (with_reducible first | exact HB.out | apply below_alloc | apply pw_below_drewN | apply below_drew1) | exact HB.out))) : w.heap.size ≤ gb356)); clear HO353; clear HB; have HO353 := n0_; have HB := n1_; have BK356 := n2_; have GW356 := n3_; have GE356 := n4_; clear n0_ n1_ n2_ n3_ n4_; clear hb hbox hg; obtain ⟨Ao7, co7, eo7⟩ := Kd.R_slice HO353.out; subst eo7; have hcz8_0 : w6.cell? ⟨gb356, 0, none⟩ = some (.slice none 0 0) := (blk_cell BK356.out 0).trans rfl; have hcz8_1 : w6.cell? ⟨gb356, 1, none⟩ = some (.int .i64 0) := (blk_cell BK356.out 1).trans rfl; have hfz8_0 := blk_frozen BK356.out 0; have hfz8_1 := blk_frozen BK356.out 1))
      go_loopg [6, 7, 8] k (fun kq v6 v7 v8 w' => ∃ (x6_1 : Int) (x7_1 : List (S33)) (x8_1 : Int), v6 = .int .i64 x6_1 ∧ v8 = .int .i64 x8_1 ∧ Aside0 (barqueref10_Tree.l0 kq a0 x6_1 x7_1 x8_1 t351 t354 = some (r1, r2)) ∧ Aside0 (kq ≤ k) ∧ Aside0 (Kd.R k33 33 w' w.heap.size (fun _ => True) v7 x7_1) ∧ Aside0 (Kd.R k75 75 w' w.heap.size (fun _ => True) (.slice Ao7 t351.length co7) t351) ∧ Aside0 (w'.heap[gb356]? = some (.cells #[(.slice Ao7 t351.length co7), .int .i64 t354] 71 (0, 0))) ∧ Aside0 (Below w.heap.size w w'))
      case atStart => exact ⟨(t354), (([] : List (S33))), (0), (by first | rfl | (simp; done) | (simp [*]; done)), (by first | rfl | (simp; done) | (simp [*]; done)), H', ⟨Nat.le_refl _⟩, ⟨by first | exact Kd.R_nil _ _ _ _ _ | exact Kd.N_nil _ _ _ _ _ | exact Kd.V_nil _ _ _ _ _ | exact Kd.Q_nil _ _ _ _ _ | exact Kd.S_nil _ _ _ _ _⟩, ⟨by (with_reducible repeat (first | apply Kd.R_alloc | apply Kd.R_drewN | apply Kd.R_drew)); exact Kd.R_mono (Kd.R_far (p := ⟨gb356, 1, none⟩) (Kd.R_far (p := ⟨gb356, 0, none⟩) (Kd.R_types HO353.out BK356.out (by decide)) (fun _ hk => hk.2) (.slice Ao7 t351.length co7)) (fun _ hk => hk.2) (.int .i64 t354)) (fun _ hk => trivial)⟩, ⟨by (with_reducible repeat (first | refine blk_drewN ?_ _ | refine blk_drew ?_ | refine blk_alloc ?_ _)); refine blk_put (cs := #[.slice Ao7 t351.length co7, .int .i64 0]) ?_ 1 _ rfl; (with_reducible repeat (first | refine blk_drewN ?_ _ | refine blk_drew ?_ | refine blk_alloc ?_ _)); refine blk_put (cs := #[.slice none 0 0, .int .i64 0]) ?_ 0 _ rfl; (with_reducible repeat (first | refine blk_drewN ?_ _ | refine blk_drew ?_ | refine blk_alloc ?_ _)); exact BK356.out⟩, ⟨by repeat (first | (with_reducible first | exact HB.out | apply below_alloc | apply pw_below_drewN | apply below_drew1 | refine below_set ?_ GE356.out) | exact HB.out)⟩⟩
      case round =>
        clear H'
        try clear c1
        try clear c2
        try clear c2b0
        try clear c2b1
        try clear p2
        try clear c3
        try clear c4
        try clear c4b0
        try clear c4b1
        try clear hcz8_0
        try clear hcz8_1
        try clear hfz8_0
        try clear hfz8_1
        obtain ⟨x6_1, x7_1, x8_1, rfl, rfl, HA, HK1, HO_7, HO_357000, BK356, HB⟩ := hrel
        cases gk with
        | zero => exact absurd HA.out (by simp [barqueref10_Tree.l0])
        | succ k1 =>
          have H := HA.out
          clear HA
          simp only [barqueref10_Tree.l0] at H
          by_cases c9 : x8_1 < (t351.length : Int)
          · rw [if_pos c9] at H
            have c9b0 : decide (x8_1 < (t351.length : Int)) = true := decide_eq_true c9
            clear c9
            by_cases c10 : 0 ≤ x8_1
            · rw [if_pos c10] at H
              have c10b0 : decide (0 ≤ x8_1) = true := decide_eq_true c10
              clear c10
              by_cases c11 : ((rd_T75 t351 x8_1).f1) > (wrap64 ((a0.size : Int) - x6_1))
              · rw [if_pos c11] at H
                have c11b0 : decide ((wrap64 ((a0.size : Int) - x6_1)) < ((rd_T75 t351 x8_1).f1)) = true := decide_eq_true c11
                clear c11
                simp only [Option.some.injEq, Prod.mk.injEq] at H
                obtain ⟨rfl, rfl⟩ := H
                have hcz12_0 : wr.cell? ⟨gb356, 0, none⟩ = some (.slice Ao7 t351.length co7) := (blk_cell BK356.out 0).trans rfl
                have hcz12_1 : wr.cell? ⟨gb356, 1, none⟩ = some (.int .i64 t354) := (blk_cell BK356.out 1).trans rfl
                have hfz12_0 := blk_frozen BK356.out 0
                have hfz12_1 := blk_frozen BK356.out 1
                have p357 : 0 ≤ (x8_1 : Int) := of_decide_eq_true (by first | (with_reducible assumption) | assumption)
                have q357 : x8_1 < (t351.length : Int) := of_decide_eq_true (by first | (with_reducible assumption) | assumption)
                obtain ⟨ad357, e357, hx357_0, hx357_1, hx357_2, hx357_3⟩ := at_T75 (Kd.R_reads' HO_357000.out).2.2 x8_1 p357 q357
                cases e357
                replace p357 := eq_true p357
                replace q357 := eq_true q357
                go_wp2_with (first | ((with_reducible refine gate_dst (N := 9) rfl ?_); refine box_event ?hg (N := 9) ?hd (cs := #[.string (⟨#[]⟩ : ByteArray), .int .i64 0, .string (⟨#[]⟩ : ByteArray), .int .i64 0]) (t := 75) ?hr ?_; (case hd => rfl); (case hg => rfl); (case hr => first | (go_simp; done) | (go_simp; rfl)); intro gb358 hg w13 hbox hb; have n0_ := Aside0.mk (Kd.R_below (by (with_reducible repeat (first | apply Kd.R_alloc | apply Kd.R_drewN | apply Kd.R_drew)); exact HO_7.out) hb); have n1_ := Aside0.mk (Kd.R_below (Kd.R_elderB (by (with_reducible repeat (first | apply Kd.R_alloc | apply Kd.R_drewN | apply Kd.R_drew)); exact HO_357000.out) gb358 (Nat.le_of_eq hg.symm)) hb); have n2_ := Aside0.mk (blk_below (g := gb356) (o := .cells #[.slice (some ad357) t351.length co7, .int .i64 t354] 71 (0, 0)) (by (with_reducible repeat (first | refine blk_drewN ?_ _ | refine blk_drew ?_ | refine blk_alloc ?_ _)); exact BK356.out) hb); have n3_ := Aside0.mk (below_step (by repeat (first | (with_reducible first | exact HB.out | apply below_alloc | apply pw_below_drewN | apply below_drew1 | refine below_set ?_ GE356.out) | exact HB.out)) hb); have n4_ := Aside0.mk (hbox); have n5_ := Aside0.mk ((by rw [hg]; exact (below_size (by repeat (first | (with_reducible first | exact HB.out | apply below_alloc | apply pw_below_drewN | apply below_drew1 | refine below_set ?_ GE356.out) | exact HB.out))) : w.heap.size ≤ gb358)); have n6_ := Aside0.mk ((by rw [hg]; exact (below_size (by repeat (first | (with_reducible first | exact HB.out | apply below_alloc | apply pw_below_drewN | apply below_drew1 | refine below_set ?_ GE356.out) | exact HB.out))) : w.heap.size ≤ gb358)); have n7_ := Aside0.mk ((by rw [hg]; exact Nat.ne_of_lt (blk_lt (g := gb356) (o := .cells #[.slice (some ad357) t351.length co7, .int .i64 t354] 71 (0, 0)) (by (with_reducible repeat (first | refine blk_drewN ?_ _ | refine blk_drew ?_ | refine blk_alloc ?_ _)); exact BK356.out)) : gb356 ≠ gb358)); have n8_ := Aside0.mk ((by rw [hg]; exact Nat.ne_of_gt (blk_lt (g := gb356) (o := .cells #[.slice (some ad357) t351.length co7, .int .i64 t354] 71 (0, 0)) (by (with_reducible repeat (first | refine blk_drewN ?_ _ | refine blk_drew ?_ | refine blk_alloc ?_ _)); exact BK356.out)) : gb358 ≠ gb356)); clear HO_7; clear HO_357000; clear BK356; clear HB; have HO_7 := n0_; have HO_357000 := n1_; have BK356 := n2_; have HB := n3_; have BK358 := n4_; have GW358 := n5_; have GE358 := n6_; have NB356_358 := n7_; have NB358_356 := n8_; clear n0_ n1_ n2_ n3_ n4_ n5_ n6_ n7_ n8_; clear hb hbox hg; have hnb14 := NB358_356.out; have hnc14 := NB356_358.out; have hcz15_0 : w13.cell? ⟨gb358, 0, none⟩ = some (.string (⟨#[]⟩ : ByteArray)) := (blk_cell BK358.out 0).trans rfl; have hcz15_1 : w13.cell? ⟨gb358, 1, none⟩ = some (.int .i64 0) := (blk_cell BK358.out 1).trans rfl; have hcz15_2 : w13.cell? ⟨gb358, 2, none⟩ = some (.string (⟨#[]⟩ : ByteArray)) := (blk_cell BK358.out 2).trans rfl; have hcz15_3 : w13.cell? ⟨gb358, 3, none⟩ = some (.int .i64 0) := (blk_cell BK358.out 3).trans rfl; have hfz15_0 := blk_frozen BK358.out 0; have hfz15_1 := blk_frozen BK358.out 1; have hfz15_2 := blk_frozen BK358.out 2; have hfz15_3 := blk_frozen BK358.out 3; have hq40_ : ∀ (a_ b_ c_ d_ : Value), ((((w13.setCell ⟨gb358, 0, none⟩ a_).setCell ⟨gb358, 1, none⟩ b_).setCell ⟨gb358, 2, none⟩ c_).setCell ⟨gb358, 3, none⟩ d_).cell? ⟨gb358, 0, none⟩ = some a_ := fun a_ b_ c_ d_ => (blk_cell (blk_put (blk_put (blk_put (blk_put BK358.out 0 a_ rfl) 1 b_ rfl) 2 c_ rfl) 3 d_ rfl) 0).trans rfl; have hq41_ : ∀ (a_ b_ c_ d_ : Value), ((((w13.setCell ⟨gb358, 0, none⟩ a_).setCell ⟨gb358, 1, none⟩ b_).setCell ⟨gb358, 2, none⟩ c_).setCell ⟨gb358, 3, none⟩ d_).cell? ⟨gb358, 1, none⟩ = some b_ := fun a_ b_ c_ d_ => (blk_cell (blk_put (blk_put (blk_put (blk_put BK358.out 0 a_ rfl) 1 b_ rfl) 2 c_ rfl) 3 d_ rfl) 1).trans rfl; have hq42_ : ∀ (a_ b_ c_ d_ : Value), ((((w13.setCell ⟨gb358, 0, none⟩ a_).setCell ⟨gb358, 1, none⟩ b_).setCell ⟨gb358, 2, none⟩ c_).setCell ⟨gb358, 3, none⟩ d_).cell? ⟨gb358, 2, none⟩ = some c_ := fun a_ b_ c_ d_ => (blk_cell (blk_put (blk_put (blk_put (blk_put BK358.out 0 a_ rfl) 1 b_ rfl) 2 c_ rfl) 3 d_ rfl) 2).trans rfl; have hq43_ : ∀ (a_ b_ c_ d_ : Value), ((((w13.setCell ⟨gb358, 0, none⟩ a_).setCell ⟨gb358, 1, none⟩ b_).setCell ⟨gb358, 2, none⟩ c_).setCell ⟨gb358, 3, none⟩ d_).cell? ⟨gb358, 3, none⟩ = some d_ := fun a_ b_ c_ d_ => (blk_cell (blk_put (blk_put (blk_put (blk_put BK358.out 0 a_ rfl) 1 b_ rfl) 2 c_ rfl) 3 d_ rfl) 3).trans rfl; have hqf4_ : ∀ (a_ b_ c_ d_ : Value), ((((w13.setCell ⟨gb358, 0, none⟩ a_).setCell ⟨gb358, 1, none⟩ b_).setCell ⟨gb358, 2, none⟩ c_).setCell ⟨gb358, 3, none⟩ d_).frozen? ⟨gb358, 2, none⟩ = false := fun a_ b_ c_ d_ => blk_frozen (blk_put (blk_put (blk_put (blk_put BK358.out 0 a_ rfl) 1 b_ rfl) 2 c_ rfl) 3 d_ rfl) 2; have hq50_ : ∀ (a_ b_ c_ d_ e_ : Value), (((((w13.setCell ⟨gb358, 0, none⟩ a_).setCell ⟨gb358, 1, none⟩ b_).setCell ⟨gb358, 2, none⟩ c_).setCell ⟨gb358, 3, none⟩ d_).setCell ⟨gb358, 2, none⟩ e_).cell? ⟨gb358, 0, none⟩ = some a_ := fun a_ b_ c_ d_ e_ => (blk_cell (blk_put (blk_put (blk_put (blk_put (blk_put BK358.out 0 a_ rfl) 1 b_ rfl) 2 c_ rfl) 3 d_ rfl) 2 e_ rfl) 0).trans rfl; have hq51_ : ∀ (a_ b_ c_ d_ e_ : Value), (((((w13.setCell ⟨gb358, 0, none⟩ a_).setCell ⟨gb358, 1, none⟩ b_).setCell ⟨gb358, 2, none⟩ c_).setCell ⟨gb358, 3, none⟩ d_).setCell ⟨gb358, 2, none⟩ e_).cell? ⟨gb358, 1, none⟩ = some b_ := fun a_ b_ c_ d_ e_ => (blk_cell (blk_put (blk_put (blk_put (blk_put (blk_put BK358.out 0 a_ rfl) 1 b_ rfl) 2 c_ rfl) 3 d_ rfl) 2 e_ rfl) 1).trans rfl; have hq52_ : ∀ (a_ b_ c_ d_ e_ : Value), (((((w13.setCell ⟨gb358, 0, none⟩ a_).setCell ⟨gb358, 1, none⟩ b_).setCell ⟨gb358, 2, none⟩ c_).setCell ⟨gb358, 3, none⟩ d_).setCell ⟨gb358, 2, none⟩ e_).cell? ⟨gb358, 2, none⟩ = some e_ := fun a_ b_ c_ d_ e_ => (blk_cell (blk_put (blk_put (blk_put (blk_put (blk_put BK358.out 0 a_ rfl) 1 b_ rfl) 2 c_ rfl) 3 d_ rfl) 2 e_ rfl) 2).trans rfl; have hq53_ : ∀ (a_ b_ c_ d_ e_ : Value), (((((w13.setCell ⟨gb358, 0, none⟩ a_).setCell ⟨gb358, 1, none⟩ b_).setCell ⟨gb358, 2, none⟩ c_).setCell ⟨gb358, 3, none⟩ d_).setCell ⟨gb358, 2, none⟩ e_).cell? ⟨gb358, 3, none⟩ = some d_ := fun a_ b_ c_ d_ e_ => (blk_cell (blk_put (blk_put (blk_put (blk_put (blk_put BK358.out 0 a_ rfl) 1 b_ rfl) 2 c_ rfl) 3 d_ rfl) 2 e_ rfl) 3).trans rfl; have hqf5_ : ∀ (a_ b_ c_ d_ e_ : Value), (((((w13.setCell ⟨gb358, 0, none⟩ a_).setCell ⟨gb358, 1, none⟩ b_).setCell ⟨gb358, 2, none⟩ c_).setCell ⟨gb358, 3, none⟩ d_).setCell ⟨gb358, 2, none⟩ e_).frozen? ⟨gb358, 2, none⟩ = false := fun a_ b_ c_ d_ e_ => blk_frozen (blk_put (blk_put (blk_put (blk_put (blk_put BK358.out 0 a_ rfl) 1 b_ rfl) 2 c_ rfl) 3 d_ rfl) 2 e_ rfl) 2))
                go_ret2
                exact ⟨_, by first | rfl | (simp [errW_none, errW_some] <;> rfl) | (simp [*, errW_none, errW_some] <;> rfl), by first | exact Kd.R_nil _ _ _ _ _ | exact Kd.N_nil _ _ _ _ _ | exact Kd.V_nil _ _ _ _ _ | exact Kd.Q_nil _ _ _ _ _ | exact Kd.S_nil _ _ _ _ _, by repeat (first | (with_reducible first | exact HB.out | apply below_alloc | apply pw_below_drewN | apply below_drew1 | refine below_set ?_ GE356.out | refine below_set ?_ GE358.out) | exact HB.out)⟩
              · rw [if_neg c11] at H
                have c11b0 : decide ((wrap64 ((a0.size : Int) - x6_1)) < ((rd_T75 t351 x8_1).f1)) = false := decide_eq_false c11
                clear c11
                by_cases c16 : 0 ≤ x6_1
                · rw [if_pos c16] at H
                  have c16b0 := eq_true c16
                  have c16b1 : decide (0 ≤ x6_1) = true := decide_eq_true c16
                  clear c16
                  by_cases c17 : x6_1 ≤ (wrap64 (x6_1 + ((rd_T75 t351 x8_1).f1)))
                  · rw [if_pos c17] at H
                    have c17b0 := eq_true c17
                    have c17b1 : decide (x6_1 ≤ (wrap64 (x6_1 + ((rd_T75 t351 x8_1).f1)))) = true := decide_eq_true c17
                    by_cases c18 : (wrap64 (x6_1 + ((rd_T75 t351 x8_1).f1))) ≤ (a0.size : Int)
                    · rw [if_pos c18] at H
                      have c18b0 := eq_true c18
                      have c18b1 : decide ((wrap64 (x6_1 + ((rd_T75 t351 x8_1).f1))) ≤ (a0.size : Int)) = true := decide_eq_true c18
                      by_cases c19 : x7_1.length < 3518437208883
                      · rw [if_pos c19] at H
                        have LMc19 := Aside0.mk c19
                        clear c19
                        obtain ⟨y359, hy359⟩ : ∃ y_ : List (S33), y_ = (x7_1 ++ [(⟨(rd_T75 t351 x8_1).f0.f0, (rd_T75 t351 x8_1).f0.f1, a0.extract (x6_1 : Int).toNat ((wrap64 (x6_1 + ((rd_T75 t351 x8_1).f1))) : Int).toNat⟩ : S33)]) := ⟨_, rfl⟩
                        replace H : (barqueref10_Tree.l0 k1 a0 (wrap64 (x6_1 + ((rd_T75 t351 x8_1).f1))) y359 (wrap64 (x8_1 + 1)) t351 t354) = some (r1, r2) := by first | (rw [hy359]; with_reducible exact H) | (have H2_ := (Option.bind_some _ _).symm.trans H; rw [hy359]; with_reducible exact H2_) | (have H2_ := (Option.bind_some _ _).symm.trans H; with_reducible exact H2_) | with_reducible exact H | (rw [hy359]; exact H) | exact H
                        have Ny359 := Aside0.mk hy359
                        clear hy359
                        have H' := Aside0.mk H
                        clear H
                        have hcz20_0 : wr.cell? ⟨gb356, 0, none⟩ = some (.slice Ao7 t351.length co7) := (blk_cell BK356.out 0).trans rfl
                        have hcz20_1 : wr.cell? ⟨gb356, 1, none⟩ = some (.int .i64 t354) := (blk_cell BK356.out 1).trans rfl
                        have hfz20_0 := blk_frozen BK356.out 0
                        have hfz20_1 := blk_frozen BK356.out 1
                        have p357 : 0 ≤ (x8_1 : Int) := of_decide_eq_true (by first | (with_reducible assumption) | assumption)
                        have q357 : x8_1 < (t351.length : Int) := of_decide_eq_true (by first | (with_reducible assumption) | assumption)
                        obtain ⟨ad357, e357, hx357_0, hx357_1, hx357_2, hx357_3⟩ := at_T75 (Kd.R_reads' HO_357000.out).2.2 x8_1 p357 q357
                        cases e357
                        replace p357 := eq_true p357
                        replace q357 := eq_true q357
                        go_wp2_with (first | ((with_reducible refine gate_dst (N := 9) rfl ?_); refine box_event ?hg (N := 9) ?hd (cs := #[.string (⟨#[]⟩ : ByteArray), .int .i64 0, .string (⟨#[]⟩ : ByteArray), .int .i64 0]) (t := 75) ?hr ?_; (case hd => rfl); (case hg => rfl); (case hr => first | (go_simp; done) | (go_simp; rfl)); intro gb358 hg w21 hbox hb; have n0_ := Aside0.mk (Kd.R_below (by (with_reducible repeat (first | apply Kd.R_alloc | apply Kd.R_drewN | apply Kd.R_drew)); exact HO_7.out) hb); have n1_ := Aside0.mk (Kd.R_below (Kd.R_elderB (by (with_reducible repeat (first | apply Kd.R_alloc | apply Kd.R_drewN | apply Kd.R_drew)); exact HO_357000.out) gb358 (Nat.le_of_eq hg.symm)) hb); have n2_ := Aside0.mk (blk_below (g := gb356) (o := .cells #[.slice (some ad357) t351.length co7, .int .i64 t354] 71 (0, 0)) (by (with_reducible repeat (first | refine blk_drewN ?_ _ | refine blk_drew ?_ | refine blk_alloc ?_ _)); exact BK356.out) hb); have n3_ := Aside0.mk (below_step (by repeat (first | (with_reducible first | exact HB.out | apply below_alloc | apply pw_below_drewN | apply below_drew1 | refine below_set ?_ GE356.out) | exact HB.out)) hb); have n4_ := Aside0.mk (hbox); have n5_ := Aside0.mk ((by rw [hg]; exact (below_size (by repeat (first | (with_reducible first | exact HB.out | apply below_alloc | apply pw_below_drewN | apply below_drew1 | refine below_set ?_ GE356.out) | exact HB.out))) : w.heap.size ≤ gb358)); have n6_ := Aside0.mk ((by rw [hg]; exact (below_size (by repeat (first | (with_reducible first | exact HB.out | apply below_alloc | apply pw_below_drewN | apply below_drew1 | refine below_set ?_ GE356.out) | exact HB.out))) : w.heap.size ≤ gb358)); have n7_ := Aside0.mk ((by rw [hg]; exact Nat.ne_of_lt (blk_lt (g := gb356) (o := .cells #[.slice (some ad357) t351.length co7, .int .i64 t354] 71 (0, 0)) (by (with_reducible repeat (first | refine blk_drewN ?_ _ | refine blk_drew ?_ | refine blk_alloc ?_ _)); exact BK356.out)) : gb356 ≠ gb358)); have n8_ := Aside0.mk ((by rw [hg]; exact Nat.ne_of_gt (blk_lt (g := gb356) (o := .cells #[.slice (some ad357) t351.length co7, .int .i64 t354] 71 (0, 0)) (by (with_reducible repeat (first | refine blk_drewN ?_ _ | refine blk_drew ?_ | refine blk_alloc ?_ _)); exact BK356.out)) : gb358 ≠ gb356)); clear HO_7; clear HO_357000; clear BK356; clear HB; have HO_7 := n0_; have HO_357000 := n1_; have BK356 := n2_; have HB := n3_; have BK358 := n4_; have GW358 := n5_; have GE358 := n6_; have NB356_358 := n7_; have NB358_356 := n8_; clear n0_ n1_ n2_ n3_ n4_ n5_ n6_ n7_ n8_; clear hb hbox hg; have hnb22 := NB358_356.out; have hnc22 := NB356_358.out; have hcz23_0 : w21.cell? ⟨gb358, 0, none⟩ = some (.string (⟨#[]⟩ : ByteArray)) := (blk_cell BK358.out 0).trans rfl; have hcz23_1 : w21.cell? ⟨gb358, 1, none⟩ = some (.int .i64 0) := (blk_cell BK358.out 1).trans rfl; have hcz23_2 : w21.cell? ⟨gb358, 2, none⟩ = some (.string (⟨#[]⟩ : ByteArray)) := (blk_cell BK358.out 2).trans rfl; have hcz23_3 : w21.cell? ⟨gb358, 3, none⟩ = some (.int .i64 0) := (blk_cell BK358.out 3).trans rfl; have hfz23_0 := blk_frozen BK358.out 0; have hfz23_1 := blk_frozen BK358.out 1; have hfz23_2 := blk_frozen BK358.out 2; have hfz23_3 := blk_frozen BK358.out 3; have hq40_ : ∀ (a_ b_ c_ d_ : Value), ((((w21.setCell ⟨gb358, 0, none⟩ a_).setCell ⟨gb358, 1, none⟩ b_).setCell ⟨gb358, 2, none⟩ c_).setCell ⟨gb358, 3, none⟩ d_).cell? ⟨gb358, 0, none⟩ = some a_ := fun a_ b_ c_ d_ => (blk_cell (blk_put (blk_put (blk_put (blk_put BK358.out 0 a_ rfl) 1 b_ rfl) 2 c_ rfl) 3 d_ rfl) 0).trans rfl; have hq41_ : ∀ (a_ b_ c_ d_ : Value), ((((w21.setCell ⟨gb358, 0, none⟩ a_).setCell ⟨gb358, 1, none⟩ b_).setCell ⟨gb358, 2, none⟩ c_).setCell ⟨gb358, 3, none⟩ d_).cell? ⟨gb358, 1, none⟩ = some b_ := fun a_ b_ c_ d_ => (blk_cell (blk_put (blk_put (blk_put (blk_put BK358.out 0 a_ rfl) 1 b_ rfl) 2 c_ rfl) 3 d_ rfl) 1).trans rfl; have hq42_ : ∀ (a_ b_ c_ d_ : Value), ((((w21.setCell ⟨gb358, 0, none⟩ a_).setCell ⟨gb358, 1, none⟩ b_).setCell ⟨gb358, 2, none⟩ c_).setCell ⟨gb358, 3, none⟩ d_).cell? ⟨gb358, 2, none⟩ = some c_ := fun a_ b_ c_ d_ => (blk_cell (blk_put (blk_put (blk_put (blk_put BK358.out 0 a_ rfl) 1 b_ rfl) 2 c_ rfl) 3 d_ rfl) 2).trans rfl; have hq43_ : ∀ (a_ b_ c_ d_ : Value), ((((w21.setCell ⟨gb358, 0, none⟩ a_).setCell ⟨gb358, 1, none⟩ b_).setCell ⟨gb358, 2, none⟩ c_).setCell ⟨gb358, 3, none⟩ d_).cell? ⟨gb358, 3, none⟩ = some d_ := fun a_ b_ c_ d_ => (blk_cell (blk_put (blk_put (blk_put (blk_put BK358.out 0 a_ rfl) 1 b_ rfl) 2 c_ rfl) 3 d_ rfl) 3).trans rfl; have hqf4_ : ∀ (a_ b_ c_ d_ : Value), ((((w21.setCell ⟨gb358, 0, none⟩ a_).setCell ⟨gb358, 1, none⟩ b_).setCell ⟨gb358, 2, none⟩ c_).setCell ⟨gb358, 3, none⟩ d_).frozen? ⟨gb358, 2, none⟩ = false := fun a_ b_ c_ d_ => blk_frozen (blk_put (blk_put (blk_put (blk_put BK358.out 0 a_ rfl) 1 b_ rfl) 2 c_ rfl) 3 d_ rfl) 2; have hq50_ : ∀ (a_ b_ c_ d_ e_ : Value), (((((w21.setCell ⟨gb358, 0, none⟩ a_).setCell ⟨gb358, 1, none⟩ b_).setCell ⟨gb358, 2, none⟩ c_).setCell ⟨gb358, 3, none⟩ d_).setCell ⟨gb358, 2, none⟩ e_).cell? ⟨gb358, 0, none⟩ = some a_ := fun a_ b_ c_ d_ e_ => (blk_cell (blk_put (blk_put (blk_put (blk_put (blk_put BK358.out 0 a_ rfl) 1 b_ rfl) 2 c_ rfl) 3 d_ rfl) 2 e_ rfl) 0).trans rfl; have hq51_ : ∀ (a_ b_ c_ d_ e_ : Value), (((((w21.setCell ⟨gb358, 0, none⟩ a_).setCell ⟨gb358, 1, none⟩ b_).setCell ⟨gb358, 2, none⟩ c_).setCell ⟨gb358, 3, none⟩ d_).setCell ⟨gb358, 2, none⟩ e_).cell? ⟨gb358, 1, none⟩ = some b_ := fun a_ b_ c_ d_ e_ => (blk_cell (blk_put (blk_put (blk_put (blk_put (blk_put BK358.out 0 a_ rfl) 1 b_ rfl) 2 c_ rfl) 3 d_ rfl) 2 e_ rfl) 1).trans rfl; have hq52_ : ∀ (a_ b_ c_ d_ e_ : Value), (((((w21.setCell ⟨gb358, 0, none⟩ a_).setCell ⟨gb358, 1, none⟩ b_).setCell ⟨gb358, 2, none⟩ c_).setCell ⟨gb358, 3, none⟩ d_).setCell ⟨gb358, 2, none⟩ e_).cell? ⟨gb358, 2, none⟩ = some e_ := fun a_ b_ c_ d_ e_ => (blk_cell (blk_put (blk_put (blk_put (blk_put (blk_put BK358.out 0 a_ rfl) 1 b_ rfl) 2 c_ rfl) 3 d_ rfl) 2 e_ rfl) 2).trans rfl; have hq53_ : ∀ (a_ b_ c_ d_ e_ : Value), (((((w21.setCell ⟨gb358, 0, none⟩ a_).setCell ⟨gb358, 1, none⟩ b_).setCell ⟨gb358, 2, none⟩ c_).setCell ⟨gb358, 3, none⟩ d_).setCell ⟨gb358, 2, none⟩ e_).cell? ⟨gb358, 3, none⟩ = some d_ := fun a_ b_ c_ d_ e_ => (blk_cell (blk_put (blk_put (blk_put (blk_put (blk_put BK358.out 0 a_ rfl) 1 b_ rfl) 2 c_ rfl) 3 d_ rfl) 2 e_ rfl) 3).trans rfl; have hqf5_ : ∀ (a_ b_ c_ d_ e_ : Value), (((((w21.setCell ⟨gb358, 0, none⟩ a_).setCell ⟨gb358, 1, none⟩ b_).setCell ⟨gb358, 2, none⟩ c_).setCell ⟨gb358, 3, none⟩ d_).setCell ⟨gb358, 2, none⟩ e_).frozen? ⟨gb358, 2, none⟩ = false := fun a_ b_ c_ d_ e_ => blk_frozen (blk_put (blk_put (blk_put (blk_put (blk_put BK358.out 0 a_ rfl) 1 b_ rfl) 2 c_ rfl) 3 d_ rfl) 2 e_ rfl) 2) | ((with_reducible refine gate_builtin (b := .append) (xs := #[.tmp 51, .tmp 54]) rfl ?_); at_builtin; refine Kd.R_append k33 (w0 := w) w.heap.size rfl (.tmp 51) (.tmp 54) 22 33 (.agg #[(.string ⟨#[]⟩), (.int .i64 0), (.string ⟨#[]⟩)]) 40 rfl Tryd.underlying22 info33 rfl (by decide) (by omega) u7 x7_1 (⟨(rd_T75 t351 x8_1).f0.f0, (rd_T75 t351 x8_1).f0.f1, a0.extract (x6_1 : Int).toNat ((wrap64 (x6_1 + ((rd_T75 t351 x8_1).f1))) : Int).toNat⟩ : S33) [.string ((rd_T75 t351 x8_1).f0.f0), .int .i64 ((rd_T75 t351 x8_1).f0.f1), .string (a0.extract (x6_1 : Int).toNat ((wrap64 (x6_1 + ((rd_T75 t351 x8_1).f1))) : Int).toNat)] (fun _ => True) (fun _ => False) rfl (by first | (go_simp; done) | (go_simp; rfl)) ?aP (fun _ hk => hk.elim) ?aF ?aO ?aB ?aS ?aL ?_; (case aP => exact k33_mkM _ _ _ (⟨(rd_T75 t351 x8_1).f0.f0, (rd_T75 t351 x8_1).f0.f1, a0.extract (x6_1 : Int).toNat ((wrap64 (x6_1 + ((rd_T75 t351 x8_1).f1))) : Int).toNat⟩ : S33)); (case aB => exact (by repeat (first | (with_reducible first | exact HB.out | apply below_alloc | apply pw_below_drewN | apply below_drew1 | refine below_set ?_ GE356.out | refine below_set ?_ GE358.out) | exact HB.out))); (case aF => exact (fun _ _ => trivial)); (case aO => exact (by (with_reducible repeat (first | apply Kd.R_alloc | apply Kd.R_drewN | apply Kd.R_drew)); exact Kd.R_mono (Kd.R_far (p := ⟨gb358, 2, none⟩) (Kd.R_far (p := ⟨gb358, 3, none⟩) (Kd.R_far (p := ⟨gb358, 2, none⟩) (Kd.R_far (p := ⟨gb358, 1, none⟩) (Kd.R_far (p := ⟨gb358, 0, none⟩) (Kd.R_types HO_7.out BK358.out (by decide)) (fun _ hk => hk.2) (.string ((rd_T75 t351 x8_1).f0.f0))) (fun _ hk => hk.2) (.int .i64 ((rd_T75 t351 x8_1).f0.f1))) (fun _ hk => hk.2) (.string ((rd_T75 t351 x8_1).f0.f2))) (fun _ hk => hk.2) (.int .i64 ((rd_T75 t351 x8_1).f1))) (fun _ hk => hk.2) (.string (a0.extract (x6_1 : Int).toNat ((wrap64 (x6_1 + ((rd_T75 t351 x8_1).f1))) : Int).toNat))) (fun _ hk => trivial))); (case aS => exact (below_size (by repeat (first | (with_reducible first | exact HB.out | apply below_alloc | apply pw_below_drewN | apply below_drew1 | refine below_set ?_ GE356.out | refine below_set ?_ GE358.out) | exact HB.out)))); (case aL => have := LMc19.out; omega); intro v360 w24 ho hb hg hat; rw [← Ny359.out] at ho; have n0_ := Aside0.mk (Kd.R_over' (by (with_reducible repeat (first | apply Kd.R_alloc | apply Kd.R_drewN | apply Kd.R_drew)); exact (Kd.R_mono (Kd.R_far (p := ⟨gb358, 2, none⟩) (Kd.R_far (p := ⟨gb358, 3, none⟩) (Kd.R_far (p := ⟨gb358, 2, none⟩) (Kd.R_far (p := ⟨gb358, 1, none⟩) (Kd.R_far (p := ⟨gb358, 0, none⟩) (Kd.R_mono HO_357000.out (fun k_ hk => (⟨hk, hk.2⟩ : _ ∧ k_ ≠ gb358))) (fun _ hk => hk.2) (.string ((rd_T75 t351 x8_1).f0.f0))) (fun _ hk => hk.2) (.int .i64 ((rd_T75 t351 x8_1).f0.f1))) (fun _ hk => hk.2) (.string ((rd_T75 t351 x8_1).f0.f2))) (fun _ hk => hk.2) (.int .i64 ((rd_T75 t351 x8_1).f1))) (fun _ hk => hk.2) (.string (a0.extract (x6_1 : Int).toNat ((wrap64 (x6_1 + ((rd_T75 t351 x8_1).f1))) : Int).toNat))) (fun _ h_ => h_.1))) (Kd.R_typed (by (with_reducible repeat (first | apply Kd.R_alloc | apply Kd.R_drewN | apply Kd.R_drew)); exact (Kd.R_mono (Kd.R_far (p := ⟨gb358, 2, none⟩) (Kd.R_far (p := ⟨gb358, 3, none⟩) (Kd.R_far (p := ⟨gb358, 2, none⟩) (Kd.R_far (p := ⟨gb358, 1, none⟩) (Kd.R_far (p := ⟨gb358, 0, none⟩) (Kd.R_types HO_7.out BK358.out (by decide)) (fun _ hk => hk.2) (.string ((rd_T75 t351 x8_1).f0.f0))) (fun _ hk => hk.2) (.int .i64 ((rd_T75 t351 x8_1).f0.f1))) (fun _ hk => hk.2) (.string ((rd_T75 t351 x8_1).f0.f2))) (fun _ hk => hk.2) (.int .i64 ((rd_T75 t351 x8_1).f1))) (fun _ hk => hk.2) (.string (a0.extract (x6_1 : Int).toNat ((wrap64 (x6_1 + ((rd_T75 t351 x8_1).f1))) : Int).toNat))) (fun _ h_ => h_.1)))) (by decide) hg); have n1_ := Aside0.mk (blk_grown (g := gb356) (o := .cells #[.slice (some ad357) t351.length co7, .int .i64 t354] 71 (0, 0)) (by (with_reducible repeat (first | refine blk_drewN ?_ _ | refine blk_drew ?_ | refine blk_alloc ?_ _)); refine blk_far ?_ NB356_358.out _; (with_reducible repeat (first | refine blk_drewN ?_ _ | refine blk_drew ?_ | refine blk_alloc ?_ _)); refine blk_far ?_ NB356_358.out _; (with_reducible repeat (first | refine blk_drewN ?_ _ | refine blk_drew ?_ | refine blk_alloc ?_ _)); refine blk_far ?_ NB356_358.out _; (with_reducible repeat (first | refine blk_drewN ?_ _ | refine blk_drew ?_ | refine blk_alloc ?_ _)); refine blk_far ?_ NB356_358.out _; (with_reducible repeat (first | refine blk_drewN ?_ _ | refine blk_drew ?_ | refine blk_alloc ?_ _)); refine blk_far ?_ NB356_358.out _; (with_reducible repeat (first | refine blk_drewN ?_ _ | refine blk_drew ?_ | refine blk_alloc ?_ _)); exact BK356.out) hg (Kd.R_ne HO_7.out BK356.out (by decide))); have n2_ := Aside0.mk (blk_grown (g := gb358) (o := .cells #[.string ((rd_T75 t351 x8_1).f0.f0), .int .i64 ((rd_T75 t351 x8_1).f0.f1), .string (a0.extract (x6_1 : Int).toNat ((wrap64 (x6_1 + ((rd_T75 t351 x8_1).f1))) : Int).toNat), .int .i64 ((rd_T75 t351 x8_1).f1)] 75 (0, 0)) (by (with_reducible repeat (first | refine blk_drewN ?_ _ | refine blk_drew ?_ | refine blk_alloc ?_ _)); refine blk_put (cs := #[.string ((rd_T75 t351 x8_1).f0.f0), .int .i64 ((rd_T75 t351 x8_1).f0.f1), .string ((rd_T75 t351 x8_1).f0.f2), .int .i64 ((rd_T75 t351 x8_1).f1)]) ?_ 2 _ rfl; (with_reducible repeat (first | refine blk_drewN ?_ _ | refine blk_drew ?_ | refine blk_alloc ?_ _)); refine blk_put (cs := #[.string ((rd_T75 t351 x8_1).f0.f0), .int .i64 ((rd_T75 t351 x8_1).f0.f1), .string ((rd_T75 t351 x8_1).f0.f2), .int .i64 0]) ?_ 3 _ rfl; (with_reducible repeat (first | refine blk_drewN ?_ _ | refine blk_drew ?_ | refine blk_alloc ?_ _)); refine blk_put (cs := #[.string ((rd_T75 t351 x8_1).f0.f0), .int .i64 ((rd_T75 t351 x8_1).f0.f1), .string (⟨#[]⟩ : ByteArray), .int .i64 0]) ?_ 2 _ rfl; (with_reducible repeat (first | refine blk_drewN ?_ _ | refine blk_drew ?_ | refine blk_alloc ?_ _)); refine blk_put (cs := #[.string ((rd_T75 t351 x8_1).f0.f0), .int .i64 0, .string (⟨#[]⟩ : ByteArray), .int .i64 0]) ?_ 1 _ rfl; (with_reducible repeat (first | refine blk_drewN ?_ _ | refine blk_drew ?_ | refine blk_alloc ?_ _)); refine blk_put (cs := #[.string (⟨#[]⟩ : ByteArray), .int .i64 0, .string (⟨#[]⟩ : ByteArray), .int .i64 0]) ?_ 0 _ rfl; (with_reducible repeat (first | refine blk_drewN ?_ _ | refine blk_drew ?_ | refine blk_alloc ?_ _)); exact BK358.out) hg (Kd.R_ne HO_7.out BK358.out (by decide))); have n3_ := Aside0.mk (hb); have n4_ := Aside0.mk (ho); clear HO_357000; clear BK356; clear BK358; clear HB; clear HO_7; have HO_357000 := n0_; have BK356 := n1_; have BK358 := n2_; have HB := n3_; have HO361 := n4_; clear n0_ n1_ n2_ n3_ n4_; clear ho hb hg hat; have hcz25_0 : w24.cell? ⟨gb358, 0, none⟩ = some (.string ((rd_T75 t351 x8_1).f0.f0)) := (blk_cell BK358.out 0).trans rfl; have hcz25_1 : w24.cell? ⟨gb358, 1, none⟩ = some (.int .i64 ((rd_T75 t351 x8_1).f0.f1)) := (blk_cell BK358.out 1).trans rfl; have hcz25_2 : w24.cell? ⟨gb358, 2, none⟩ = some (.string (a0.extract (x6_1 : Int).toNat ((wrap64 (x6_1 + ((rd_T75 t351 x8_1).f1))) : Int).toNat)) := (blk_cell BK358.out 2).trans rfl; have hcz25_3 : w24.cell? ⟨gb358, 3, none⟩ = some (.int .i64 ((rd_T75 t351 x8_1).f1)) := (blk_cell BK358.out 3).trans rfl; have hfz25_0 := blk_frozen BK358.out 0; have hfz25_1 := blk_frozen BK358.out 1; have hfz25_2 := blk_frozen BK358.out 2; have hfz25_3 := blk_frozen BK358.out 3; have hq40_ : ∀ (a_ b_ c_ d_ : Value), ((((w24.setCell ⟨gb358, 0, none⟩ a_).setCell ⟨gb358, 1, none⟩ b_).setCell ⟨gb358, 2, none⟩ c_).setCell ⟨gb358, 3, none⟩ d_).cell? ⟨gb358, 0, none⟩ = some a_ := fun a_ b_ c_ d_ => (blk_cell (blk_put (blk_put (blk_put (blk_put BK358.out 0 a_ rfl) 1 b_ rfl) 2 c_ rfl) 3 d_ rfl) 0).trans rfl; have hq41_ : ∀ (a_ b_ c_ d_ : Value), ((((w24.setCell ⟨gb358, 0, none⟩ a_).setCell ⟨gb358, 1, none⟩ b_).setCell ⟨gb358, 2, none⟩ c_).setCell ⟨gb358, 3, none⟩ d_).cell? ⟨gb358, 1, none⟩ = some b_ := fun a_ b_ c_ d_ => (blk_cell (blk_put (blk_put (blk_put (blk_put BK358.out 0 a_ rfl) 1 b_ rfl) 2 c_ rfl) 3 d_ rfl) 1).trans rfl; have hq42_ : ∀ (a_ b_ c_ d_ : Value), ((((w24.setCell ⟨gb358, 0, none⟩ a_).setCell ⟨gb358, 1, none⟩ b_).setCell ⟨gb358, 2, none⟩ c_).setCell ⟨gb358, 3, none⟩ d_).cell? ⟨gb358, 2, none⟩ = some c_ := fun a_ b_ c_ d_ => (blk_cell (blk_put (blk_put (blk_put (blk_put BK358.out 0 a_ rfl) 1 b_ rfl) 2 c_ rfl) 3 d_ rfl) 2).trans rfl; have hq43_ : ∀ (a_ b_ c_ d_ : Value), ((((w24.setCell ⟨gb358, 0, none⟩ a_).setCell ⟨gb358, 1, none⟩ b_).setCell ⟨gb358, 2, none⟩ c_).setCell ⟨gb358, 3, none⟩ d_).cell? ⟨gb358, 3, none⟩ = some d_ := fun a_ b_ c_ d_ => (blk_cell (blk_put (blk_put (blk_put (blk_put BK358.out 0 a_ rfl) 1 b_ rfl) 2 c_ rfl) 3 d_ rfl) 3).trans rfl; have hqf4_ : ∀ (a_ b_ c_ d_ : Value), ((((w24.setCell ⟨gb358, 0, none⟩ a_).setCell ⟨gb358, 1, none⟩ b_).setCell ⟨gb358, 2, none⟩ c_).setCell ⟨gb358, 3, none⟩ d_).frozen? ⟨gb358, 2, none⟩ = false := fun a_ b_ c_ d_ => blk_frozen (blk_put (blk_put (blk_put (blk_put BK358.out 0 a_ rfl) 1 b_ rfl) 2 c_ rfl) 3 d_ rfl) 2; have hq50_ : ∀ (a_ b_ c_ d_ e_ : Value), (((((w24.setCell ⟨gb358, 0, none⟩ a_).setCell ⟨gb358, 1, none⟩ b_).setCell ⟨gb358, 2, none⟩ c_).setCell ⟨gb358, 3, none⟩ d_).setCell ⟨gb358, 2, none⟩ e_).cell? ⟨gb358, 0, none⟩ = some a_ := fun a_ b_ c_ d_ e_ => (blk_cell (blk_put (blk_put (blk_put (blk_put (blk_put BK358.out 0 a_ rfl) 1 b_ rfl) 2 c_ rfl) 3 d_ rfl) 2 e_ rfl) 0).trans rfl; have hq51_ : ∀ (a_ b_ c_ d_ e_ : Value), (((((w24.setCell ⟨gb358, 0, none⟩ a_).setCell ⟨gb358, 1, none⟩ b_).setCell ⟨gb358, 2, none⟩ c_).setCell ⟨gb358, 3, none⟩ d_).setCell ⟨gb358, 2, none⟩ e_).cell? ⟨gb358, 1, none⟩ = some b_ := fun a_ b_ c_ d_ e_ => (blk_cell (blk_put (blk_put (blk_put (blk_put (blk_put BK358.out 0 a_ rfl) 1 b_ rfl) 2 c_ rfl) 3 d_ rfl) 2 e_ rfl) 1).trans rfl; have hq52_ : ∀ (a_ b_ c_ d_ e_ : Value), (((((w24.setCell ⟨gb358, 0, none⟩ a_).setCell ⟨gb358, 1, none⟩ b_).setCell ⟨gb358, 2, none⟩ c_).setCell ⟨gb358, 3, none⟩ d_).setCell ⟨gb358, 2, none⟩ e_).cell? ⟨gb358, 2, none⟩ = some e_ := fun a_ b_ c_ d_ e_ => (blk_cell (blk_put (blk_put (blk_put (blk_put (blk_put BK358.out 0 a_ rfl) 1 b_ rfl) 2 c_ rfl) 3 d_ rfl) 2 e_ rfl) 2).trans rfl; have hq53_ : ∀ (a_ b_ c_ d_ e_ : Value), (((((w24.setCell ⟨gb358, 0, none⟩ a_).setCell ⟨gb358, 1, none⟩ b_).setCell ⟨gb358, 2, none⟩ c_).setCell ⟨gb358, 3, none⟩ d_).setCell ⟨gb358, 2, none⟩ e_).cell? ⟨gb358, 3, none⟩ = some d_ := fun a_ b_ c_ d_ e_ => (blk_cell (blk_put (blk_put (blk_put (blk_put (blk_put BK358.out 0 a_ rfl) 1 b_ rfl) 2 c_ rfl) 3 d_ rfl) 2 e_ rfl) 3).trans rfl; have hqf5_ : ∀ (a_ b_ c_ d_ e_ : Value), (((((w24.setCell ⟨gb358, 0, none⟩ a_).setCell ⟨gb358, 1, none⟩ b_).setCell ⟨gb358, 2, none⟩ c_).setCell ⟨gb358, 3, none⟩ d_).setCell ⟨gb358, 2, none⟩ e_).frozen? ⟨gb358, 2, none⟩ = false := fun a_ b_ c_ d_ e_ => blk_frozen (blk_put (blk_put (blk_put (blk_put (blk_put BK358.out 0 a_ rfl) 1 b_ rfl) 2 c_ rfl) 3 d_ rfl) 2 e_ rfl) 2))
                        go_roundg k1
                        case measure => have := HK1.out; omega
                        case rel => exact ⟨(wrap64 (x6_1 + ((rd_T75 t351 x8_1).f1))), (y359), (wrap64 (x8_1 + 1)), (by first | rfl | (simp; done) | (simp [*]; done)), (by first | rfl | (simp; done) | (simp [*]; done)), H', ⟨by have := HK1.out; omega⟩, ⟨by (with_reducible repeat (first | apply Kd.R_alloc | apply Kd.R_drewN | apply Kd.R_drew)); exact HO361.out⟩, ⟨by (with_reducible repeat (first | apply Kd.R_alloc | apply Kd.R_drewN | apply Kd.R_drew)); exact Kd.R_mono HO_357000.out (fun _ hk => trivial)⟩, ⟨by (with_reducible repeat (first | refine blk_drewN ?_ _ | refine blk_drew ?_ | refine blk_alloc ?_ _)); exact BK356.out⟩, ⟨by repeat (first | (with_reducible first | exact HB.out | apply below_alloc | apply pw_below_drewN | apply below_drew1 | refine below_set ?_ GE356.out | refine below_set ?_ GE358.out) | exact HB.out)⟩⟩
                      · rw [if_neg c19] at H
                        exact absurd H (by simp)
                    · rw [if_neg c18] at H
                      exact absurd H (by simp)
                  · rw [if_neg c17] at H
                    exact absurd H (by simp)
                · rw [if_neg c16] at H
                  exact absurd H (by simp)
            · rw [if_neg c10] at H
              exact absurd H (by simp)
          · rw [if_neg c9] at H
            have c9b0 : decide (x8_1 < (t351.length : Int)) = false := decide_eq_false c9
            clear c9
            by_cases c26 : x6_1 < (a0.size : Int)
            · rw [if_pos c26] at H
              have c26b0 : decide (x6_1 < (a0.size : Int)) = true := decide_eq_true c26
              clear c26
              simp only [Option.some.injEq, Prod.mk.injEq] at H
              obtain ⟨rfl, rfl⟩ := H
              have hcz27_0 : wr.cell? ⟨gb356, 0, none⟩ = some (.slice Ao7 t351.length co7) := (blk_cell BK356.out 0).trans rfl
              have hcz27_1 : wr.cell? ⟨gb356, 1, none⟩ = some (.int .i64 t354) := (blk_cell BK356.out 1).trans rfl
              have hfz27_0 := blk_frozen BK356.out 0
              have hfz27_1 := blk_frozen BK356.out 1
              go_wp2
              go_ret2
              exact ⟨_, by first | rfl | (simp [errW_none, errW_some] <;> rfl) | (simp [*, errW_none, errW_some] <;> rfl), by first | exact Kd.R_nil _ _ _ _ _ | exact Kd.N_nil _ _ _ _ _ | exact Kd.V_nil _ _ _ _ _ | exact Kd.Q_nil _ _ _ _ _ | exact Kd.S_nil _ _ _ _ _, by repeat (first | (with_reducible first | exact HB.out | apply below_alloc | apply pw_below_drewN | apply below_drew1 | refine below_set ?_ GE356.out) | exact HB.out)⟩
            · rw [if_neg c26] at H
              have c26b0 : decide (x6_1 < (a0.size : Int)) = false := decide_eq_false c26
              clear c26
              simp only [Option.some.injEq, Prod.mk.injEq] at H
              obtain ⟨rfl, rfl⟩ := H
              have hcz28_0 : wr.cell? ⟨gb356, 0, none⟩ = some (.slice Ao7 t351.length co7) := (blk_cell BK356.out 0).trans rfl
              have hcz28_1 : wr.cell? ⟨gb356, 1, none⟩ = some (.int .i64 t354) := (blk_cell BK356.out 1).trans rfl
              have hfz28_0 := blk_frozen BK356.out 0
              have hfz28_1 := blk_frozen BK356.out 1
              go_wp2
              go_ret2
              exact ⟨_, by first | rfl | (simp [errW_none, errW_some] <;> rfl) | (simp [*, errW_none, errW_some] <;> rfl), by (with_reducible repeat (first | apply Kd.R_alloc | apply Kd.R_drewN | apply Kd.R_drew)); exact HO_7.out, by repeat (first | (with_reducible first | exact HB.out | apply below_alloc | apply pw_below_drewN | apply below_drew1 | refine below_set ?_ GE356.out) | exact HB.out)⟩
    · rw [if_neg c4] at H
      have c4b0 : (t355 == 0) = false := beq_eq_false_iff_ne.mpr c4
      have c4b1 : (t355 != 0) = true := bne_iff_ne.mpr c4
      simp only [Option.some.injEq, Prod.mk.injEq] at H
      obtain ⟨rfl, rfl⟩ := H
      go_enter Tryd.func18, Tryd.ntmps18
      go_wp2_with (first | ((with_reducible refine gate_callee (f := 38) rfl ?_); refine goesL_ (some 15) rfl rfl Tryd.func38 (by kernel_rfl) rfl #[.string a0] rfl (by (try simp only [List.map_toArray, List.map_cons, List.map_nil]); first | done | rfl | (simp only [List.length_drop, List.length_take]; rfl)) ?_; (with_reducible refine (barqueref10_Told.calls k a0 t351 t354 t355 _ A3.out).mono ?_); rintro e w29 ⟨v352, rfl, ho0, hb⟩; refine ⟨_, rfl, ?_⟩; have n0_ := Aside0.mk (Kd.R_lower ho0 (below_size (by repeat (first | (with_reducible first | exact HB.out | apply below_alloc | apply pw_below_drewN | apply below_drew1) | exact HB.out)))); have n1_ := Aside0.mk (below_step (by repeat (first | (with_reducible first | exact HB.out | apply below_alloc | apply pw_below_drewN | apply below_drew1) | exact HB.out)) hb); clear HB; have HO353 := n0_; have HB := n1_; clear n0_ n1_; (try clear hb); (try clear hb2); (try clear hk); (try clear hi); (try clear ho0)) | ((with_reducible refine gate_dst (N := 4) rfl ?_); refine box_event ?hg (N := 4) ?hd (cs := #[.slice none 0 0, .int .i64 0]) (t := 71) ?hr ?_; (case hd => rfl); (case hg => rfl); (case hr => first | (go_simp; done) | (go_simp; rfl)); intro gb356 hg w30 hbox hb; have n0_ := Aside0.mk (Kd.R_below (by (with_reducible repeat (first | apply Kd.R_alloc | apply Kd.R_drewN | apply Kd.R_drew)); exact HO353.out) hb); have n1_ := Aside0.mk (below_step (by repeat (first | (with_reducible first | exact HB.out | apply below_alloc | apply pw_below_drewN | apply below_drew1) | exact HB.out)) hb); have n2_ := Aside0.mk (hbox); have n3_ := Aside0.mk ((by rw [hg]; exact (below_size (by repeat (first | (with_reducible first | exact HB.out | apply below_alloc | apply pw_below_drewN | apply below_drew1) | exact HB.out))) : w.heap.size ≤ gb356)); have n4_ := Aside0.mk ((by rw [hg]; exact (below_size (by repeat (first | (with_reducible first | exact HB.out | apply below_alloc | apply pw_below_drewN | apply below_drew1) | exact HB.out))) : w.heap.size ≤ gb356)); clear HO353; clear HB; have HO353 := n0_; have HB := n1_; have BK356 := n2_; have GW356 := n3_; have GE356 := n4_; clear n0_ n1_ n2_ n3_ n4_; clear hb hbox hg; obtain ⟨Ao31, co31, eo31⟩ := Kd.R_slice HO353.out; subst eo31; have hcz32_0 : w30.cell? ⟨gb356, 0, none⟩ = some (.slice none 0 0) := (blk_cell BK356.out 0).trans rfl; have hcz32_1 : w30.cell? ⟨gb356, 1, none⟩ = some (.int .i64 0) := (blk_cell BK356.out 1).trans rfl; have hfz32_0 := blk_frozen BK356.out 0; have hfz32_1 := blk_frozen BK356.out 1))
      go_ret2
      exact ⟨_, by first | rfl | (simp [errW_none, errW_some] <;> rfl) | (simp [*, errW_none, errW_some] <;> rfl), by first | exact Kd.R_nil _ _ _ _ _ | exact Kd.N_nil _ _ _ _ _ | exact Kd.V_nil _ _ _ _ _ | exact Kd.Q_nil _ _ _ _ _ | exact Kd.S_nil _ _ _ _ _, by repeat (first | (with_reducible first | exact HB.out | apply below_alloc | apply pw_below_drewN | apply below_drew1 | refine below_set ?_ GE356.out) | exact HB.out)⟩
end Go.Proofs.YtmeofdpmddjbgaaDoor.G
end
section
namespace Go.Proofs.YtmeofdpmddjbgaaDoor.G
open Go.RowKit Go.Proofs.YtmeofdpmddjbgaaDoorW.PrintWords Go.Proofs.YtmeofdpmddjbgaaDoorW.PrintLast Go.Proofs.YtmeofdpmddjbgaaDoorW.PrintMore
attribute [local go_sem] max2_int min2_int max_two min_two max_three min_three max_four min_four   -- for this text's walks alone
set_option linter.unusedVariables false
set_option linter.unusedSimpArgs false
theorem eqA33 (d : Nat) (w : World) (x0 y0 : ByteArray) (x1 y1 : Int) (x2 y2 : ByteArray) :
    (Op.equalIn (d + 2) 33 (.agg #[.string x0, .int .i64 x1, .string x2]) (.agg #[.string y0, .int .i64 y1, .string y2])).run Tryd.prog w = .ok (x0.toList == y0.toList && (x1 == y1 && (x2.toList == y2.toList))) w := by
  refine eqA_of Tryd.underlying33 (by kernel_rfl) ?_
  refine eqf_cons (by rfl) (by go_simp; rfl) (by go_simp; rfl) (by go_simp) ?_
  refine eqf_cons (by rfl) (by go_simp; rfl) (by go_simp; rfl) (by go_simp) ?_
  exact eqf_last (by rfl) (by go_simp; rfl) (by go_simp; rfl) (by go_simp)
end Go.Proofs.YtmeofdpmddjbgaaDoor.G
end
section
namespace Go.Proofs.YtmeofdpmddjbgaaDoor.G
open Go.RowKit Go.Proofs.YtmeofdpmddjbgaaDoorW.PrintWords Go.Proofs.YtmeofdpmddjbgaaDoorW.PrintLast Go.Proofs.YtmeofdpmddjbgaaDoorW.PrintMore
attribute [local go_sem] max2_int min2_int max_two min_two max_three min_three max_four min_four   -- for this text's walks alone
set_option linter.unusedVariables false
set_option linter.unusedSimpArgs false
attribute [local go_sem high] eqA33
def barqueref09_Files.l0 : Nat → List (S33) → List (S33) → Int → Option (Bool)
  | 0, _, _, _ => none
  | k + 1, x0, x1, x5 => if x5 < (x0.length : Int) then (if 0 ≤ x5 then (if x5 < (x1.length : Int) then (if (!((((rd_T33 x0 x5).f0).toList) == (((rd_T33 x1 x5).f0).toList)) || (!(((rd_T33 x0 x5).f1) == ((rd_T33 x1 x5).f1)) || (!((((rd_T33 x0 x5).f2).toList) == (((rd_T33 x1 x5).f2).toList))))) = true then (some false) else (barqueref09_Files.l0 k x0 x1 (wrap64 (x5 + 1)))) else (none)) else (none)) else (some true)
def barqueref09_Files.f (k : Nat) (l0 : List (S33)) (l1 : List (S33)) : Option (Bool) := if (l0.length : Int) = (l1.length : Int) then (barqueref09_Files.l0 k l0 l1 0) else (some false)
theorem barqueref09_Files.mono_l : ∀ k, (∀ y0 y1 y2, LeO (barqueref09_Files.l0 k y0 y1 y2) (barqueref09_Files.l0 (k + 1) y0 y1 y2))
  | 0 => fun _ _ _ r h => by simp [barqueref09_Files.l0] at h
  | k + 1 => by
    have ih0 := barqueref09_Files.mono_l k
    · intro y0 y1 y2
      unfold barqueref09_Files.l0
      repeat' first
      | (with_reducible exact ih0 _ _ _)
      | (with_reducible exact LeO.refl _)
      | (with_reducible exact LeO.none _)
      | (with_reducible refine LeO.ite ?_ ?_)
      | (with_reducible refine LeO.bind ?_ (fun _ => ?_))
      | exact ih0 _ _ _
      | exact LeO.none _
      | refine LeO.ite ?_ ?_
      | refine LeO.bind ?_ (fun _ => ?_)
theorem barqueref09_Files.mono : ∀ a0 a1 k, LeO (barqueref09_Files.f k a0 a1) (barqueref09_Files.f (k + 1) a0 a1) := by
  intro a0 a1 k
  have ih0 := barqueref09_Files.mono_l k
  unfold barqueref09_Files.f
  repeat' first
      | (with_reducible exact ih0 _ _ _)
      | (with_reducible exact LeO.refl _)
      | (with_reducible exact LeO.none _)
      | (with_reducible refine LeO.ite ?_ ?_)
      | (with_reducible refine LeO.bind ?_ (fun _ => ?_))
      | exact ih0 _ _ _
      | exact LeO.none _
      | refine LeO.ite ?_ ?_
      | refine LeO.bind ?_ (fun _ => ?_)
set_option maxHeartbeats 8000000 in
set_option maxRecDepth 100000 in
theorem barqueref09_Files.calls (k : Nat) (A0 : Option Addr) (c0 : Nat) (l0 : List (S33)) (A1 : Option Addr) (c1 : Nat) (l1 : List (S33)) (r : Bool) (w : World) (hr0 : Kd.C k33 w A0 l0.length l0) (hc0 : l0.length ≤ c0) (hr1 : Kd.C k33 w A1 l1.length l1) (hc1 : l1.length ≤ c1) (h : barqueref09_Files.f k l0 l1 = some r) :
    Calls Tryd.prog 19 #[.slice A0 l0.length c0, .slice A1 l1.length c1] w fun e w' => e = .returned (.bool r) ∧ Drawn0 w w' := by
  have hu33 := Tryd.underlying33
  have HR0 := Aside0.mk hr0
  have HC0 := Aside0.mk hc0
  clear hr0 hc0
  have HR1 := Aside0.mk hr1
  have HC1 := Aside0.mk hc1
  clear hr1 hc1
  have H : (if (l0.length : Int) = (l1.length : Int) then (barqueref09_Files.l0 k l0 l1 0) else (some false)) = some r := h
  clear h
  by_cases c3 : (l0.length : Int) = (l1.length : Int)
  · rw [if_pos c3] at H
    have c3b0 : ((l0.length : Int) == (l1.length : Int)) = true := beq_iff_eq.mpr c3
    have c3b1 : ((l0.length : Int) != (l1.length : Int)) = false := bne_eq_false_iff_eq.mpr c3
    have c3b2 : (l0.length == l1.length) = true := by first | simpa using c3 | (simp at c3 ⊢; omega)
    clear c3
    have H' := Aside0.mk H
    clear H
    go_enter Tryd.func19, Tryd.ntmps19
    go_wp2
    repeat (go_quiet (fail); try go_wp2)
    go_loopg [5] k (fun kq v5 w' => ∃ (x5_1 : Int), v5 = .int .i64 x5_1 ∧ Aside0 (barqueref09_Files.l0 kq l0 l1 x5_1 = some r) ∧ Aside0 (kq ≤ k) ∧ Drawn0 w w')
    case atStart => exact ⟨(0), (by first | rfl | (simp; done) | (simp [*]; done)), H', ⟨Nat.le_refl _⟩, by repeat (first | exact Drawn0.refl _ | apply Drawn0.step)⟩
    case round =>
      clear H'
      try clear c1
      try clear p2
      try clear c3
      try clear c3b0
      try clear c3b1
      try clear c3b2
      obtain ⟨x5_1, rfl, HA, HK1, ⟨m1, rfl⟩⟩ := hrel
      cases gk with
      | zero => exact absurd HA.out (by simp [barqueref09_Files.l0])
      | succ k1 =>
        have H := HA.out
        clear HA
        simp only [barqueref09_Files.l0] at H
        by_cases c4 : x5_1 < (l0.length : Int)
        · rw [if_pos c4] at H
          have c4b0 : decide (x5_1 < (l0.length : Int)) = true := decide_eq_true c4
          clear c4
          by_cases c5 : 0 ≤ x5_1
          · rw [if_pos c5] at H
            have c5b0 : decide (0 ≤ x5_1) = true := decide_eq_true c5
            clear c5
            by_cases c6 : x5_1 < (l1.length : Int)
            · rw [if_pos c6] at H
              have c6b0 : decide (x5_1 < (l1.length : Int)) = true := decide_eq_true c6
              clear c6
              by_cases c7 : (!((((rd_T33 l0 x5_1).f0).toList) == (((rd_T33 l1 x5_1).f0).toList)) || (!(((rd_T33 l0 x5_1).f1) == ((rd_T33 l1 x5_1).f1)) || (!((((rd_T33 l0 x5_1).f2).toList) == (((rd_T33 l1 x5_1).f2).toList))))) = true
              · rw [if_pos c7] at H
                have c7b0 : (!((((rd_T33 l0 x5_1).f0).toList) == (((rd_T33 l1 x5_1).f0).toList)) || (!(((rd_T33 l0 x5_1).f1) == ((rd_T33 l1 x5_1).f1)) || (!((((rd_T33 l0 x5_1).f2).toList) == (((rd_T33 l1 x5_1).f2).toList))))) = true := c7
                clear c7
                obtain rfl := Option.some.inj H
                have p362 : 0 ≤ (x5_1 : Int) := of_decide_eq_true (by first | (with_reducible assumption) | assumption)
                have q362 : x5_1 < (l0.length : Int) := of_decide_eq_true (by first | (with_reducible assumption) | assumption)
                obtain ⟨ad362, e362, hx362_0, hx362_1, hx362_2⟩ := at_T33 HR0.out x5_1 p362 q362
                cases e362
                replace p362 := eq_true p362
                replace q362 := eq_true q362
                have p363 : 0 ≤ (x5_1 : Int) := of_decide_eq_true (by first | (with_reducible assumption) | assumption)
                have q363 : x5_1 < (l1.length : Int) := of_decide_eq_true (by first | (with_reducible assumption) | assumption)
                obtain ⟨ad363, e363, hx363_0, hx363_1, hx363_2⟩ := at_T33 HR1.out x5_1 p363 q363
                cases e363
                replace p363 := eq_true p363
                replace q363 := eq_true q363
                go_wp2
                repeat (go_quiet (fail); try go_wp2)
                go_ret
                exact ⟨by first | rfl | (simp; done) | (simp [*]; done), by repeat (first | exact Drawn0.refl _ | apply Drawn0.step)⟩
              · rw [if_neg c7] at H
                have c7b0 : (!((((rd_T33 l0 x5_1).f0).toList) == (((rd_T33 l1 x5_1).f0).toList)) || (!(((rd_T33 l0 x5_1).f1) == ((rd_T33 l1 x5_1).f1)) || (!((((rd_T33 l0 x5_1).f2).toList) == (((rd_T33 l1 x5_1).f2).toList))))) = false := by simpa using c7
                clear c7
                have H' := Aside0.mk H
                clear H
                have p362 : 0 ≤ (x5_1 : Int) := of_decide_eq_true (by first | (with_reducible assumption) | assumption)
                have q362 : x5_1 < (l0.length : Int) := of_decide_eq_true (by first | (with_reducible assumption) | assumption)
                obtain ⟨ad362, e362, hx362_0, hx362_1, hx362_2⟩ := at_T33 HR0.out x5_1 p362 q362
                cases e362
                replace p362 := eq_true p362
                replace q362 := eq_true q362
                have p363 : 0 ≤ (x5_1 : Int) := of_decide_eq_true (by first | (with_reducible assumption) | assumption)
                have q363 : x5_1 < (l1.length : Int) := of_decide_eq_true (by first | (with_reducible assumption) | assumption)
                obtain ⟨ad363, e363, hx363_0, hx363_1, hx363_2⟩ := at_T33 HR1.out x5_1 p363 q363
                cases e363
                replace p363 := eq_true p363
                replace q363 := eq_true q363
                go_wp2
                repeat (go_quiet (fail); try go_wp2)
                go_roundg k1
                case measure => have := HK1.out; omega
                case rel => exact ⟨(wrap64 (x5_1 + 1)), (by first | rfl | (simp; done) | (simp [*]; done)), H', ⟨by have := HK1.out; omega⟩, by repeat (first | exact Drawn0.refl _ | apply Drawn0.step)⟩
            · rw [if_neg c6] at H
              exact absurd H (by simp)
          · rw [if_neg c5] at H
            exact absurd H (by simp)
        · rw [if_neg c4] at H
          have c4b0 : decide (x5_1 < (l0.length : Int)) = false := decide_eq_false c4
          clear c4
          obtain rfl := Option.some.inj H
          go_wp2
          repeat (go_quiet (fail); try go_wp2)
          go_ret
          exact ⟨by first | rfl | (simp; done) | (simp [*]; done), by repeat (first | exact Drawn0.refl _ | apply Drawn0.step)⟩
  · rw [if_neg c3] at H
    have c3b0 : ((l0.length : Int) == (l1.length : Int)) = false := beq_eq_false_iff_ne.mpr c3
    have c3b1 : ((l0.length : Int) != (l1.length : Int)) = true := bne_iff_ne.mpr c3
    have c3b2 : (l0.length == l1.length) = false := by first | simpa using c3 | (simp at c3 ⊢; omega)
    obtain rfl := Option.some.inj H
    go_enter Tryd.func19, Tryd.ntmps19
    go_wp2
    repeat (go_quiet (fail); try go_wp2)
    go_ret
    exact ⟨by first | rfl | (simp; done) | (simp [*]; done), by repeat (first | exact Drawn0.refl _ | apply Drawn0.step)⟩
end Go.Proofs.YtmeofdpmddjbgaaDoor.G
end
section
namespace Go.Proofs.YtmeofdpmddjbgaaDoor.G
open Go.RowKit Go.Proofs.YtmeofdpmddjbgaaDoorW.PrintWords Go.Proofs.YtmeofdpmddjbgaaDoorW.PrintLast Go.Proofs.YtmeofdpmddjbgaaDoorW.PrintMore
set_option linter.unusedVariables false
set_option linter.unusedSimpArgs false
theorem files_l0 (l : List S33) (hl : l.length ≤ 4294967296) : ∀ (d i : Nat), l.length - i = d → i ≤ l.length →
    Ev (fun k => barqueref09_Files.l0 k l l i) true := by
  intro d
  induction d with
  | zero =>
    intro i hd hi
    have e : i = l.length := by omega
    subst e
    apply Ev.step
    · intro k; rw [barqueref09_Files.l0]
    have c1 : ¬ ((l.length : Int) < (l.length : Int)) := by omega
    simp only [c1, ↓reduceIte]
    exact Ev.now _
  | succ d ih =>
    intro i hd hi
    have hlt : i < l.length := by omega
    apply Ev.step
    · intro k; rw [barqueref09_Files.l0]
    have c1 : ((i : Int) < (l.length : Int)) := by omega
    have c2 : (0 : Int) ≤ (i : Int) := by omega
    have hw : wrap64 ((i : Int) + 1) = ((i + 1 : Nat) : Int) := by rw [w64_ (by omega) (by omega)]; omega
    simp only [c1, c2, ↓reduceIte, hw, beq_self_eq_true, Bool.not_true, Bool.or_self, Bool.false_eq_true]
    exact ih (i + 1) (by omega) (by omega)
theorem files_ev (l : List S33) (hl : l.length ≤ 4294967296) : Ev (fun k => barqueref09_Files.f k l l) true := by
  unfold barqueref09_Files.f
  simp only [↓reduceIte]
  exact files_l0 l hl l.length 0 (by omega) (by omega)
theorem rd_nat_ (l : List Int) (i : Nat) (h : i < l.length) : rd l (i : Int) = l[i] := by
  unfold rd
  simp [List.getD_eq_getElem?_getD, h]
/-- A head's file: how long it is may be. -/
def okZ (x : S75) : Prop := 0 ≤ x.f1 ∧ x.f1 ≤ 65536 ∧ x.f0.f2 = ⟨#[]⟩
theorem headGo_ok (s : ByteArray) : ∀ (d : Nat) (fs : List S75) (a : Nat), a ≤ s.size → (∀ x ∈ fs, okZ x) → (headGo s d fs a).2.1 ≤ s.size ∧ (headGo s d fs a).1.length ≤ fs.length + d ∧ ∀ x ∈ (headGo s d fs a).1, okZ x
  | 0, fs, a, ha, hx => ⟨ha, Nat.le_refl _, hx⟩
  | d + 1, fs, a, ha, hx => by
    rw [headGo]
    have h3 := (fileR_at s a ha).2.2
    have hok := fileR_ok s a
    obtain ⟨r, hr⟩ : ∃ r, fileR s a = r := ⟨_, rfl⟩
    rw [hr] at h3 hok ⊢
    by_cases q : r.c.2.2 = 0
    · rw [if_pos q]
      obtain ⟨_, _, o3, o4, _⟩ := hok q
      have ih := headGo_ok s d (fs ++ [⟨⟨r.t.1, r.m.1, ⟨#[]⟩⟩, r.c.1⟩]) r.c.2.1 h3 (fun x hm => by
        rcases List.mem_append.1 hm with h | h
        · exact hx x h
        · rw [List.mem_singleton.1 h]; exact ⟨o3, o4, rfl⟩)
      refine ⟨ih.1, ?_, ih.2.2⟩
      have := ih.2.1
      rw [List.length_append, List.length_singleton] at this
      omega
    · rw [if_neg q]
      exact ⟨Nat.zero_le _, Nat.zero_le _, fun x hm => by cases hm⟩
theorem headE_ok (s : ByteArray) : (headE s).2.1 ≤ s.size ∧ (headE s).1.length ≤ 256 ∧ ∀ x ∈ (headE s).1, okZ x := by
  unfold headE
  have a1 := countS_at s 0 0 256 (Nat.zero_le _)
  have r1 := countS_range s 0 0 256
  have h1 := countS_e s 0 0 256
  obtain ⟨c, hc⟩ : ∃ c, countS s 0 0 256 = c := ⟨_, rfl⟩
  rw [hc] at a1 r1 h1 ⊢
  by_cases q : c.2.2 = 0
  · rw [if_pos q]
    have hm := (h1 q).2
    have := headGo_ok s c.1.toNat [] c.2.1 a1.2 (fun x hm => by cases hm)
    obtain ⟨x, hx⟩ : ∃ x, headGo s c.1.toNat [] c.2.1 = x := ⟨_, rfl⟩
    rw [hx] at this ⊢
    rw [List.length_nil] at this
    unfold headFin
    split
    · split
      · exact ⟨this.1, by omega, this.2.2⟩
      · exact ⟨Nat.zero_le _, Nat.zero_le _, fun x hm => by cases hm⟩
    · exact ⟨Nat.zero_le _, Nat.zero_le _, fun x hm => by cases hm⟩
  · rw [if_neg q]
    exact ⟨Nat.zero_le _, Nat.zero_le _, fun x hm => by cases hm⟩
/-- The files' bytes behind a head. -/
def dataGo (s : ByteArray) : List S75 → Nat → List S33 → List S33 × Int
  | [], a, out => if a < s.size then ([], 4) else (out, 0)
  | x :: fs, a, out => if (s.size : Int) - a < x.f1 then ([], 3) else dataGo s fs (a + x.f1.toNat) (out ++ [⟨x.f0.f0, x.f0.f1, s.extract a (a + x.f1.toNat)⟩])
def treeE (s : ByteArray) : List S33 × Int := if 524288 < s.size then ([], 4) else if (headE s).2.2 = 0 then dataGo s (headE s).1 (headE s).2.1 [] else ([], (headE s).2.2)
theorem set_mid_ {α : Type} (X Y : List α) (p v : α) (i : Nat) (h : X.length = i) : (X ++ p :: Y).set i v = X ++ v :: Y := by
  subst h
  rw [List.set_append_right _ _ (Nat.le_refl _), Nat.sub_self, List.set_cons_zero]
theorem imagetree_l0 (s : ByteArray) (hs : s.size ≤ 140737488351232) (all : List S75) (hl : all.length ≤ 256) (hok : ∀ x ∈ all, okZ x) : ∀ (d i : Nat) (out : List S33) (a : Nat), all.length - i = d → i ≤ all.length → out.length = i → a ≤ s.size →
    Ev (fun k => image_Tree.l0 k s (out ++ (all.drop i).map (·.f0)) (a : Int) (all.map (·.f1)) (all.length : Int) (i : Int)) (dataGo s (all.drop i) a out) := by
  intro d
  induction d with
  | zero =>
    intro i out a hd hi ho ha
    have e : i = all.length := by omega
    subst e
    rw [List.drop_length, List.map_nil, List.append_nil]
    apply Ev.step
    · intro k; rw [image_Tree.l0]
    have c1 : ¬ ((all.length : Int) < (all.length : Int)) := Int.lt_irrefl _
    simp only [c1, ↓reduceIte]
    unfold dataGo
    by_cases q : a < s.size
    · have q2 : (a : Int) < (s.size : Int) := by omega
      simp only [q, q2, ↓reduceIte]
      exact Ev.now _
    · have q2 : ¬ (a : Int) < (s.size : Int) := by omega
      simp only [q, q2, ↓reduceIte]
      exact Ev.now _
  | succ d ih =>
    intro i out a hd hi ho ha
    have hlt : i < all.length := by omega
    obtain ⟨o1, o2, o3⟩ := hok _ (List.getElem_mem hlt)
    have c1 : ((i : Int) < (all.length : Int)) := by omega
    have c2 : (0 : Int) ≤ (i : Int) := by omega
    have c3 : (i : Int) < ((all.map (fun y => y.f1)).length : Int) := by rw [List.length_map]; exact c1
    have c4 : (i : Int) < ((out ++ (all.drop i).map (fun y => y.f0)).length : Int) := by rw [List.length_append, List.length_map, List.length_drop]; omega
    have hw : wrap64 ((i : Int) + 1) = ((i + 1 : Nat) : Int) := by rw [w64_ (by omega) (by omega)]; omega
    have hr : rd (all.map (fun y => y.f1)) (i : Int) = (all[i]'hlt).f1 := by rw [rd_nat_ _ i (by rw [List.length_map]; exact hlt), List.getElem_map]
    have hf : rd_T33 (out ++ (all.drop i).map (fun y => y.f0)) (i : Int) = (all[i]'hlt).f0 := by
      rw [rdF_nat _ i (Int.ofNat_lt.1 c4), List.getElem_append_right (Nat.le_of_eq ho), List.getElem_map, List.getElem_drop]
      congr 2
      rw [ho, Nat.sub_self, Nat.add_zero]
    rw [List.drop_eq_getElem_cons hlt] at hf c4 ⊢
    rw [dataGo]
    obtain ⟨x, hx⟩ : ∃ x, all[i]'hlt = x := ⟨_, rfl⟩
    rw [hx] at o1 o2 o3 hr hf c4 ⊢
    rw [List.map_cons] at hf c4 ⊢
    have c5 : (0 : Int) ≤ (a : Int) := by omega
    apply Ev.step
    · intro k; rw [image_Tree.l0]
    have hsub : wrap64 ((s.size : Int) - (a : Int)) = (s.size : Int) - (a : Int) := w64_ (by omega) (by omega)
    by_cases q : (s.size : Int) - (a : Int) < x.f1
    · have q2 : x.f1 > (s.size : Int) - (a : Int) := q
      simp only [c1, c2, c3, hr, hsub, q, q2, ↓reduceIte]
      exact Ev.now _
    · have q2 : ¬ x.f1 > (s.size : Int) - (a : Int) := q
      have hadd : wrap64 ((a : Int) + x.f1) = ((a + x.f1.toNat : Nat) : Int) := by rw [w64_ (by omega) (by omega)]; omega
      have c6 : (a : Int) ≤ ((a + x.f1.toNat : Nat) : Int) := by omega
      have c7 : ((a + x.f1.toNat : Nat) : Int) ≤ (s.size : Int) := by omega
      simp only [c1, c2, c3, c4, c5, c6, c7, hr, hsub, hadd, hf, q, q2, ↓reduceIte, hw, Int.toNat_natCast]
      rw [set_mid_ out _ _ _ i ho]
      have := ih (i + 1) (out ++ [⟨x.f0.f0, x.f0.f1, s.extract a (a + x.f1.toNat)⟩]) (a + x.f1.toNat) (by omega) (by omega) (by rw [List.length_append, List.length_singleton, ho]) (by omega)
      rw [List.append_assoc, List.singleton_append] at this
      exact this
theorem imagetree_ev (s : ByteArray) (hs : s.size ≤ 140737488351232) : Ev (fun k => image_Tree.f k s) (treeE s) := by
  unfold image_Tree.f treeE
  by_cases q : 524288 < s.size
  · have q2 : (s.size : Int) > 524288 := by omega
    simp only [q, q2, ↓reduceIte]
    exact Ev.now _
  · have q2 : ¬ (s.size : Int) > 524288 := by omega
    simp only [q, q2, ↓reduceIte]
    refine Ev.bind (imghead_ev s hs) ?_
    unfold imgh
    obtain ⟨h1, h2, h3⟩ := headE_ok s
    obtain ⟨x, hx⟩ : ∃ x, headE s = x := ⟨_, rfl⟩
    rw [hx] at h1 h2 h3 ⊢
    by_cases g : x.2.2 = 0
    · simp only [g, ↓reduceIte, List.length_map]
      have := imagetree_l0 s hs x.1 h2 h3 x.1.length 0 [] x.2.1 (by omega) (by omega) rfl h1
      rw [List.drop_zero, List.nil_append] at this
      exact this
    · simp only [g, ↓reduceIte]
      exact Ev.now _
theorem dataGo_length (s : ByteArray) : ∀ (fs : List S75) (a : Nat) (out : List S33), (dataGo s fs a out).1.length ≤ out.length + fs.length
  | [], a, out => by
    unfold dataGo
    split
    · exact Nat.zero_le _
    · exact Nat.le_refl _
  | x :: fs, a, out => by
    unfold dataGo
    split
    · exact Nat.zero_le _
    · have := dataGo_length s fs (a + x.f1.toNat) (out ++ [⟨x.f0.f0, x.f0.f1, s.extract a (a + x.f1.toNat)⟩])
      rw [List.length_append, List.length_singleton] at this
      rw [List.length_cons]
      omega
theorem treeE_length (s : ByteArray) : (treeE s).1.length ≤ 256 := by
  unfold treeE
  split
  · exact Nat.zero_le _
  · split
    · have h1 := dataGo_length s (headE s).1 (headE s).2.1 []
      have h2 := (headE_ok s).2.1
      rw [List.length_nil] at h1
      omega
    · exact Nat.zero_le _
theorem cut_f (s : ByteArray) : ∃ t : ByteArray, t.size ≤ 20000 ∧ barquelaw10_cut.f s = some t := by
  unfold barquelaw10_cut.f
  by_cases h : (s.size : Int) > 20000
  · have h2 : (20000 : Int) ≤ (s.size : Int) := by omega
    have h3 : (0 : Int) ≤ 20000 := by decide
    simp only [h, h2, h3, ↓reduceIte]
    exact ⟨_, by rw [ByteArray.size_extract]; omega, rfl⟩
  · simp only [h, ↓reduceIte]
    exact ⟨s, by omega, rfl⟩
end Go.Proofs.YtmeofdpmddjbgaaDoor.G
end
section
namespace Go.Proofs.YtmeofdpmddjbgaaDoor.G
open Go.RowKit Go.Proofs.YtmeofdpmddjbgaaDoorW.PrintWords Go.Proofs.YtmeofdpmddjbgaaDoorW.PrintLast Go.Proofs.YtmeofdpmddjbgaaDoorW.PrintMore
set_option linter.unusedVariables false
set_option linter.unusedSimpArgs false
/-- From a place on stand these bytes, then the text goes on at another place. -/
def Std (s : ByteArray) (a : Nat) (b : List UInt8) (a2 : Nat) : Prop := s.data.toList.drop a = b ++ s.data.toList.drop a2 ∧ a2 = a + b.length ∧ a2 ≤ s.size
theorem Std.trans {s : ByteArray} {a a1 a2 : Nat} {b c : List UInt8} (h : Std s a b a1) (k : Std s a1 c a2) : Std s a (b ++ c) a2 := by
  obtain ⟨h1, h2, h3⟩ := h
  obtain ⟨k1, k2, k3⟩ := k
  exact ⟨by rw [h1, k1, List.append_assoc], by rw [List.length_append]; omega, k3⟩
theorem Std.split {s : ByteArray} {a a2 : Nat} {b c : List UInt8} (h : Std s a (b ++ c) a2) : Std s a b (a + b.length) ∧ Std s (a + b.length) c a2 := by
  obtain ⟨h1, h2, h3⟩ := h
  rw [List.length_append] at h2
  have e : s.data.toList.drop (a + b.length) = c ++ s.data.toList.drop a2 := by
    rw [← List.drop_drop, h1, List.append_assoc, List.drop_left]
  exact ⟨⟨by rw [h1, e, List.append_assoc], rfl, by omega⟩, ⟨e, by omega, h3⟩⟩
theorem Std.nil (s : ByteArray) (a : Nat) (h : a ≤ s.size) : Std s a [] a := ⟨rfl, rfl, h⟩
theorem Std.head {s : ByteArray} {a a2 : Nat} {c : UInt8} {b : List UInt8} (h : Std s a (c :: b) a2) : a < s.size ∧ bt s (a : Int) = (c.toNat : Int) ∧ Std s (a + 1) b a2 := by
  obtain ⟨h1, h2, h3⟩ := h
  rw [List.length_cons] at h2
  have hlt : a < s.size := by omega
  have hl : a < s.data.toList.length := by rw [sz_]; exact hlt
  rw [List.drop_eq_getElem_cons hl, List.cons_append] at h1
  injection h1 with e1 e2
  refine ⟨hlt, ?_, e2, by omega, h3⟩
  rw [bt_nat s a hlt, e1]
theorem Std.cons {s : ByteArray} {a a2 : Nat} {c : UInt8} {b : List UInt8} (hlt : a < s.size) (hb : bt s (a : Int) = (c.toNat : Int)) (h : Std s (a + 1) b a2) : Std s a (c :: b) a2 := by
  obtain ⟨h1, h2, h3⟩ := h
  have hl : a < s.data.toList.length := by rw [sz_]; exact hlt
  rw [bt_nat s a hlt] at hb
  have e : s.data.toList[a]'hl = c := UInt8.toNat_inj.1 (Int.ofNat.inj hb)
  refine ⟨?_, by rw [List.length_cons]; omega, h3⟩
  rw [List.drop_eq_getElem_cons hl, e, h1, List.cons_append]
def numU (n : Nat) : List UInt8 := (numL n).map fun x => UInt8.ofNat x.toNat
theorem numU_small (n : Nat) (h : n < 128) : numU n = [UInt8.ofNat n] := by
  unfold numU
  rw [numL_small n h]
  rfl
theorem numU_big (n : Nat) (h : ¬ n < 128) : numU n = UInt8.ofNat (n % 128 + 128) :: numU (n / 128) := by
  unfold numU
  rw [numL_big n h]
  rfl
theorem numB_numU (n : Nat) (h : n ≤ 4611686018427387903) : numB (n : Int) = numU n := by
  unfold numB numE
  rw [if_neg (by omega), Int.toNat_natCast]
  exact strOfNums_data _
theorem ofNat_toNat_ (n : Nat) (h : n < 256) : (UInt8.ofNat n).toNat = n := by
  rw [UInt8.toNat_ofNat']
  omega
theorem numGo_fwd (s : ByteArray) : ∀ (d i n a x a2 : Nat), 9 - i = d → i ≤ 8 → (i = 0 ∨ 0 < x) → x * 128 ^ i < 4611686018427387904 → Std s a (numU x) a2 → numGo s d i n a = (((n + x * 128 ^ i : Nat) : Int), a2, 0) := by
  intro d
  induction d with
  | zero => intro i n a x a2 hd hi; omega
  | succ d ih =>
    intro i n a x a2 hd hi hx hb hs
    unfold numGo
    by_cases c : x < 128
    · rw [numU_small x c] at hs
      obtain ⟨h1, h2, h3⟩ := hs.head
      obtain ⟨_, h4, _⟩ := h3
      rw [ofNat_toNat_ x (by omega)] at h2
      have e8 : i = 8 → x ≤ 63 := fun e => by subst e; omega
      rw [if_pos h1, h2, Int.toNat_natCast, if_neg (by omega), if_pos c, Nat.mod_eq_of_lt c]
      simp only [List.length_nil, Nat.add_zero] at h4
      rw [h4]
    · rw [numU_big x c] at hs
      obtain ⟨h1, h2, h3⟩ := hs.head
      rw [ofNat_toNat_ (x % 128 + 128) (by omega)] at h2
      have e8 : i ≠ 8 := fun e => by subst e; omega
      rw [if_pos h1, h2, Int.toNat_natCast, if_neg (by omega), if_neg (by omega)]
      have em : (x % 128 + 128) % 128 = x % 128 := by omega
      rw [em]
      have hp : x / 128 * 128 ^ (i + 1) + x % 128 * 128 ^ i = x * 128 ^ i := by
        rw [Nat.pow_succ, Nat.mul_comm (128 ^ i) 128, ← Nat.mul_assoc, ← Nat.add_mul]
        congr 1
        omega
      rw [ih (i + 1) (n + x % 128 * 128 ^ i) (a + 1) (x / 128) a2 (by omega) (by omega) (.inr (by omega)) (by omega) h3]
      have e2 : n + x % 128 * 128 ^ i + x / 128 * 128 ^ (i + 1) = n + x * 128 ^ i := by omega
      rw [e2]
theorem numS_fwd (s : ByteArray) (a a2 : Nat) (x : Int) (h0 : 0 ≤ x) (h1 : x ≤ 4611686018427387903) (h : Std s a (numB x) a2) : numS s a 0 = (x, a2, 0) := by
  obtain ⟨n, rfl⟩ : ∃ n : Nat, x = (n : Int) := ⟨x.toNat, by omega⟩
  rw [numB_numU n (by omega)] at h
  unfold numS
  rw [if_pos rfl, numGo_fwd s 9 0 0 a n a2 rfl (by decide) (.inl rfl) (by omega) h]
  simp
theorem countS_fwd (s : ByteArray) (a a2 : Nat) (x most : Int) (h0 : 0 ≤ x) (h1 : x ≤ 4611686018427387903) (hm : x ≤ most) (h : Std s a (numB x) a2) : countS s a 0 most = (x, a2, 0) := by
  unfold countS
  rw [numS_fwd s a a2 x h0 h1 h, if_neg (by show ¬ ((0 : Int) = 0 ∧ most < x); omega)]
theorem extract_list_ (s : ByteArray) (a b : Nat) : (s.extract a b).data.toList = (s.data.toList.take b).drop a := by rw [extract_ba]
theorem rawS_fwd (s : ByteArray) (a a2 : Nat) (b : List UInt8) (h : Std s a b a2) : rawS s a 0 (b.length : Int) = (⟨b.toArray⟩, a2, 0) := by
  obtain ⟨h1, h2, h3⟩ := h
  unfold rawS
  rw [if_pos rfl, if_neg (by omega), if_neg (by omega), Int.toNat_natCast, ← h2]
  have e : s.extract a a2 = ⟨b.toArray⟩ := by
    rw [extract_ba]
    congr 2
    rw [List.drop_take, h1, h2]
    rw [Nat.add_sub_cancel_left, List.take_left]
  rw [e]
theorem textS_fwd (s : ByteArray) (a a2 : Nat) (b : List UInt8) (most : Nat) (hm : b.length ≤ most) (hM : most ≤ 4611686018427387903) (h : Std s a (numB (b.length : Int) ++ b) a2) : textS s a 0 (most : Int) = (⟨b.toArray⟩, a2, 0) := by
  obtain ⟨h1, h2⟩ := h.split
  unfold textS
  rw [countS_fwd s a _ (b.length : Int) most (Int.natCast_nonneg _) (by omega) (by omega) h1]
  exact rawS_fwd s _ a2 b h2
theorem numGo_bwd (s : ByteArray) : ∀ (d i n a : Nat), 9 - i = d → i ≤ 8 → a ≤ s.size → (numGo s d i n a).2.2 = 0 → ∃ x : Nat, (numGo s d i n a).1 = ((n + x * 128 ^ i : Nat) : Int) ∧ (i = 0 ∨ 0 < x) ∧ x * 128 ^ i < 4611686018427387904 ∧ Std s a (numU x) (numGo s d i n a).2.1 := by
  intro d
  induction d with
  | zero => intro i n a hd hi; omega
  | succ d ih =>
    intro i n a hd hi ha h
    unfold numGo at h ⊢
    by_cases c : a < s.size
    · rw [if_pos c] at h ⊢
      obtain ⟨b, hb⟩ : ∃ b : Nat, bt s (a : Int) = (b : Int) := ⟨(bt s (a : Int)).toNat, by have := bt_range s (a : Int); omega⟩
      have hb5 : b ≤ 255 := by have := bt_range s (a : Int); omega
      rw [hb, Int.toNat_natCast] at h ⊢
      by_cases c1 : (i = 8 ∧ 63 < b) ∨ (0 < i ∧ b = 0)
      · rw [if_pos c1] at h
        exact absurd h (by show ¬ (5 : Int) = 0; decide)
      · rw [if_neg c1] at h ⊢
        have hP : 128 ^ i ≤ 72057594037927936 := Nat.le_trans (Nat.pow_le_pow_right (by decide) hi) (by decide)
        by_cases c2 : b < 128
        · rw [if_pos c2] at h ⊢
          refine ⟨b, ?_, ?_, ?_, ?_⟩
          · rw [Nat.mod_eq_of_lt c2]
          · omega
          · by_cases e8 : i = 8
            · subst e8; omega
            · have hP7 : 128 ^ i ≤ 562949953421312 := Nat.le_trans (Nat.pow_le_pow_right (by decide) (by omega : i ≤ 7)) (by decide)
              have : b * 128 ^ i ≤ 127 * 128 ^ i := Nat.mul_le_mul_right _ (by omega)
              omega
          · rw [numU_small b c2]
            exact Std.cons c (by rw [hb, ofNat_toNat_ b (by omega)]) (Std.nil s (a + 1) c)
        · rw [if_neg c2] at h ⊢
          have e8 : i ≠ 8 := fun e => c2 (by omega)
          obtain ⟨x, h1, h2, h3, h4⟩ := ih (i + 1) (n + b % 128 * 128 ^ i) (a + 1) (by omega) (by omega) c h
          have hx : 0 < x := h2.resolve_left (by omega)
          have hp : (b % 128 + 128 * x) * 128 ^ i = b % 128 * 128 ^ i + x * 128 ^ (i + 1) := by
            rw [Nat.add_mul, Nat.pow_succ, Nat.mul_comm 128 x, Nat.mul_assoc, Nat.mul_comm 128 (128 ^ i)]
          refine ⟨b % 128 + 128 * x, ?_, .inr (by omega), ?_, ?_⟩
          · rw [h1, hp, Nat.add_assoc]
          · rw [hp]
            have hb127 : b % 128 * 128 ^ i ≤ 127 * 128 ^ i := Nat.mul_le_mul_right _ (by omega)
            have hpow : (128 : Nat) ^ (i + 1) = 128 ^ i * 128 := Nat.pow_succ ..
            obtain ⟨e, he⟩ : ∃ e, 8 = i + 1 + e := ⟨8 - (i + 1), by omega⟩
            have hdv : 4611686018427387904 = 64 * 128 ^ e * 128 ^ (i + 1) := by
              rw [Nat.mul_assoc, ← Nat.pow_add, show e + (i + 1) = 8 by omega]
            rw [hdv] at h3 ⊢
            have hlt : x < 64 * 128 ^ e := Nat.lt_of_mul_lt_mul_right h3
            have hle : (x + 1) * 128 ^ (i + 1) ≤ 64 * 128 ^ e * 128 ^ (i + 1) := Nat.mul_le_mul_right _ hlt
            rw [Nat.add_mul, Nat.one_mul] at hle
            have hpos : 0 < (128 : Nat) ^ i := Nat.pow_pos (by decide)
            omega
          · rw [numU_big _ (by omega)]
            have e1 : (b % 128 + 128 * x) % 128 + 128 = b := by omega
            have e2 : (b % 128 + 128 * x) / 128 = x := by omega
            rw [e1, e2]
            exact Std.cons c (by rw [hb, ofNat_toNat_ b (by omega)]) h4
    · rw [if_neg c] at h
      exact absurd h (by show ¬ (3 : Int) = 0; decide)
theorem numS_bwd (s : ByteArray) (a : Nat) (e : Int) (ha : a ≤ s.size) (h : (numS s a e).2.2 = 0) : Std s a (numB (numS s a e).1) (numS s a e).2.1 ∧ 0 ≤ (numS s a e).1 ∧ (numS s a e).1 ≤ 4611686018427387903 := by
  have hr := numS_range s a e
  unfold numS at h hr ⊢
  by_cases c : e = 0
  · rw [if_pos c] at h hr ⊢
    obtain ⟨x, h1, h2, h3, h4⟩ := numGo_bwd s 9 0 0 a rfl (by decide) ha h
    simp only [Nat.pow_zero, Nat.mul_one, Nat.zero_add] at h1 h3
    refine ⟨?_, hr⟩
    rw [h1, numB_numU x (by omega)]
    exact h4
  · rw [if_neg c] at h
    exact absurd h c
theorem countS_bwd (s : ByteArray) (a : Nat) (e most : Int) (ha : a ≤ s.size) (h : (countS s a e most).2.2 = 0) : Std s a (numB (countS s a e most).1) (countS s a e most).2.1 := by
  unfold countS at h ⊢
  by_cases c : (numS s a e).2.2 = 0 ∧ most < (numS s a e).1
  · rw [if_pos c] at h
    exact absurd h (by show ¬ (4 : Int) = 0; decide)
  · rw [if_neg c] at h ⊢
    exact (numS_bwd s a e ha h).1
theorem rawS_bwd (s : ByteArray) (a : Nat) (e n : Int) (ha : a ≤ s.size) (h : (rawS s a e n).2.2 = 0) : Std s a (rawS s a e n).1.data.toList (rawS s a e n).2.1 ∧ ((rawS s a e n).1.size : Int) = n := by
  unfold rawS at h ⊢
  by_cases c : e = 0
  · rw [if_pos c] at h ⊢
    by_cases c1 : n < 0
    · rw [if_pos c1] at h
      exact absurd h (by show ¬ (1 : Int) = 0; decide)
    · rw [if_neg c1] at h ⊢
      by_cases c2 : (s.size : Int) - a < n
      · rw [if_pos c2] at h
        exact absurd h (by show ¬ (3 : Int) = 0; decide)
      · rw [if_neg c2]
        have hl : ((s.data.toList.take (a + n.toNat)).drop a).length = n.toNat := by
          rw [List.length_drop, List.length_take, sz_]
          omega
        refine ⟨⟨?_, ?_, ?_⟩, ?_⟩
        · show s.data.toList.drop a = (s.extract a (a + n.toNat)).data.toList ++ s.data.toList.drop (a + n.toNat)
          rw [extract_list_, List.drop_take, Nat.add_sub_cancel_left, ← List.drop_drop, List.take_append_drop]
        · show a + n.toNat = a + (s.extract a (a + n.toNat)).data.toList.length
          rw [extract_list_, hl]
        · show a + n.toNat ≤ s.size
          omega
        · show ((s.extract a (a + n.toNat)).size : Int) = n
          rw [ByteArray.size_extract]
          omega
  · rw [if_neg c] at h
    exact absurd h c
end Go.Proofs.YtmeofdpmddjbgaaDoor.G
end
section
namespace Go.Proofs.YtmeofdpmddjbgaaDoor.G
open Go.RowKit Go.Proofs.YtmeofdpmddjbgaaDoorW.PrintWords Go.Proofs.YtmeofdpmddjbgaaDoorW.PrintLast Go.Proofs.YtmeofdpmddjbgaaDoorW.PrintMore
set_option linter.unusedVariables false
set_option linter.unusedSimpArgs false
theorem textS_bwd (s : ByteArray) (a : Nat) (e most : Int) (ha : a ≤ s.size) (h : (textS s a e most).2.2 = 0) : Std s a (numB ((textS s a e most).1.size : Int) ++ (textS s a e most).1.data.toList) (textS s a e most).2.1 := by
  unfold textS at h ⊢
  have hc := countS_at s a e most ha
  have h0 := rawS_e s _ _ _ h
  have h1 := countS_bwd s a e most ha h0
  obtain ⟨h2, h3⟩ := rawS_bwd s _ _ _ hc.2 h
  rw [← h3] at h1
  exact h1.trans h2
def strip (x : S33) : S75 := ⟨⟨x.f0, x.f1, ⟨#[]⟩⟩, (x.f2.size : Int)⟩
def headZ : List S75 → List UInt8
  | [] => []
  | x :: l => numB (x.f0.f0.size : Int) ++ x.f0.f0.data.toList ++ numB x.f0.f1 ++ numB x.f1 ++ headZ l
theorem headZ_strip : ∀ l : List S33, headZ (l.map strip) = headL l
  | [] => rfl
  | x :: l => by rw [List.map_cons, headZ, headL, headZ_strip l]; rfl
theorem strip_f0 (l : List S33) : ((l.map strip).map (·.f0)).map (·.f0) = l.map (·.f0) := by rw [List.map_map, List.map_map]; rfl
theorem modes_strip : ∀ l : List S33, modesE l = 0 → modesE ((l.map strip).map (·.f0)) = 0
  | [], _ => rfl
  | x :: l, h => by
    rw [modesE] at h
    rw [List.map_cons, List.map_cons, modesE]
    by_cases c : x.f1 < 0 ∨ 511 < x.f1
    · rw [if_pos c] at h; exact absurd h (by decide)
    · rw [if_neg c] at h
      by_cases c2 : 65536 < x.f2.size
      · rw [if_pos c2] at h; exact absurd h (by decide)
      · rw [if_neg c2] at h
        rw [if_neg (show ¬ ((strip x).f0.f1 < 0 ∨ 511 < (strip x).f0.f1) from c), if_neg (show ¬ 65536 < (strip x).f0.f2.size from (by decide : ¬ 65536 < (⟨#[]⟩ : ByteArray).size))]
        exact modes_strip l h
theorem modes_unstrip : ∀ l : List S33, (∀ x ∈ l, x.f2.size ≤ 65536) → modesE ((l.map strip).map (·.f0)) = 0 → modesE l = 0
  | [], _, _ => rfl
  | x :: l, hx, h => by
    rw [modesE]
    rw [List.map_cons, List.map_cons, modesE] at h
    by_cases c : x.f1 < 0 ∨ 511 < x.f1
    · rw [if_pos (show (strip x).f0.f1 < 0 ∨ 511 < (strip x).f0.f1 from c)] at h; exact absurd h (by decide)
    · rw [if_neg (show ¬ ((strip x).f0.f1 < 0 ∨ 511 < (strip x).f0.f1) from c), if_neg (show ¬ 65536 < (strip x).f0.f2.size from (by decide : ¬ 65536 < (⟨#[]⟩ : ByteArray).size))] at h
      rw [if_neg c, if_neg (Nat.not_lt.2 (hx x List.mem_cons_self))]
      exact modes_unstrip l (fun y hy => hx y (List.mem_cons_of_mem _ hy)) h
theorem check_strip (l : List S33) (h : checkE l = 0) : checkE ((l.map strip).map (·.f0)) = 0 := by
  obtain ⟨h1, h2⟩ := check_ok l h
  unfold checkE
  rw [strip_f0, if_pos h1]
  exact modes_strip l h2
theorem check_unstrip (l : List S33) (hx : ∀ x ∈ l, x.f2.size ≤ 65536) (h : checkE ((l.map strip).map (·.f0)) = 0) : checkE l = 0 := by
  obtain ⟨h1, h2⟩ := check_ok _ h
  rw [strip_f0] at h1
  unfold checkE
  rw [if_pos h1]
  exact modes_unstrip l hx h2
theorem fileR_fwd (s : ByteArray) (a a2 : Nat) (x : S33) (h1 : x.f0.size ≤ 200) (h2 : x.f2.size ≤ 65536) (h3 : 0 ≤ x.f1) (h4 : x.f1 ≤ 511) (h : Std s a (numB (x.f0.size : Int) ++ x.f0.data.toList ++ numB x.f1 ++ numB (x.f2.size : Int)) a2) :
    (fileR s a).t.1 = x.f0 ∧ (fileR s a).m.1 = x.f1 ∧ (fileR s a).c = ((x.f2.size : Int), a2, 0) := by
  obtain ⟨k1, k2⟩ := h.split
  obtain ⟨k3, k4⟩ := k1.split
  have hlen : (x.f0.data.toList.length : Int) = (x.f0.size : Int) := by rw [sz_]
  have e1 := textS_fwd s a _ x.f0.data.toList 200 (by rw [sz_]; exact h1) (by decide) (by rw [hlen]; exact k3)
  have e2 := numS_fwd s _ _ x.f1 h3 (by omega) k4
  have e3 := countS_fwd s _ _ (x.f2.size : Int) 65536 (Int.natCast_nonneg _) (by omega) (by omega) k2
  obtain ⟨q1, q2, q3⟩ := fileR_eqs s a
  rw [show ((200 : Nat) : Int) = (200 : Int) from rfl] at e1
  rw [e1] at q1
  rw [q1] at q2
  rw [e2] at q2
  rw [q2] at q3
  rw [e3] at q3
  exact ⟨by rw [q1], by rw [q2], q3⟩
theorem headGo_fwd (s : ByteArray) : ∀ (l : List S33) (fs : List S75) (a a2 : Nat), (∀ x ∈ l, x.f0.size ≤ 200 ∧ x.f2.size ≤ 65536 ∧ 0 ≤ x.f1 ∧ x.f1 ≤ 511) → Std s a (headL l) a2 → headGo s l.length fs a = (fs ++ l.map strip, a2, 0)
  | [], fs, a, a2, _, h => by
    obtain ⟨_, h2, _⟩ := h
    rw [show (headL []).length = 0 from rfl, Nat.add_zero] at h2
    rw [h2, List.map_nil, List.append_nil]
    rfl
  | x :: l, fs, a, a2, hx, h => by
    obtain ⟨x1, x2, x3, x4⟩ := hx x List.mem_cons_self
    rw [headL] at h
    obtain ⟨k1, k2⟩ := h.split
    obtain ⟨e1, e2, e3⟩ := fileR_fwd s a _ x x1 x2 x3 x4 k1
    rw [List.length_cons, headGo, e3, e1, e2, if_pos rfl]
    have ih := headGo_fwd s l (fs ++ [strip x]) _ a2 (fun y hy => hx y (List.mem_cons_of_mem _ hy)) k2
    have e4 : fs ++ (x :: l).map strip = (fs ++ [strip x]) ++ l.map strip := by rw [List.append_assoc]; rfl
    rw [e4]
    exact ih
theorem extract_std (s : ByteArray) (a a2 : Nat) (b : List UInt8) (h : Std s a b a2) : s.extract a a2 = ⟨b.toArray⟩ := by
  obtain ⟨h1, h2, h3⟩ := h
  apply ba_ext
  rw [extract_list_, List.drop_take, h1, h2, Nat.add_sub_cancel_left, List.take_left']
  rfl
theorem dataGo_fwd (s : ByteArray) : ∀ (l : List S33) (a : Nat) (out : List S33), Std s a (dataL l) s.size → dataGo s (l.map strip) a out = (out ++ l, 0)
  | [], a, out, h => by
    obtain ⟨_, h2, _⟩ := h
    rw [show (dataL []).length = 0 from rfl, Nat.add_zero] at h2
    rw [List.map_nil, dataGo, if_neg (by omega), List.append_nil]
  | x :: l, a, out, h => by
    rw [dataL] at h
    obtain ⟨k1, k2⟩ := h.split
    have hle := k1.2.2
    rw [sz_] at k1 k2 hle
    have he := extract_std s a _ _ k1
    rw [List.map_cons, dataGo]
    have e1 : (strip x).f1 = (x.f2.size : Int) := rfl
    rw [e1, if_neg (by omega), Int.toNat_natCast, he]
    have ih := dataGo_fwd s l (a + x.f2.size) (out ++ [x]) k2
    rw [List.append_assoc, List.singleton_append] at ih
    exact ih
theorem tree_image (l : List S33) (h : (imageE l).2 = 0) : treeE (imageE l).1 = (l, 0) := by
  unfold imageE at h ⊢
  by_cases c : checkE l = 0
  case neg => rw [if_neg c] at h; exact absurd h c
  rw [if_pos c] at h ⊢
  by_cases c2 : 524288 < (bodyL l).length
  case pos => rw [if_pos c2] at h; exact absurd h (by decide)
  rw [if_neg c2]
  obtain ⟨f1, f2⟩ := check_files l c
  show treeE ⟨(bodyL l).toArray⟩ = (l, 0)
  obtain ⟨s, hs⟩ : ∃ s : ByteArray, (⟨(bodyL l).toArray⟩ : ByteArray) = s := ⟨_, rfl⟩
  rw [hs]
  have hl : s.data.toList = bodyL l := by rw [← hs]
  have hz : s.size = (bodyL l).length := by rw [← sz_, hl]
  have hall : Std s 0 (bodyL l) s.size := by
    refine ⟨?_, by omega, Nat.le_refl _⟩
    rw [List.drop_zero, List.drop_eq_nil_of_le (by rw [sz_]; exact Nat.le_refl _), List.append_nil]
    exact hl
  unfold bodyL at hall
  obtain ⟨k1, k2⟩ := hall.split
  obtain ⟨k3, k4⟩ := k1.split
  have e1 := countS_fwd s 0 _ (l.length : Int) 256 (Int.natCast_nonneg _) (by omega) (by omega) k3
  have e2 := headGo_fwd s l [] _ _ f2 k4
  rw [List.nil_append] at e2
  have e3 : headE s = (l.map strip, 0 + (numB (l.length : Int) ++ headL l).length, 0) := by
    unfold headE
    rw [e1, if_pos rfl]
    simp only [Int.toNat_natCast]
    rw [e2]
    unfold headFin
    simp only [↓reduceIte, check_strip l c]
  unfold treeE
  rw [if_neg (by omega), e3, if_pos rfl]
  have e4 := dataGo_fwd s l _ [] k2
  rw [List.nil_append] at e4
  exact e4
theorem fileR_bwd (s : ByteArray) (a : Nat) (ha : a ≤ s.size) (h : (fileR s a).c.2.2 = 0) :
    Std s a (numB ((fileR s a).t.1.size : Int) ++ (fileR s a).t.1.data.toList ++ numB (fileR s a).m.1 ++ numB (fileR s a).c.1) (fileR s a).c.2.1 := by
  obtain ⟨e1, e2, e3⟩ := fileR_eqs s a
  obtain ⟨a1, a2, a3⟩ := fileR_at s a ha
  obtain ⟨o1, o2, _⟩ := fileR_ok s a h
  have b1 := textS_bwd s a 0 200 ha (by rw [← e1]; exact o1)
  rw [← e1] at b1
  have b2 := (numS_bwd s _ _ a1 (by rw [← e2]; exact o2)).1
  rw [← e2] at b2
  have b3 := countS_bwd s _ _ 65536 a2 (by rw [← e3]; exact h)
  rw [← e3] at b3
  exact (b1.trans b2).trans b3
theorem headGo_bwd (s : ByteArray) : ∀ (d : Nat) (fs : List S75) (a : Nat), a ≤ s.size → (headGo s d fs a).2.2 = 0 → ∃ l : List S75, (headGo s d fs a).1 = fs ++ l ∧ l.length = d ∧ Std s a (headZ l) (headGo s d fs a).2.1
  | 0, fs, a, ha, _ => ⟨[], by rw [List.append_nil]; rfl, rfl, Std.nil s a ha⟩
  | d + 1, fs, a, ha, h => by
    rw [headGo] at h ⊢
    by_cases q : (fileR s a).c.2.2 = 0
    · rw [if_pos q] at h ⊢
      obtain ⟨l, l1, l2, l3⟩ := headGo_bwd s d _ _ (fileR_at s a ha).2.2 h
      refine ⟨⟨⟨(fileR s a).t.1, (fileR s a).m.1, ⟨#[]⟩⟩, (fileR s a).c.1⟩ :: l, by rw [l1, List.append_assoc, List.singleton_append], by rw [List.length_cons, l2], ?_⟩
      rw [headZ]
      exact (fileR_bwd s a ha q).trans l3
    · rw [if_neg q] at h
      exact absurd h q
theorem std_extract (s : ByteArray) (a b : Nat) (h : a ≤ b) (h2 : b ≤ s.size) : Std s a (s.extract a b).data.toList b := by
  have hlen : (s.extract a b).data.toList.length = b - a := by rw [sz_, ByteArray.size_extract]; omega
  refine ⟨?_, by omega, h2⟩
  rw [extract_list_, List.drop_take]
  have e : s.data.toList.drop b = (s.data.toList.drop a).drop (b - a) := by rw [List.drop_drop]; congr 1; omega
  rw [e, List.take_append_drop]
theorem dataGo_bwd (s : ByteArray) : ∀ (fs : List S75) (a : Nat) (out : List S33), a ≤ s.size → (∀ x ∈ fs, okZ x) → (dataGo s fs a out).2 = 0 → ∃ l : List S33, (dataGo s fs a out).1 = out ++ l ∧ l.map strip = fs ∧ Std s a (dataL l) s.size ∧ ∀ x ∈ l, x.f2.size ≤ 65536
  | [], a, out, ha, _, h => by
    rw [dataGo] at h ⊢
    by_cases q : a < s.size
    · rw [if_pos q] at h; exact absurd h (by decide)
    · rw [if_neg q]
      have e : a = s.size := by omega
      subst e
      exact ⟨[], by rw [List.append_nil], rfl, Std.nil s _ (Nat.le_refl _), fun x hx => by cases hx⟩
  | x :: fs, a, out, ha, hok, h => by
    rw [dataGo] at h ⊢
    obtain ⟨o1, o2, o3⟩ := hok x List.mem_cons_self
    by_cases q : (s.size : Int) - a < x.f1
    · rw [if_pos q] at h; exact absurd h (by decide)
    · rw [if_neg q] at h ⊢
      have hb : a + x.f1.toNat ≤ s.size := by omega
      obtain ⟨l, l1, l2, l3, l4⟩ := dataGo_bwd s fs (a + x.f1.toNat) _ hb (fun y hy => hok y (List.mem_cons_of_mem _ hy)) h
      have hse := std_extract s a (a + x.f1.toNat) (Nat.le_add_right _ _) hb
      have hsz : (s.extract a (a + x.f1.toNat)).size = x.f1.toNat := by rw [ByteArray.size_extract]; omega
      refine ⟨⟨x.f0.f0, x.f0.f1, s.extract a (a + x.f1.toNat)⟩ :: l, by rw [l1, List.append_assoc, List.singleton_append], ?_, ?_, ?_⟩
      · rw [List.map_cons, l2]
        congr 1
        unfold strip
        obtain ⟨⟨p, m, e⟩, z⟩ := x
        simp only at o1 o3 hsz ⊢
        rw [hsz, o3]
        congr 1
        omega
      · rw [dataL]
        exact hse.trans l3
      · intro y hy
        rcases List.mem_cons.1 hy with e | e
        · rw [e]
          show (s.extract a (a + x.f1.toNat)).size ≤ 65536
          omega
        · exact l4 y e
theorem image_tree (s : ByteArray) (h : (treeE s).2 = 0) : imageE (treeE s).1 = (s, 0) := by
  obtain ⟨z1, z2, z3⟩ := headE_ok s
  unfold treeE at h ⊢
  by_cases c0 : 524288 < s.size
  case pos => rw [if_pos c0] at h; exact absurd h (by decide)
  rw [if_neg c0] at h ⊢
  by_cases c1 : (headE s).2.2 = 0
  case neg => rw [if_neg c1] at h; exact absurd h c1
  rw [if_pos c1] at h ⊢
  obtain ⟨l, l1, l2, l3, l4⟩ := dataGo_bwd s _ _ _ z1 z3 h
  rw [List.nil_append] at l1
  rw [l1]
  have hh : headE s = headFin (headGo s (countS s 0 0 256).1.toNat [] (countS s 0 0 256).2.1) ∧ (countS s 0 0 256).2.2 = 0 := by
    unfold headE at c1 ⊢
    by_cases c : (countS s 0 0 256).2.2 = 0
    · rw [if_pos c]; exact ⟨rfl, c⟩
    · rw [if_neg c] at c1; exact absurd c1 c
  obtain ⟨hh, c⟩ := hh
  have hc := countS_e s 0 0 256 c
  have hr := countS_range s 0 0 256
  have b1 := countS_bwd s 0 0 256 (Nat.zero_le _) c
  have ha := (countS_at s 0 0 256 (Nat.zero_le _)).2
  have hg := headGo_bwd s (countS s 0 0 256).1.toNat [] _ ha
  obtain ⟨x, hx⟩ : ∃ x, headGo s (countS s 0 0 256).1.toNat [] (countS s 0 0 256).2.1 = x := ⟨_, rfl⟩
  rw [hx] at hh hg
  have hf : x.2.2 = 0 ∧ checkE (x.1.map (·.f0)) = 0 ∧ headE s = x := by
    rw [hh] at c1 ⊢
    unfold headFin at c1 ⊢
    by_cases g : x.2.2 = 0
    · rw [if_pos g] at c1 ⊢
      by_cases g2 : checkE (x.1.map (·.f0)) = 0
      · rw [if_pos g2]; exact ⟨g, g2, rfl⟩
      · rw [if_neg g2] at c1; exact absurd c1 g2
    · rw [if_neg g] at c1; exact absurd c1 g
  obtain ⟨g1, g2, g3⟩ := hf
  obtain ⟨m, m1, m2, m3⟩ := hg g1
  rw [List.nil_append] at m1
  rw [g3] at l2 l3
  rw [m1] at l2 g2
  rw [← l2] at g2 m3
  rw [headZ_strip] at m3
  have hlen : (l.length : Int) = (countS s 0 0 256).1 := by
    have : l.length = m.length := by rw [← l2, List.length_map]
    rw [this, m2]
    omega
  rw [← hlen] at b1
  have hck := check_unstrip l l4 g2
  obtain ⟨t1, t2, t3⟩ := (b1.trans m3).trans l3
  rw [List.drop_zero, List.drop_eq_nil_of_le (by rw [sz_]; exact Nat.le_refl _), List.append_nil] at t1
  have hbl : bodyL l = s.data.toList := t1.symm
  unfold imageE
  rw [if_pos hck, hbl, if_neg (by rw [sz_]; exact c0)]
end Go.Proofs.YtmeofdpmddjbgaaDoor.G
end
section
namespace Go.Proofs.YtmeofdpmddjbgaaDoor.G
open Go.RowKit Go.Proofs.YtmeofdpmddjbgaaDoorW.PrintWords Go.Proofs.YtmeofdpmddjbgaaDoorW.PrintLast Go.Proofs.YtmeofdpmddjbgaaDoorW.PrintMore
attribute [local go_sem] max2_int min2_int max_two min_two max_three min_three max_four min_four   -- for this text's walks alone
set_option linter.unusedVariables false
set_option linter.unusedSimpArgs false
def image_Drop.l0 : Nat → ByteArray → List (S33) → List (S33) → List (S33) → Int → Int → Option (ByteArray × Int)
  | 0, _, _, _, _, _, _ => none
  | k + 1, x1, x6, x8, x19, x20, x21 => if x21 < x20 then (if 0 ≤ x21 then (if x21 < (x19.length : Int) then (if ((rd_T33 x19 x21).f0).toList = x1.toList then (image_Drop.l0 k x1 x6 x8 x19 x20 (wrap64 (x21 + 1))) else ((tree_Within.f ((rd_T33 x19 x21).f0) x1).bind fun t402 => (if t402 = true then (image_Drop.l0 k x1 x6 x8 x19 x20 (wrap64 (x21 + 1))) else (if x8.length < 3518437208883 then (image_Drop.l0 k x1 x6 (x8 ++ [(⟨(rd_T33 x19 x21).f0, (rd_T33 x19 x21).f1, (rd_T33 x19 x21).f2⟩ : S33)]) x19 x20 (wrap64 (x21 + 1))) else (none))))) else (none)) else (none)) else (if (x8.length : Int) = (x6.length : Int) then (some ((⟨#[]⟩ : ByteArray), 8)) else ((image_Of.f k x8).bind fun bt406 => (some (bt406.1, bt406.2))))
def image_Drop.f (k : Nat) (a0 : ByteArray) (a1 : ByteArray) : Option (ByteArray × Int) := (image_Tree.f k a0).bind fun bt396 => (if bt396.2 = 0 then (image_Drop.l0 k a1 bt396.1 ([] : List (S33)) bt396.1 (bt396.1.length : Int) 0) else (some ((⟨#[]⟩ : ByteArray), bt396.2)))
theorem image_Drop.mono_l : ∀ k, (∀ y0 y1 y2 y3 y4 y5, LeO (image_Drop.l0 k y0 y1 y2 y3 y4 y5) (image_Drop.l0 (k + 1) y0 y1 y2 y3 y4 y5))
  | 0 => fun _ _ _ _ _ _ r h => by simp [image_Drop.l0] at h
  | k + 1 => by
    have ih0 := image_Drop.mono_l k
    · intro y0 y1 y2 y3 y4 y5
      unfold image_Drop.l0
      repeat' first
      | (with_reducible exact ih0 _ _ _ _ _ _)
      | (with_reducible exact image_Of.mono _ _)
      | (with_reducible exact image_Tree.mono _ _)
      | (with_reducible exact LeO.refl _)
      | (with_reducible exact LeO.none _)
      | (with_reducible refine LeO.ite ?_ ?_)
      | (with_reducible refine LeO.bind ?_ (fun _ => ?_))
      | exact ih0 _ _ _ _ _ _
      | exact image_Of.mono _ _
      | exact image_Tree.mono _ _
      | exact LeO.none _
      | refine LeO.ite ?_ ?_
      | refine LeO.bind ?_ (fun _ => ?_)
theorem image_Drop.mono : ∀ a0 a1 k, LeO (image_Drop.f k a0 a1) (image_Drop.f (k + 1) a0 a1) := by
  intro a0 a1 k
  have ih0 := image_Drop.mono_l k
  unfold image_Drop.f
  repeat' first
      | (with_reducible exact ih0 _ _ _ _ _ _)
      | (with_reducible exact image_Of.mono _ _)
      | (with_reducible exact image_Tree.mono _ _)
      | (with_reducible exact LeO.refl _)
      | (with_reducible exact LeO.none _)
      | (with_reducible refine LeO.ite ?_ ?_)
      | (with_reducible refine LeO.bind ?_ (fun _ => ?_))
      | exact ih0 _ _ _ _ _ _
      | exact image_Of.mono _ _
      | exact image_Tree.mono _ _
      | exact LeO.none _
      | refine LeO.ite ?_ ?_
      | refine LeO.bind ?_ (fun _ => ?_)
set_option maxHeartbeats 8000000 in
set_option maxRecDepth 100000 in
theorem image_Drop.calls (k : Nat) (a0 : ByteArray) (a1 : ByteArray) (r1 : ByteArray) (r2 : Int) (w : World) (h : image_Drop.f k a0 a1 = some (r1, r2)) :
    Calls Tryd.prog 20 #[.string a0, .string a1] w fun e w' => e = .returned (.tuple #[.string r1, .int .i64 r2]) ∧ Below w.heap.size w w' := by
  have hu33 := Tryd.underlying33
  have HB := Aside0.mk (Below.refl w.heap.size w)
  have H : ((image_Tree.f k a0).bind fun bt396 => (if bt396.2 = 0 then (image_Drop.l0 k a1 bt396.1 ([] : List (S33)) bt396.1 (bt396.1.length : Int) 0) else (some ((⟨#[]⟩ : ByteArray), bt396.2)))) = some (r1, r2) := h
  clear h
  replace H := Option.bind_eq_some_iff.mp H
  obtain ⟨⟨t396, t397⟩, A30, H⟩ := H
  replace H : (if t397 = 0 then (image_Drop.l0 k a1 t396 ([] : List (S33)) t396 (t396.length : Int) 0) else (some ((⟨#[]⟩ : ByteArray), t397))) = some (r1, r2) := H
  have A3 := Aside0.mk A30
  clear A30
  by_cases c4 : t397 = 0
  · rw [if_pos c4] at H
    have c4b0 : (t397 == 0) = true := beq_iff_eq.mpr c4
    have c4b1 : (t397 != 0) = false := bne_eq_false_iff_eq.mpr c4
    clear c4
    have H' := Aside0.mk H
    clear H
    go_enter Tryd.func20, Tryd.ntmps20
    go_wp2_with (first | ((with_reducible refine gate_callee (f := 17) rfl ?_); refine goesL_ (some 13) rfl rfl Tryd.func17 (by kernel_rfl) rfl #[.string a0] rfl (by (try simp only [List.map_toArray, List.map_cons, List.map_nil]); first | done | rfl | (simp only [List.length_drop, List.length_take]; rfl)) ?_; (with_reducible refine (image_Tree.calls k a0 t396 t397 _ A3.out).mono ?_); rintro e w5 ⟨v398, rfl, ho0, hb⟩; refine ⟨_, rfl, ?_⟩; have n0_ := Aside0.mk (Kd.R_lower ho0 (below_size (by repeat (first | (with_reducible first | exact HB.out | apply below_alloc | apply pw_below_drewN | apply below_drew1) | exact HB.out)))); have n1_ := Aside0.mk (below_step (by repeat (first | (with_reducible first | exact HB.out | apply below_alloc | apply pw_below_drewN | apply below_drew1) | exact HB.out)) hb); clear HB; have HO399 := n0_; have HB := n1_; clear n0_ n1_; (try clear hb); (try clear hb2); (try clear hk); (try clear hi); (try clear ho0); obtain ⟨Ao6, co6, eo6⟩ := Kd.R_slice HO399.out; subst eo6))
    go_loopg [8, 21] k (fun kq v8 v21 w' => ∃ (x8_1 : List (S33)) (x21_1 : Int), v21 = .int .i64 x21_1 ∧ Aside0 (image_Drop.l0 kq a1 t396 x8_1 t396 (t396.length : Int) x21_1 = some (r1, r2)) ∧ Aside0 (kq ≤ k) ∧ Aside0 (Kd.R k33 33 w' w.heap.size (fun k_ => some k_ ≠ (v8 : Value).ownBlock) (.slice Ao6 t396.length co6) t396) ∧ Aside0 (Kd.R k33 33 w' w.heap.size (fun k_ => some k_ ≠ ((.slice Ao6 t396.length co6) : Value).ownBlock ∧ some k_ ≠ ((.slice Ao6 t396.length co6) : Value).ownBlock) v8 x8_1) ∧ Aside0 (Kd.R k33 33 w' w.heap.size (fun k_ => some k_ ≠ (v8 : Value).ownBlock) (.slice Ao6 t396.length co6) t396) ∧ Aside0 (Below w.heap.size w w'))
    case atStart => exact ⟨(([] : List (S33))), (0), (by first | rfl | (simp; done) | (simp [*]; done)), H', ⟨Nat.le_refl _⟩, ⟨by (with_reducible repeat (first | apply Kd.R_alloc | apply Kd.R_drewN | apply Kd.R_drew)); exact Kd.R_mono HO399.out (fun _ hk => (by simp [Value.ownBlock]))⟩, ⟨by first | exact Kd.R_nil _ _ _ _ _ | exact Kd.N_nil _ _ _ _ _ | exact Kd.V_nil _ _ _ _ _ | exact Kd.Q_nil _ _ _ _ _ | exact Kd.S_nil _ _ _ _ _⟩, ⟨by (with_reducible repeat (first | apply Kd.R_alloc | apply Kd.R_drewN | apply Kd.R_drew)); exact Kd.R_mono HO399.out (fun _ hk => (by simp [Value.ownBlock]))⟩, ⟨by repeat (first | (with_reducible first | exact HB.out | apply below_alloc | apply pw_below_drewN | apply below_drew1) | exact HB.out)⟩⟩
    case round =>
      clear H'
      try clear c1
      try clear c2
      try clear p2
      try clear c4
      try clear c4b0
      try clear c4b1
      obtain ⟨x8_1, x21_1, rfl, HA, HK1, HO_6, HO_8, HO_19, HB⟩ := hrel
      cases gk with
      | zero => exact absurd HA.out (by simp [image_Drop.l0])
      | succ k1 =>
        have H := HA.out
        clear HA
        simp only [image_Drop.l0] at H
        by_cases c7 : x21_1 < (t396.length : Int)
        · rw [if_pos c7] at H
          have c7b0 : decide (x21_1 < (t396.length : Int)) = true := decide_eq_true c7
          clear c7
          by_cases c8 : 0 ≤ x21_1
          · rw [if_pos c8] at H
            have c8b0 : decide (0 ≤ x21_1) = true := decide_eq_true c8
            clear c8
            by_cases c9 : x21_1 < (t396.length : Int)
            · rw [if_pos c9] at H
              have c9b0 : decide (x21_1 < (t396.length : Int)) = true := decide_eq_true c9
              clear c9
              by_cases c10 : ((rd_T33 t396 x21_1).f0).toList = a1.toList
              · rw [if_pos c10] at H
                have c10b0 : (((rd_T33 t396 x21_1).f0).toList == a1.toList) = true := beq_iff_eq.mpr c10
                have c10b1 : (((rd_T33 t396 x21_1).f0).toList != a1.toList) = false := bne_eq_false_iff_eq.mpr c10
                clear c10
                have H' := Aside0.mk H
                clear H
                have p400 : 0 ≤ (x21_1 : Int) := of_decide_eq_true (by first | (with_reducible assumption) | assumption)
                have q400 : x21_1 < (t396.length : Int) := of_decide_eq_true (by first | (with_reducible assumption) | assumption)
                obtain ⟨ad400, e400, hx400_0, hx400_1, hx400_2⟩ := at_T33 (Kd.R_reads' HO_19.out).2.2 x21_1 p400 q400
                cases e400
                replace p400 := eq_true p400
                replace q400 := eq_true q400
                go_wp2_with (first | ((with_reducible refine gate_dst (N := 10) rfl ?_); refine box_event ?hg (N := 10) ?hd (cs := #[.string (⟨#[]⟩ : ByteArray), .int .i64 0, .string (⟨#[]⟩ : ByteArray)]) (t := 33) ?hr ?_; (case hd => rfl); (case hg => rfl); (case hr => first | (go_simp; done) | (go_simp; rfl)); intro gb401 hg w11 hbox hb; have n0_ := Aside0.mk (Kd.R_below (Kd.R_elderB (by (with_reducible repeat (first | apply Kd.R_alloc | apply Kd.R_drewN | apply Kd.R_drew)); exact HO_6.out) gb401 (Nat.le_of_eq hg.symm)) hb); have n1_ := Aside0.mk (Kd.R_below (Kd.R_elderB (by (with_reducible repeat (first | apply Kd.R_alloc | apply Kd.R_drewN | apply Kd.R_drew)); exact HO_8.out) gb401 (Nat.le_of_eq hg.symm)) hb); have n2_ := Aside0.mk (Kd.R_below (Kd.R_elderB (by (with_reducible repeat (first | apply Kd.R_alloc | apply Kd.R_drewN | apply Kd.R_drew)); exact HO_19.out) gb401 (Nat.le_of_eq hg.symm)) hb); have n3_ := Aside0.mk (below_step (by repeat (first | (with_reducible first | exact HB.out | apply below_alloc | apply pw_below_drewN | apply below_drew1) | exact HB.out)) hb); have n4_ := Aside0.mk (hbox); have n5_ := Aside0.mk ((by rw [hg]; exact (below_size (by repeat (first | (with_reducible first | exact HB.out | apply below_alloc | apply pw_below_drewN | apply below_drew1) | exact HB.out))) : w.heap.size ≤ gb401)); have n6_ := Aside0.mk ((by rw [hg]; exact (below_size (by repeat (first | (with_reducible first | exact HB.out | apply below_alloc | apply pw_below_drewN | apply below_drew1) | exact HB.out))) : w.heap.size ≤ gb401)); clear HO_6; clear HO_8; clear HO_19; clear HB; have HO_6 := n0_; have HO_8 := n1_; have HO_19 := n2_; have HB := n3_; have BK401 := n4_; have GW401 := n5_; have GE401 := n6_; clear n0_ n1_ n2_ n3_ n4_ n5_ n6_; clear hb hbox hg; have hcz12_0 : w11.cell? ⟨gb401, 0, none⟩ = some (.string (⟨#[]⟩ : ByteArray)) := (blk_cell BK401.out 0).trans rfl; have hcz12_1 : w11.cell? ⟨gb401, 1, none⟩ = some (.int .i64 0) := (blk_cell BK401.out 1).trans rfl; have hcz12_2 : w11.cell? ⟨gb401, 2, none⟩ = some (.string (⟨#[]⟩ : ByteArray)) := (blk_cell BK401.out 2).trans rfl; have hfz12_0 := blk_frozen BK401.out 0; have hfz12_1 := blk_frozen BK401.out 1; have hfz12_2 := blk_frozen BK401.out 2))
                go_roundg k1
                case measure => have := HK1.out; omega
                case rel => exact ⟨(x8_1), (wrap64 (x21_1 + 1)), (by first | rfl | (simp; done) | (simp [*]; done)), H', ⟨by have := HK1.out; omega⟩, ⟨by (with_reducible repeat (first | apply Kd.R_alloc | apply Kd.R_drewN | apply Kd.R_drew)); exact Kd.R_mono (Kd.R_far (p := ⟨gb401, 2, none⟩) (Kd.R_far (p := ⟨gb401, 1, none⟩) (Kd.R_far (p := ⟨gb401, 0, none⟩) (Kd.R_mono HO_6.out (fun k_ hk => (⟨hk, hk.2⟩ : _ ∧ k_ ≠ gb401))) (fun _ hk => hk.2) (.string ((rd_T33 t396 x21_1).f0))) (fun _ hk => hk.2) (.int .i64 ((rd_T33 t396 x21_1).f1))) (fun _ hk => hk.2) (.string ((rd_T33 t396 x21_1).f2))) (fun _ hk => hk.1.1)⟩, ⟨by (with_reducible repeat (first | apply Kd.R_alloc | apply Kd.R_drewN | apply Kd.R_drew)); exact Kd.R_mono (Kd.R_far (p := ⟨gb401, 2, none⟩) (Kd.R_far (p := ⟨gb401, 1, none⟩) (Kd.R_far (p := ⟨gb401, 0, none⟩) (Kd.R_mono HO_8.out (fun k_ hk => (⟨hk, hk.2⟩ : _ ∧ k_ ≠ gb401))) (fun _ hk => hk.2) (.string ((rd_T33 t396 x21_1).f0))) (fun _ hk => hk.2) (.int .i64 ((rd_T33 t396 x21_1).f1))) (fun _ hk => hk.2) (.string ((rd_T33 t396 x21_1).f2))) (fun _ hk => ⟨hk.1.1.1, hk.1.1.2⟩)⟩, ⟨by (with_reducible repeat (first | apply Kd.R_alloc | apply Kd.R_drewN | apply Kd.R_drew)); exact Kd.R_mono (Kd.R_far (p := ⟨gb401, 2, none⟩) (Kd.R_far (p := ⟨gb401, 1, none⟩) (Kd.R_far (p := ⟨gb401, 0, none⟩) (Kd.R_mono HO_19.out (fun k_ hk => (⟨hk, hk.2⟩ : _ ∧ k_ ≠ gb401))) (fun _ hk => hk.2) (.string ((rd_T33 t396 x21_1).f0))) (fun _ hk => hk.2) (.int .i64 ((rd_T33 t396 x21_1).f1))) (fun _ hk => hk.2) (.string ((rd_T33 t396 x21_1).f2))) (fun _ hk => hk.1.1)⟩, ⟨by repeat (first | (with_reducible first | exact HB.out | apply below_alloc | apply pw_below_drewN | apply below_drew1 | refine below_set ?_ GE401.out) | exact HB.out)⟩⟩
              · rw [if_neg c10] at H
                have c10b0 : (((rd_T33 t396 x21_1).f0).toList == a1.toList) = false := beq_eq_false_iff_ne.mpr c10
                have c10b1 : (((rd_T33 t396 x21_1).f0).toList != a1.toList) = true := bne_iff_ne.mpr c10
                replace H := Option.bind_eq_some_iff.mp H
                obtain ⟨t402, A130, H⟩ := H
                replace H : (if t402 = true then (image_Drop.l0 k1 a1 t396 x8_1 t396 (t396.length : Int) (wrap64 (x21_1 + 1))) else (if x8_1.length < 3518437208883 then (image_Drop.l0 k1 a1 t396 (x8_1 ++ [(⟨(rd_T33 t396 x21_1).f0, (rd_T33 t396 x21_1).f1, (rd_T33 t396 x21_1).f2⟩ : S33)]) t396 (t396.length : Int) (wrap64 (x21_1 + 1))) else (none))) = some (r1, r2) := H
                have A13 := Aside0.mk A130
                clear A130
                by_cases c14 : t402 = true
                · subst c14
                  have H1 : (image_Drop.l0 k1 a1 t396 x8_1 t396 (t396.length : Int) (wrap64 (x21_1 + 1))) = some (r1, r2) := by rw [if_pos rfl] at H; exact H
                  clear H
                  have H := H1
                  clear H1
                  have H' := Aside0.mk H
                  clear H
                  have p400 : 0 ≤ (x21_1 : Int) := of_decide_eq_true (by first | (with_reducible assumption) | assumption)
                  have q400 : x21_1 < (t396.length : Int) := of_decide_eq_true (by first | (with_reducible assumption) | assumption)
                  obtain ⟨ad400, e400, hx400_0, hx400_1, hx400_2⟩ := at_T33 (Kd.R_reads' HO_19.out).2.2 x21_1 p400 q400
                  cases e400
                  replace p400 := eq_true p400
                  replace q400 := eq_true q400
                  go_wp2_with (first | ((with_reducible refine gate_dst (N := 10) rfl ?_); refine box_event ?hg (N := 10) ?hd (cs := #[.string (⟨#[]⟩ : ByteArray), .int .i64 0, .string (⟨#[]⟩ : ByteArray)]) (t := 33) ?hr ?_; (case hd => rfl); (case hg => rfl); (case hr => first | (go_simp; done) | (go_simp; rfl)); intro gb401 hg w15 hbox hb; have n0_ := Aside0.mk (Kd.R_below (Kd.R_elderB (by (with_reducible repeat (first | apply Kd.R_alloc | apply Kd.R_drewN | apply Kd.R_drew)); exact HO_6.out) gb401 (Nat.le_of_eq hg.symm)) hb); have n1_ := Aside0.mk (Kd.R_below (Kd.R_elderB (by (with_reducible repeat (first | apply Kd.R_alloc | apply Kd.R_drewN | apply Kd.R_drew)); exact HO_8.out) gb401 (Nat.le_of_eq hg.symm)) hb); have n2_ := Aside0.mk (Kd.R_below (Kd.R_elderB (by (with_reducible repeat (first | apply Kd.R_alloc | apply Kd.R_drewN | apply Kd.R_drew)); exact HO_19.out) gb401 (Nat.le_of_eq hg.symm)) hb); have n3_ := Aside0.mk (below_step (by repeat (first | (with_reducible first | exact HB.out | apply below_alloc | apply pw_below_drewN | apply below_drew1) | exact HB.out)) hb); have n4_ := Aside0.mk (hbox); have n5_ := Aside0.mk ((by rw [hg]; exact (below_size (by repeat (first | (with_reducible first | exact HB.out | apply below_alloc | apply pw_below_drewN | apply below_drew1) | exact HB.out))) : w.heap.size ≤ gb401)); have n6_ := Aside0.mk ((by rw [hg]; exact (below_size (by repeat (first | (with_reducible first | exact HB.out | apply below_alloc | apply pw_below_drewN | apply below_drew1) | exact HB.out))) : w.heap.size ≤ gb401)); clear HO_6; clear HO_8; clear HO_19; clear HB; have HO_6 := n0_; have HO_8 := n1_; have HO_19 := n2_; have HB := n3_; have BK401 := n4_; have GW401 := n5_; have GE401 := n6_; clear n0_ n1_ n2_ n3_ n4_ n5_ n6_; clear hb hbox hg; have hcz16_0 : w15.cell? ⟨gb401, 0, none⟩ = some (.string (⟨#[]⟩ : ByteArray)) := (blk_cell BK401.out 0).trans rfl; have hcz16_1 : w15.cell? ⟨gb401, 1, none⟩ = some (.int .i64 0) := (blk_cell BK401.out 1).trans rfl; have hcz16_2 : w15.cell? ⟨gb401, 2, none⟩ = some (.string (⟨#[]⟩ : ByteArray)) := (blk_cell BK401.out 2).trans rfl; have hfz16_0 := blk_frozen BK401.out 0; have hfz16_1 := blk_frozen BK401.out 1; have hfz16_2 := blk_frozen BK401.out 2) | (go_at_call 39; (with_reducible refine (tree_Within.calls ((rd_T33 t396 x21_1).f0) a1 true _ A13.out).mono ?_); rintro e w' ⟨rfl, ⟨nd, rfl⟩⟩))
                  go_roundg k1
                  case measure => have := HK1.out; omega
                  case rel => exact ⟨(x8_1), (wrap64 (x21_1 + 1)), (by first | rfl | (simp; done) | (simp [*]; done)), H', ⟨by have := HK1.out; omega⟩, ⟨by (with_reducible repeat (first | apply Kd.R_alloc | apply Kd.R_drewN | apply Kd.R_drew)); exact Kd.R_mono (Kd.R_far (p := ⟨gb401, 2, none⟩) (Kd.R_far (p := ⟨gb401, 1, none⟩) (Kd.R_far (p := ⟨gb401, 0, none⟩) (Kd.R_mono HO_6.out (fun k_ hk => (⟨hk, hk.2⟩ : _ ∧ k_ ≠ gb401))) (fun _ hk => hk.2) (.string ((rd_T33 t396 x21_1).f0))) (fun _ hk => hk.2) (.int .i64 ((rd_T33 t396 x21_1).f1))) (fun _ hk => hk.2) (.string ((rd_T33 t396 x21_1).f2))) (fun _ hk => hk.1.1)⟩, ⟨by (with_reducible repeat (first | apply Kd.R_alloc | apply Kd.R_drewN | apply Kd.R_drew)); exact Kd.R_mono (Kd.R_far (p := ⟨gb401, 2, none⟩) (Kd.R_far (p := ⟨gb401, 1, none⟩) (Kd.R_far (p := ⟨gb401, 0, none⟩) (Kd.R_mono HO_8.out (fun k_ hk => (⟨hk, hk.2⟩ : _ ∧ k_ ≠ gb401))) (fun _ hk => hk.2) (.string ((rd_T33 t396 x21_1).f0))) (fun _ hk => hk.2) (.int .i64 ((rd_T33 t396 x21_1).f1))) (fun _ hk => hk.2) (.string ((rd_T33 t396 x21_1).f2))) (fun _ hk => ⟨hk.1.1.1, hk.1.1.2⟩)⟩, ⟨by (with_reducible repeat (first | apply Kd.R_alloc | apply Kd.R_drewN | apply Kd.R_drew)); exact Kd.R_mono (Kd.R_far (p := ⟨gb401, 2, none⟩) (Kd.R_far (p := ⟨gb401, 1, none⟩) (Kd.R_far (p := ⟨gb401, 0, none⟩) (Kd.R_mono HO_19.out (fun k_ hk => (⟨hk, hk.2⟩ : _ ∧ k_ ≠ gb401))) (fun _ hk => hk.2) (.string ((rd_T33 t396 x21_1).f0))) (fun _ hk => hk.2) (.int .i64 ((rd_T33 t396 x21_1).f1))) (fun _ hk => hk.2) (.string ((rd_T33 t396 x21_1).f2))) (fun _ hk => hk.1.1)⟩, ⟨by repeat (first | (with_reducible first | exact HB.out | apply below_alloc | apply pw_below_drewN | apply below_drew1 | refine below_set ?_ GE401.out) | exact HB.out)⟩⟩
                · replace c14 := Bool.eq_false_iff.mpr c14
                  subst c14
                  have H1 : (if x8_1.length < 3518437208883 then (image_Drop.l0 k1 a1 t396 (x8_1 ++ [(⟨(rd_T33 t396 x21_1).f0, (rd_T33 t396 x21_1).f1, (rd_T33 t396 x21_1).f2⟩ : S33)]) t396 (t396.length : Int) (wrap64 (x21_1 + 1))) else (none)) = some (r1, r2) := by rw [if_neg (show ¬ (false = true) by decide)] at H; exact H
                  clear H
                  have H := H1
                  clear H1
                  by_cases c17 : x8_1.length < 3518437208883
                  · rw [if_pos c17] at H
                    have LMc17 := Aside0.mk c17
                    clear c17
                    obtain ⟨y403, hy403⟩ : ∃ y_ : List (S33), y_ = (x8_1 ++ [(⟨(rd_T33 t396 x21_1).f0, (rd_T33 t396 x21_1).f1, (rd_T33 t396 x21_1).f2⟩ : S33)]) := ⟨_, rfl⟩
                    replace H : (image_Drop.l0 k1 a1 t396 y403 t396 (t396.length : Int) (wrap64 (x21_1 + 1))) = some (r1, r2) := by first | (rw [hy403]; with_reducible exact H) | (have H2_ := (Option.bind_some _ _).symm.trans H; rw [hy403]; with_reducible exact H2_) | (have H2_ := (Option.bind_some _ _).symm.trans H; with_reducible exact H2_) | with_reducible exact H | (rw [hy403]; exact H) | exact H
                    have Ny403 := Aside0.mk hy403
                    clear hy403
                    have H' := Aside0.mk H
                    clear H
                    have p400 : 0 ≤ (x21_1 : Int) := of_decide_eq_true (by first | (with_reducible assumption) | assumption)
                    have q400 : x21_1 < (t396.length : Int) := of_decide_eq_true (by first | (with_reducible assumption) | assumption)
                    obtain ⟨ad400, e400, hx400_0, hx400_1, hx400_2⟩ := at_T33 (Kd.R_reads' HO_19.out).2.2 x21_1 p400 q400
                    cases e400
                    replace p400 := eq_true p400
                    replace q400 := eq_true q400
                    go_wp2_with (first | ((with_reducible refine gate_dst (N := 10) rfl ?_); refine box_event ?hg (N := 10) ?hd (cs := #[.string (⟨#[]⟩ : ByteArray), .int .i64 0, .string (⟨#[]⟩ : ByteArray)]) (t := 33) ?hr ?_; (case hd => rfl); (case hg => rfl); (case hr => first | (go_simp; done) | (go_simp; rfl)); intro gb401 hg w18 hbox hb; have n0_ := Aside0.mk (Kd.R_below (Kd.R_elderB (by (with_reducible repeat (first | apply Kd.R_alloc | apply Kd.R_drewN | apply Kd.R_drew)); exact HO_6.out) gb401 (Nat.le_of_eq hg.symm)) hb); have n1_ := Aside0.mk (Kd.R_below (Kd.R_elderB (by (with_reducible repeat (first | apply Kd.R_alloc | apply Kd.R_drewN | apply Kd.R_drew)); exact HO_8.out) gb401 (Nat.le_of_eq hg.symm)) hb); have n2_ := Aside0.mk (Kd.R_below (Kd.R_elderB (by (with_reducible repeat (first | apply Kd.R_alloc | apply Kd.R_drewN | apply Kd.R_drew)); exact HO_19.out) gb401 (Nat.le_of_eq hg.symm)) hb); have n3_ := Aside0.mk (below_step (by repeat (first | (with_reducible first | exact HB.out | apply below_alloc | apply pw_below_drewN | apply below_drew1) | exact HB.out)) hb); have n4_ := Aside0.mk (hbox); have n5_ := Aside0.mk ((by rw [hg]; exact (below_size (by repeat (first | (with_reducible first | exact HB.out | apply below_alloc | apply pw_below_drewN | apply below_drew1) | exact HB.out))) : w.heap.size ≤ gb401)); have n6_ := Aside0.mk ((by rw [hg]; exact (below_size (by repeat (first | (with_reducible first | exact HB.out | apply below_alloc | apply pw_below_drewN | apply below_drew1) | exact HB.out))) : w.heap.size ≤ gb401)); clear HO_6; clear HO_8; clear HO_19; clear HB; have HO_6 := n0_; have HO_8 := n1_; have HO_19 := n2_; have HB := n3_; have BK401 := n4_; have GW401 := n5_; have GE401 := n6_; clear n0_ n1_ n2_ n3_ n4_ n5_ n6_; clear hb hbox hg; have hcz19_0 : w18.cell? ⟨gb401, 0, none⟩ = some (.string (⟨#[]⟩ : ByteArray)) := (blk_cell BK401.out 0).trans rfl; have hcz19_1 : w18.cell? ⟨gb401, 1, none⟩ = some (.int .i64 0) := (blk_cell BK401.out 1).trans rfl; have hcz19_2 : w18.cell? ⟨gb401, 2, none⟩ = some (.string (⟨#[]⟩ : ByteArray)) := (blk_cell BK401.out 2).trans rfl; have hfz19_0 := blk_frozen BK401.out 0; have hfz19_1 := blk_frozen BK401.out 1; have hfz19_2 := blk_frozen BK401.out 2) | (go_at_call 39; (with_reducible refine (tree_Within.calls ((rd_T33 t396 x21_1).f0) a1 false _ A13.out).mono ?_); rintro e w' ⟨rfl, ⟨nd, rfl⟩⟩) | ((with_reducible refine gate_builtin (b := .append) (xs := #[.tmp 36, .tmp 38]) rfl ?_); at_builtin; refine Kd.R_append k33 (w0 := w) w.heap.size rfl (.tmp 36) (.tmp 38) 22 33 (.agg #[(.string ⟨#[]⟩), (.int .i64 0), (.string ⟨#[]⟩)]) 40 rfl Tryd.underlying22 info33 rfl (by decide) (by omega) u8 x8_1 (⟨(rd_T33 t396 x21_1).f0, (rd_T33 t396 x21_1).f1, (rd_T33 t396 x21_1).f2⟩ : S33) [.string ((rd_T33 t396 x21_1).f0), .int .i64 ((rd_T33 t396 x21_1).f1), .string ((rd_T33 t396 x21_1).f2)] (fun k_ => some k_ ≠ (.slice (some ad400) t396.length co6 : Value).ownBlock ∧ some k_ ≠ (.slice (some ad400) t396.length co6 : Value).ownBlock ∧ k_ ≠ gb401) (fun _ => False) rfl (by first | (go_simp; done) | (go_simp; rfl)) ?aP (fun _ hk => hk.elim) ?aF ?aO ?aB ?aS ?aL ?_; (case aP => exact k33_mkM _ _ _ (⟨(rd_T33 t396 x21_1).f0, (rd_T33 t396 x21_1).f1, (rd_T33 t396 x21_1).f2⟩ : S33)); (case aB => exact (by repeat (first | (with_reducible first | exact HB.out | apply below_alloc | apply pw_below_drewN | apply below_drew1 | refine below_set ?_ GE401.out) | exact HB.out))); (case aF => exact (fun k_ hk => ⟨Kd.fresh' (Kd.R_lt (by (with_reducible repeat (first | apply Kd.R_alloc | apply Kd.R_drewN | apply Kd.R_drew)); exact (Kd.R_mono (Kd.R_far (p := ⟨gb401, 2, none⟩) (Kd.R_far (p := ⟨gb401, 1, none⟩) (Kd.R_far (p := ⟨gb401, 0, none⟩) (Kd.R_mono HO_6.out (fun k_ hk => (⟨hk, hk.2⟩ : _ ∧ k_ ≠ gb401))) (fun _ hk => hk.2) (.string ((rd_T33 t396 x21_1).f0))) (fun _ hk => hk.2) (.int .i64 ((rd_T33 t396 x21_1).f1))) (fun _ hk => hk.2) (.string ((rd_T33 t396 x21_1).f2))) (fun _ h_ => h_.1)))) k_ hk, Kd.fresh' (Kd.R_lt (by (with_reducible repeat (first | apply Kd.R_alloc | apply Kd.R_drewN | apply Kd.R_drew)); exact (Kd.R_mono (Kd.R_far (p := ⟨gb401, 2, none⟩) (Kd.R_far (p := ⟨gb401, 1, none⟩) (Kd.R_far (p := ⟨gb401, 0, none⟩) (Kd.R_mono HO_19.out (fun k_ hk => (⟨hk, hk.2⟩ : _ ∧ k_ ≠ gb401))) (fun _ hk => hk.2) (.string ((rd_T33 t396 x21_1).f0))) (fun _ hk => hk.2) (.int .i64 ((rd_T33 t396 x21_1).f1))) (fun _ hk => hk.2) (.string ((rd_T33 t396 x21_1).f2))) (fun _ h_ => h_.1)))) k_ hk, Kd.freshB (g := gb401) (o := .cells #[.string ((rd_T33 t396 x21_1).f0), .int .i64 ((rd_T33 t396 x21_1).f1), .string ((rd_T33 t396 x21_1).f2)] 33 (0, 0)) (by (with_reducible repeat (first | refine blk_drewN ?_ _ | refine blk_drew ?_ | refine blk_alloc ?_ _)); refine blk_put (cs := #[.string ((rd_T33 t396 x21_1).f0), .int .i64 ((rd_T33 t396 x21_1).f1), .string (⟨#[]⟩ : ByteArray)]) ?_ 2 _ rfl; (with_reducible repeat (first | refine blk_drewN ?_ _ | refine blk_drew ?_ | refine blk_alloc ?_ _)); refine blk_put (cs := #[.string ((rd_T33 t396 x21_1).f0), .int .i64 0, .string (⟨#[]⟩ : ByteArray)]) ?_ 1 _ rfl; (with_reducible repeat (first | refine blk_drewN ?_ _ | refine blk_drew ?_ | refine blk_alloc ?_ _)); refine blk_put (cs := #[.string (⟨#[]⟩ : ByteArray), .int .i64 0, .string (⟨#[]⟩ : ByteArray)]) ?_ 0 _ rfl; (with_reducible repeat (first | refine blk_drewN ?_ _ | refine blk_drew ?_ | refine blk_alloc ?_ _)); exact BK401.out) k_ hk⟩)); (case aO => exact (by (with_reducible repeat (first | apply Kd.R_alloc | apply Kd.R_drewN | apply Kd.R_drew)); exact Kd.R_mono (Kd.R_far (p := ⟨gb401, 2, none⟩) (Kd.R_far (p := ⟨gb401, 1, none⟩) (Kd.R_far (p := ⟨gb401, 0, none⟩) (Kd.R_mono HO_8.out (fun k_ hk => (⟨hk, hk.2⟩ : _ ∧ k_ ≠ gb401))) (fun _ hk => hk.2) (.string ((rd_T33 t396 x21_1).f0))) (fun _ hk => hk.2) (.int .i64 ((rd_T33 t396 x21_1).f1))) (fun _ hk => hk.2) (.string ((rd_T33 t396 x21_1).f2))) (fun _ hk => ⟨hk.1.1.1, ⟨hk.1.1.2, hk.1.2⟩⟩))); (case aS => exact (below_size (by repeat (first | (with_reducible first | exact HB.out | apply below_alloc | apply pw_below_drewN | apply below_drew1 | refine below_set ?_ GE401.out) | exact HB.out)))); (case aL => have := LMc17.out; omega); intro v404 w20 ho hb hg hat; rw [← Ny403.out] at ho; have n0_ := Aside0.mk (Kd.R_after (ok := (fun k_ => k_ ≠ gb401)) (by (with_reducible repeat (first | apply Kd.R_alloc | apply Kd.R_drewN | apply Kd.R_drew)); exact Kd.R_mono (Kd.R_far (p := ⟨gb401, 2, none⟩) (Kd.R_far (p := ⟨gb401, 1, none⟩) (Kd.R_far (p := ⟨gb401, 0, none⟩) (Kd.R_mono HO_6.out (fun k_ hk => (⟨hk, hk.2⟩ : _ ∧ k_ ≠ gb401))) (fun _ hk => hk.2) (.string ((rd_T33 t396 x21_1).f0))) (fun _ hk => hk.2) (.int .i64 ((rd_T33 t396 x21_1).f1))) (fun _ hk => hk.2) (.string ((rd_T33 t396 x21_1).f2))) (fun _ hk => ⟨hk.1.2, hk.1.1⟩)) hg hat); have n1_ := Aside0.mk (Kd.R_after (ok := (fun k_ => k_ ≠ gb401)) (by (with_reducible repeat (first | apply Kd.R_alloc | apply Kd.R_drewN | apply Kd.R_drew)); exact Kd.R_mono (Kd.R_far (p := ⟨gb401, 2, none⟩) (Kd.R_far (p := ⟨gb401, 1, none⟩) (Kd.R_far (p := ⟨gb401, 0, none⟩) (Kd.R_mono HO_19.out (fun k_ hk => (⟨hk, hk.2⟩ : _ ∧ k_ ≠ gb401))) (fun _ hk => hk.2) (.string ((rd_T33 t396 x21_1).f0))) (fun _ hk => hk.2) (.int .i64 ((rd_T33 t396 x21_1).f1))) (fun _ hk => hk.2) (.string ((rd_T33 t396 x21_1).f2))) (fun _ hk => ⟨hk.1.2, hk.1.1⟩)) hg hat); have n2_ := Aside0.mk (blk_grown (g := gb401) (o := .cells #[.string ((rd_T33 t396 x21_1).f0), .int .i64 ((rd_T33 t396 x21_1).f1), .string ((rd_T33 t396 x21_1).f2)] 33 (0, 0)) (by (with_reducible repeat (first | refine blk_drewN ?_ _ | refine blk_drew ?_ | refine blk_alloc ?_ _)); refine blk_put (cs := #[.string ((rd_T33 t396 x21_1).f0), .int .i64 ((rd_T33 t396 x21_1).f1), .string (⟨#[]⟩ : ByteArray)]) ?_ 2 _ rfl; (with_reducible repeat (first | refine blk_drewN ?_ _ | refine blk_drew ?_ | refine blk_alloc ?_ _)); refine blk_put (cs := #[.string ((rd_T33 t396 x21_1).f0), .int .i64 0, .string (⟨#[]⟩ : ByteArray)]) ?_ 1 _ rfl; (with_reducible repeat (first | refine blk_drewN ?_ _ | refine blk_drew ?_ | refine blk_alloc ?_ _)); refine blk_put (cs := #[.string (⟨#[]⟩ : ByteArray), .int .i64 0, .string (⟨#[]⟩ : ByteArray)]) ?_ 0 _ rfl; (with_reducible repeat (first | refine blk_drewN ?_ _ | refine blk_drew ?_ | refine blk_alloc ?_ _)); exact BK401.out) hg (Kd.R_away HO_8.out (fun _ hk => hk.2))); have n3_ := Aside0.mk (hb); have n4_ := Aside0.mk (ho); clear HO_6; clear HO_19; clear BK401; clear HB; clear HO_8; have HO_6 := n0_; have HO_19 := n1_; have BK401 := n2_; have HB := n3_; have HO405 := n4_; clear n0_ n1_ n2_ n3_ n4_; clear ho hb hg hat))
                    go_roundg k1
                    case measure => have := HK1.out; omega
                    case rel => exact ⟨(y403), (wrap64 (x21_1 + 1)), (by first | rfl | (simp; done) | (simp [*]; done)), H', ⟨by have := HK1.out; omega⟩, ⟨by (with_reducible repeat (first | apply Kd.R_alloc | apply Kd.R_drewN | apply Kd.R_drew)); exact Kd.R_mono HO_6.out (fun _ hk => hk.2)⟩, ⟨by (with_reducible repeat (first | apply Kd.R_alloc | apply Kd.R_drewN | apply Kd.R_drew)); exact Kd.R_mono HO405.out (fun _ hk => ⟨hk.1, hk.2.1⟩)⟩, ⟨by (with_reducible repeat (first | apply Kd.R_alloc | apply Kd.R_drewN | apply Kd.R_drew)); exact Kd.R_mono HO_19.out (fun _ hk => hk.2)⟩, ⟨by repeat (first | (with_reducible first | exact HB.out | apply below_alloc | apply pw_below_drewN | apply below_drew1 | refine below_set ?_ GE401.out) | exact HB.out)⟩⟩
                  · rw [if_neg c17] at H
                    exact absurd H (by simp)
            · rw [if_neg c9] at H
              exact absurd H (by simp)
          · rw [if_neg c8] at H
            exact absurd H (by simp)
        · rw [if_neg c7] at H
          have c7b0 : decide (x21_1 < (t396.length : Int)) = false := decide_eq_false c7
          clear c7
          by_cases c21 : (x8_1.length : Int) = (t396.length : Int)
          · rw [if_pos c21] at H
            have c21b0 : ((x8_1.length : Int) == (t396.length : Int)) = true := beq_iff_eq.mpr c21
            have c21b1 : ((x8_1.length : Int) != (t396.length : Int)) = false := bne_eq_false_iff_eq.mpr c21
            have c21b2 : (x8_1.length == t396.length) = true := by first | simpa using c21 | (simp at c21 ⊢; omega)
            clear c21
            simp only [Option.some.injEq, Prod.mk.injEq] at H
            obtain ⟨rfl, rfl⟩ := H
            obtain ⟨Ao22, co22, eo22⟩ := Kd.R_slice HO_8.out
            subst eo22
            go_wp2
            go_ret2
            exact ⟨by first | rfl | (simp [errW_none, errW_some] <;> rfl) | (simp [*, errW_none, errW_some] <;> rfl), by repeat (first | (with_reducible first | exact HB.out | apply below_alloc | apply pw_below_drewN | apply below_drew1) | exact HB.out)⟩
          · rw [if_neg c21] at H
            have c21b0 : ((x8_1.length : Int) == (t396.length : Int)) = false := beq_eq_false_iff_ne.mpr c21
            have c21b1 : ((x8_1.length : Int) != (t396.length : Int)) = true := bne_iff_ne.mpr c21
            have c21b2 : (x8_1.length == t396.length) = false := by first | simpa using c21 | (simp at c21 ⊢; omega)
            replace H := Option.bind_eq_some_iff.mp H
            obtain ⟨⟨t406, t407⟩, A230, H⟩ := H
            replace H : (some (t406, t407)) = some (r1, r2) := H
            have A23 := Aside0.mk A230
            clear A230
            simp only [Option.some.injEq, Prod.mk.injEq] at H
            obtain ⟨rfl, rfl⟩ := H
            obtain ⟨Ao24, co24, eo24⟩ := Kd.R_slice HO_8.out
            subst eo24
            go_wp2_with (first | ((with_reducible refine gate_callee (f := 12) rfl ?_); refine goesL_ (some 47) rfl rfl Tryd.func12 (by kernel_rfl) rfl #[.slice Ao24 x8_1.length co24] rfl (by (try simp only [List.map_toArray, List.map_cons, List.map_nil]); first | done | rfl | (simp only [List.length_drop, List.length_take]; rfl)) ?_; (with_reducible refine (image_Of.calls k1 _ _ x8_1 t406 t407 _ ?side1 ?side2 A23.out).mono ?_); (case side1 => repeat (first | exact (Kd.R_reads' HO_8.out).2.2 | (with_reducible refine Kd.C_alloc ?_ _) | (with_reducible refine Kd.C_drewN ?_ _) | (with_reducible refine Kd.C_drew ?_))); (case side2 => exact (Kd.R_reads' HO_8.out).2.1); rintro e w25 ⟨rfl, hb⟩; refine ⟨_, rfl, ?_⟩; have n0_ := Aside0.mk (Kd.R_below (by (with_reducible repeat (first | apply Kd.R_alloc | apply Kd.R_drewN | apply Kd.R_drew)); exact HO_6.out) hb); have n1_ := Aside0.mk (Kd.R_below (by (with_reducible repeat (first | apply Kd.R_alloc | apply Kd.R_drewN | apply Kd.R_drew)); exact HO_8.out) hb); have n2_ := Aside0.mk (Kd.R_below (by (with_reducible repeat (first | apply Kd.R_alloc | apply Kd.R_drewN | apply Kd.R_drew)); exact HO_19.out) hb); have n3_ := Aside0.mk (below_step (by repeat (first | (with_reducible first | exact HB.out | apply below_alloc | apply pw_below_drewN | apply below_drew1) | exact HB.out)) hb); clear HO_6; clear HO_8; clear HO_19; clear HB; have HO_6 := n0_; have HO_8 := n1_; have HO_19 := n2_; have HB := n3_; clear n0_ n1_ n2_ n3_; (try clear hb); (try clear hb2); (try clear hk); (try clear hi)))
            go_ret2
            exact ⟨by first | rfl | (simp [errW_none, errW_some] <;> rfl) | (simp [*, errW_none, errW_some] <;> rfl), by repeat (first | (with_reducible first | exact HB.out | apply below_alloc | apply pw_below_drewN | apply below_drew1) | exact HB.out)⟩
  · rw [if_neg c4] at H
    have c4b0 : (t397 == 0) = false := beq_eq_false_iff_ne.mpr c4
    have c4b1 : (t397 != 0) = true := bne_iff_ne.mpr c4
    simp only [Option.some.injEq, Prod.mk.injEq] at H
    obtain ⟨rfl, rfl⟩ := H
    go_enter Tryd.func20, Tryd.ntmps20
    go_wp2_with (first | ((with_reducible refine gate_callee (f := 17) rfl ?_); refine goesL_ (some 13) rfl rfl Tryd.func17 (by kernel_rfl) rfl #[.string a0] rfl (by (try simp only [List.map_toArray, List.map_cons, List.map_nil]); first | done | rfl | (simp only [List.length_drop, List.length_take]; rfl)) ?_; (with_reducible refine (image_Tree.calls k a0 t396 t397 _ A3.out).mono ?_); rintro e w26 ⟨v398, rfl, ho0, hb⟩; refine ⟨_, rfl, ?_⟩; have n0_ := Aside0.mk (Kd.R_lower ho0 (below_size (by repeat (first | (with_reducible first | exact HB.out | apply below_alloc | apply pw_below_drewN | apply below_drew1) | exact HB.out)))); have n1_ := Aside0.mk (below_step (by repeat (first | (with_reducible first | exact HB.out | apply below_alloc | apply pw_below_drewN | apply below_drew1) | exact HB.out)) hb); clear HB; have HO399 := n0_; have HB := n1_; clear n0_ n1_; (try clear hb); (try clear hb2); (try clear hk); (try clear hi); (try clear ho0)))
    go_ret2
    exact ⟨by first | rfl | (simp [errW_none, errW_some] <;> rfl) | (simp [*, errW_none, errW_some] <;> rfl), by repeat (first | (with_reducible first | exact HB.out | apply below_alloc | apply pw_below_drewN | apply below_drew1) | exact HB.out)⟩
end Go.Proofs.YtmeofdpmddjbgaaDoor.G
end
