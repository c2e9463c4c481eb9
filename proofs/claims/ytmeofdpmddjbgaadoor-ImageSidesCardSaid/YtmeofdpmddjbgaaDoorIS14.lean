/- Texts of this session's claim of ImageSides, less what its theorem does not reach. No condition. -/
import Derived.Test.YtmeofdpmddjbgaaDoorIS11
import Derived.Test.YtmeofdpmddjbgaaDoorIS12
import Derived.Test.YtmeofdpmddjbgaaDoorIS13
section
namespace Go.Proofs.YtmeofdpmddjbgaaDoor.G
open Go.RowKit Go.Proofs.YtmeofdpmddjbgaaDoorW.PrintWords Go.Proofs.YtmeofdpmddjbgaaDoorW.PrintLast Go.Proofs.YtmeofdpmddjbgaaDoorW.PrintMore
attribute [local go_sem] max2_int min2_int max_two min_two max_three min_three max_four min_four   -- for this text's walks alone
set_option linter.unusedVariables false
set_option linter.unusedSimpArgs false
mutual
def barquelaw10_few.l0 : Nat → List (S33) → List (S33) → Int → Int → Option ((List (S33)))
 | 0, _, _, _, _ => none
 | k + 1, x0, x3, x4, x5 => if x5 < (x0.length : Int) then (barquelaw10_few.j1 k x0 x3 x4 x5 (decide (x5 < 60))) else (barquelaw10_few.j1 k x0 x3 x4 x5 false)
def barquelaw10_few.j1 : Nat → List (S33) → List (S33) → Int → Int → Bool → Option ((List (S33)))
 | 0, _, _, _, _, _ => none
 | k + 1, x0, x3, x4, x5, x14 => if x14 = true then (if 0 ≤ x5 then (if x5 < (x0.length : Int) then (if (((rd_T33 x0 x5).f2).size : Int) > (wrap64 (20000 - x4)) then (if x3.length < 3518437208883 then (barquelaw10_few.l0 k x0 (x3 ++ [(⟨(rd_T33 x0 x5).f0, (rd_T33 x0 x5).f1, (⟨#[]⟩ : ByteArray)⟩ : S33)]) (wrap64 (x4 + 0)) (wrap64 (x5 + 1))) else (none)) else (if x3.length < 3518437208883 then (barquelaw10_few.l0 k x0 (x3 ++ [(⟨(rd_T33 x0 x5).f0, (rd_T33 x0 x5).f1, (rd_T33 x0 x5).f2⟩ : S33)]) (wrap64 (x4 + (((rd_T33 x0 x5).f2).size : Int))) (wrap64 (x5 + 1))) else (none))) else (none)) else (none)) else (some x3)
end
def barquelaw10_few.f (k : Nat) (l0 : List (S33)) : Option ((List (S33))) := barquelaw10_few.l0 k l0 ([] : List (S33)) 0 0
set_option maxHeartbeats 8000000 in
set_option maxRecDepth 100000 in
theorem barquelaw10_few.calls (k : Nat) (A0 : Option Addr) (c0 : Nat) (l0 : List (S33)) (r : List (S33)) (w : World) (hr0 : Kd.C k33 w A0 l0.length l0) (hc0 : l0.length ≤ c0) (h : barquelaw10_few.f k l0 = some r) :
  Calls Tryd.prog 11 #[.slice A0 l0.length c0] w fun e w' => ∃ v0_ : Value, e = .returned (v0_) ∧ Kd.R k33 33 w' w.heap.size (fun _ => True) v0_ r ∧ Below w.heap.size w w' := by
 have hu33 := Tryd.underlying33; have HR0 := Aside0.mk hr0; have HC0 := Aside0.mk hc0; clear hr0 hc0; have HB := Aside0.mk (Below.refl w.heap.size w); have H : (barquelaw10_few.l0 k l0 ([] : List (S33)) 0 0) = some r := h; clear h; have H' := Aside0.mk H; clear H; go_enter Tryd.func11, Tryd.ntmps11; go_wp2; go_loopg [3, 4, 5] k (fun kq v3 v4 v5 w' => ∃ (x3_1 : List (S33)) (x4_1 : Int) (x5_1 : Int), v4 = .int .i64 x4_1 ∧ v5 = .int .i64 x5_1 ∧ Aside0 (barquelaw10_few.l0 kq l0 x3_1 x4_1 x5_1 = some r) ∧ Aside0 (kq ≤ k) ∧ Aside0 (Kd.R k33 33 w' w.heap.size (fun _ => True) v3 x3_1) ∧ Aside0 (Below w.heap.size w w'))
 case atStart => exact ⟨(([] : List (S33))), (0), (0), (by first | rfl | (simp; done) | (simp [*]; done)), (by first | rfl | (simp; done) | (simp [*]; done)), H', ⟨Nat.le_refl _⟩, ⟨by first | exact Kd.R_nil _ _ _ _ _ | exact Kd.N_nil _ _ _ _ _ | exact Kd.V_nil _ _ _ _ _ | exact Kd.Q_nil _ _ _ _ _ | exact Kd.S_nil _ _ _ _ _⟩, ⟨by repeat (first | (with_reducible first | exact HB.out | apply below_alloc | apply pw_below_drewN | apply below_drew1) | exact HB.out)⟩⟩
 case round =>
  clear H'; (try clear c1); obtain ⟨x3_1, x4_1, x5_1, rfl, rfl, HA, HK1, HO_3, HB⟩ := hrel
  cases gk with
  | zero => exact absurd HA.out (by simp [barquelaw10_few.l0])
  | succ k1 =>
   have H := HA.out; clear HA; simp only [barquelaw10_few.l0] at H; have HC2 := Aside0.mk H; clear H; go_upto_region 4 with (fail); go_cut [14] (fun v14 wc => ∃ (kq : Nat) (x14_1 : Bool), v14 = .bool x14_1 ∧ Aside0 (barquelaw10_few.j1 kq l0 x3_1 x4_1 x5_1 x14_1 = some r) ∧ Aside0 (kq ≤ k1) ∧ Aside0 (Kd.R k33 33 wc w.heap.size (fun _ => True) u3 x3_1) ∧ Aside0 (Below w.heap.size w wc))
   case first =>
    have H := HC2.out; clear HC2; by_cases c3 : x5_1 < (l0.length : Int)
    ·rw [if_pos c3] at H; have c3b0 : decide (x5_1 < (l0.length : Int)) = true := decide_eq_true c3; clear c3; (first | rw [c3b0] | (simp only [i64_w, i32_w]; rw [c3b0]) | skip); have H' := Aside0.mk H; clear H; go_wp2; go_meet
     case rel => exact ⟨_, (decide (x5_1 < 60)), (by first | rfl | (simp; done) | (simp [*]; done)), H', ⟨by have := HK1.out; first | omega | exact Nat.le_refl _⟩, ⟨by (with_reducible repeat (first | apply Kd.R_alloc | apply Kd.R_drewN | apply Kd.R_drew)); exact HO_3.out⟩, ⟨by repeat (first | (with_reducible first | exact HB.out | apply below_alloc | apply pw_below_drewN | apply below_drew1) | exact HB.out)⟩⟩
    ·rw [if_neg c3] at H; have c3b0 : decide (x5_1 < (l0.length : Int)) = false := decide_eq_false c3; clear c3; (first | rw [c3b0] | (simp only [i64_w, i32_w]; rw [c3b0]) | skip); have H' := Aside0.mk H; clear H; go_wp2; go_meet
     case rel => exact ⟨_, (false), (by first | rfl | (simp; done) | (simp [*]; done)), H', ⟨by have := HK1.out; first | omega | exact Nat.le_refl _⟩, ⟨by (with_reducible repeat (first | apply Kd.R_alloc | apply Kd.R_drewN | apply Kd.R_drew)); exact HO_3.out⟩, ⟨by repeat (first | (with_reducible first | exact HB.out | apply below_alloc | apply pw_below_drewN | apply below_drew1) | exact HB.out)⟩⟩
   case rest =>
    clear HC2; (try clear c1); (try clear p2); (try clear c3); (try clear c3b0); obtain ⟨kq, x14_1, rfl, HA, HJ1, HO_3, HB⟩ := hcut
    cases kq with
    | zero => exact absurd HA.out (by simp [barquelaw10_few.j1])
    | succ kj1 =>
     have H := HA.out; clear HA; simp only [barquelaw10_few.j1] at H; by_cases c4 : x14_1 = true
     ·subst c4; (have H1 : (if 0 ≤ x5_1 then (if x5_1 < (l0.length : Int) then (if (((rd_T33 l0 x5_1).f2).size : Int) > (wrap64 (20000 - x4_1)) then (if x3_1.length < 3518437208883 then (barquelaw10_few.l0 kj1 l0 (x3_1 ++ [(⟨(rd_T33 l0 x5_1).f0, (rd_T33 l0 x5_1).f1, (⟨#[]⟩ : ByteArray)⟩ : S33)]) (wrap64 (x4_1 + 0)) (wrap64 (x5_1 + 1))) else (none)) else (if x3_1.length < 3518437208883 then (barquelaw10_few.l0 kj1 l0 (x3_1 ++ [(⟨(rd_T33 l0 x5_1).f0, (rd_T33 l0 x5_1).f1, (rd_T33 l0 x5_1).f2⟩ : S33)]) (wrap64 (x4_1 + (((rd_T33 l0 x5_1).f2).size : Int))) (wrap64 (x5_1 + 1))) else (none))) else (none)) else (none)) = some r := by rw [if_pos rfl] at H; exact H); clear H; have H := H1; clear H1; by_cases c5 : 0 ≤ x5_1
      ·rw [if_pos c5] at H; have c5b0 : decide (0 ≤ x5_1) = true := decide_eq_true c5; clear c5; by_cases c6 : x5_1 < (l0.length : Int)
       ·rw [if_pos c6] at H; have c6b0 : decide (x5_1 < (l0.length : Int)) = true := decide_eq_true c6; clear c6; by_cases c7 : (((rd_T33 l0 x5_1).f2).size : Int) > (wrap64 (20000 - x4_1))
        ·rw [if_pos c7] at H; have c7b0 : decide ((wrap64 (20000 - x4_1)) < (((rd_T33 l0 x5_1).f2).size : Int)) = true := decide_eq_true c7; clear c7; by_cases c8 : x3_1.length < 3518437208883
         ·rw [if_pos c8] at H; have LMc8 := Aside0.mk c8; clear c8; obtain ⟨y103, hy103⟩ : ∃ y_ : List (S33), y_ = (x3_1 ++ [(⟨(rd_T33 l0 x5_1).f0, (rd_T33 l0 x5_1).f1, (⟨#[]⟩ : ByteArray)⟩ : S33)]) := ⟨_, rfl⟩; (replace H : (barquelaw10_few.l0 kj1 l0 y103 (wrap64 (x4_1 + 0)) (wrap64 (x5_1 + 1))) = some r := by first | (rw [hy103]; with_reducible exact H) | (have H2_ := (Option.bind_some _ _).symm.trans H; rw [hy103]; with_reducible exact H2_) | (have H2_ := (Option.bind_some _ _).symm.trans H; with_reducible exact H2_) | with_reducible exact H | (rw [hy103]; exact H) | exact H); have Ny103 := Aside0.mk hy103; clear hy103; have H' := Aside0.mk H; clear H; have p101 : 0 ≤ (x5_1 : Int) := of_decide_eq_true (by first | (with_reducible assumption) | assumption); have q101 : x5_1 < (l0.length : Int) := of_decide_eq_true (by first | (with_reducible assumption) | assumption); obtain ⟨ad101, e101, hx101_0, hx101_1, hx101_2⟩ := at_T33 HR0.out x5_1 p101 q101; cases e101; replace hx101_0 := (HB.out.cell (World.block_lt_of_cell? w _ hx101_0)).trans hx101_0; replace hx101_1 := (HB.out.cell (World.block_lt_of_cell? w _ hx101_1)).trans hx101_1; replace hx101_2 := (HB.out.cell (World.block_lt_of_cell? w _ hx101_2)).trans hx101_2; replace p101 := eq_true p101; replace q101 := eq_true q101; go_wp2_with (first | ((with_reducible refine gate_dst (N := 6) rfl ?_); refine box_event ?hg (N := 6) ?hd (cs := #[.string (⟨#[]⟩ : ByteArray), .int .i64 0, .string (⟨#[]⟩ : ByteArray)]) (t := 33) ?hr ?_; (case hd => rfl); (case hg => rfl); (case hr => first | (go_simp; done) | (go_simp; rfl)); intro gb102 hg w9 hbox hb; have n0_ := Aside0.mk (Kd.R_below (Kd.R_elderB (by (with_reducible repeat (first | apply Kd.R_alloc | apply Kd.R_drewN | apply Kd.R_drew)); exact HO_3.out) gb102 (Nat.le_of_eq hg.symm)) hb); have n1_ := Aside0.mk (below_step (by repeat (first | (with_reducible first | exact HB.out | apply below_alloc | apply pw_below_drewN | apply below_drew1) | exact HB.out)) hb); have n2_ := Aside0.mk (hbox); have n3_ := Aside0.mk ((by rw [hg]; exact (below_size (by repeat (first | (with_reducible first | exact HB.out | apply below_alloc | apply pw_below_drewN | apply below_drew1) | exact HB.out))) : w.heap.size ≤ gb102)); have n4_ := Aside0.mk ((by rw [hg]; exact (below_size (by repeat (first | (with_reducible first | exact HB.out | apply below_alloc | apply pw_below_drewN | apply below_drew1) | exact HB.out))) : w.heap.size ≤ gb102)); clear HO_3; clear HB; have HO_3 := n0_; have HB := n1_; have BK102 := n2_; have GW102 := n3_; have GE102 := n4_; clear n0_ n1_ n2_ n3_ n4_; clear hb hbox hg; have hcz10_0 : w9.cell? ⟨gb102, 0, none⟩ = some (.string (⟨#[]⟩ : ByteArray)) := (blk_cell BK102.out 0).trans rfl; have hcz10_1 : w9.cell? ⟨gb102, 1, none⟩ = some (.int .i64 0) := (blk_cell BK102.out 1).trans rfl; have hcz10_2 : w9.cell? ⟨gb102, 2, none⟩ = some (.string (⟨#[]⟩ : ByteArray)) := (blk_cell BK102.out 2).trans rfl; have hfz10_0 := blk_frozen BK102.out 0; have hfz10_1 := blk_frozen BK102.out 1; have hfz10_2 := blk_frozen BK102.out 2; have hq0_ : ∀ (a_ b_ c_ d_ : Value), ((((w9.setCell ⟨gb102, 0, none⟩ a_).setCell ⟨gb102, 1, none⟩ b_).setCell ⟨gb102, 2, none⟩ c_).setCell ⟨gb102, 2, none⟩ d_).cell? ⟨gb102, 0, none⟩ = some a_ := fun a_ b_ c_ d_ => (blk_cell (blk_put (blk_put (blk_put (blk_put BK102.out 0 a_ rfl) 1 b_ rfl) 2 c_ rfl) 2 d_ rfl) 0).trans rfl; have hq1_ : ∀ (a_ b_ c_ d_ : Value), ((((w9.setCell ⟨gb102, 0, none⟩ a_).setCell ⟨gb102, 1, none⟩ b_).setCell ⟨gb102, 2, none⟩ c_).setCell ⟨gb102, 2, none⟩ d_).cell? ⟨gb102, 1, none⟩ = some b_ := fun a_ b_ c_ d_ => (blk_cell (blk_put (blk_put (blk_put (blk_put BK102.out 0 a_ rfl) 1 b_ rfl) 2 c_ rfl) 2 d_ rfl) 1).trans rfl; have hq2_ : ∀ (a_ b_ c_ d_ : Value), ((((w9.setCell ⟨gb102, 0, none⟩ a_).setCell ⟨gb102, 1, none⟩ b_).setCell ⟨gb102, 2, none⟩ c_).setCell ⟨gb102, 2, none⟩ d_).cell? ⟨gb102, 2, none⟩ = some d_ := fun a_ b_ c_ d_ => (blk_cell (blk_put (blk_put (blk_put (blk_put BK102.out 0 a_ rfl) 1 b_ rfl) 2 c_ rfl) 2 d_ rfl) 2).trans rfl) | ((with_reducible refine gate_builtin (b := .append) (xs := #[.tmp 33, .tmp 35]) rfl ?_); at_builtin; refine Kd.R_append k33 (w0 := w) w.heap.size rfl (.tmp 33) (.tmp 35) 22 33 (.agg #[(.string ⟨#[]⟩), (.int .i64 0), (.string ⟨#[]⟩)]) 40 rfl Tryd.underlying22 info33 rfl (by decide) (by omega) u3 x3_1 (⟨(rd_T33 l0 x5_1).f0, (rd_T33 l0 x5_1).f1, (⟨#[]⟩ : ByteArray)⟩ : S33) [.string ((rd_T33 l0 x5_1).f0), .int .i64 ((rd_T33 l0 x5_1).f1), .string (⟨#[]⟩ : ByteArray)] (fun k_ => k_ ≠ gb102) (fun _ => False) rfl (by first | (go_simp; done) | (go_simp; rfl)) ?aP (fun _ hk => hk.elim) ?aF ?aO ?aB ?aS ?aL ?_; (case aP => exact k33_mkM _ _ _ (⟨(rd_T33 l0 x5_1).f0, (rd_T33 l0 x5_1).f1, (⟨#[]⟩ : ByteArray)⟩ : S33)); (case aB => exact (by repeat (first | (with_reducible first | exact HB.out | apply below_alloc | apply pw_below_drewN | apply below_drew1 | refine below_set ?_ GE102.out) | exact HB.out))); (case aF => exact (fun k_ hk => Kd.freshB (g := gb102) (o := .cells #[.string ((rd_T33 l0 x5_1).f0), .int .i64 ((rd_T33 l0 x5_1).f1), .string (⟨#[]⟩ : ByteArray)] 33 (0, 0)) (by (with_reducible repeat (first | refine blk_drewN ?_ _ | refine blk_drew ?_ | refine blk_alloc ?_ _)); refine blk_put (cs := #[.string ((rd_T33 l0 x5_1).f0), .int .i64 ((rd_T33 l0 x5_1).f1), .string ((rd_T33 l0 x5_1).f2)]) ?_ 2 _ rfl; (with_reducible repeat (first | refine blk_drewN ?_ _ | refine blk_drew ?_ | refine blk_alloc ?_ _)); refine blk_put (cs := #[.string ((rd_T33 l0 x5_1).f0), .int .i64 ((rd_T33 l0 x5_1).f1), .string (⟨#[]⟩ : ByteArray)]) ?_ 2 _ rfl; (with_reducible repeat (first | refine blk_drewN ?_ _ | refine blk_drew ?_ | refine blk_alloc ?_ _)); refine blk_put (cs := #[.string ((rd_T33 l0 x5_1).f0), .int .i64 0, .string (⟨#[]⟩ : ByteArray)]) ?_ 1 _ rfl; (with_reducible repeat (first | refine blk_drewN ?_ _ | refine blk_drew ?_ | refine blk_alloc ?_ _)); refine blk_put (cs := #[.string (⟨#[]⟩ : ByteArray), .int .i64 0, .string (⟨#[]⟩ : ByteArray)]) ?_ 0 _ rfl; (with_reducible repeat (first | refine blk_drewN ?_ _ | refine blk_drew ?_ | refine blk_alloc ?_ _)); exact BK102.out) k_ hk)); (case aO => exact (by (with_reducible repeat (first | apply Kd.R_alloc | apply Kd.R_drewN | apply Kd.R_drew)); exact Kd.R_mono (Kd.R_far (p := ⟨gb102, 2, none⟩) (Kd.R_far (p := ⟨gb102, 2, none⟩) (Kd.R_far (p := ⟨gb102, 1, none⟩) (Kd.R_far (p := ⟨gb102, 0, none⟩) (Kd.R_mono HO_3.out (fun k_ hk => (⟨hk, hk.2⟩ : _ ∧ k_ ≠ gb102))) (fun _ hk => hk.2) (.string ((rd_T33 l0 x5_1).f0))) (fun _ hk => hk.2) (.int .i64 ((rd_T33 l0 x5_1).f1))) (fun _ hk => hk.2) (.string ((rd_T33 l0 x5_1).f2))) (fun _ hk => hk.2) (.string (⟨#[]⟩ : ByteArray))) (fun _ hk => hk.1.2))); (case aS => exact (below_size (by repeat (first | (with_reducible first | exact HB.out | apply below_alloc | apply pw_below_drewN | apply below_drew1 | refine below_set ?_ GE102.out) | exact HB.out)))); (case aL => have := LMc8.out; omega); intro v104 w11 ho hb hg hat; rw [← Ny103.out] at ho; have n0_ := Aside0.mk (blk_grown (g := gb102) (o := .cells #[.string ((rd_T33 l0 x5_1).f0), .int .i64 ((rd_T33 l0 x5_1).f1), .string (⟨#[]⟩ : ByteArray)] 33 (0, 0)) (by (with_reducible repeat (first | refine blk_drewN ?_ _ | refine blk_drew ?_ | refine blk_alloc ?_ _)); refine blk_put (cs := #[.string ((rd_T33 l0 x5_1).f0), .int .i64 ((rd_T33 l0 x5_1).f1), .string ((rd_T33 l0 x5_1).f2)]) ?_ 2 _ rfl; (with_reducible repeat (first | refine blk_drewN ?_ _ | refine blk_drew ?_ | refine blk_alloc ?_ _)); refine blk_put (cs := #[.string ((rd_T33 l0 x5_1).f0), .int .i64 ((rd_T33 l0 x5_1).f1), .string (⟨#[]⟩ : ByteArray)]) ?_ 2 _ rfl; (with_reducible repeat (first | refine blk_drewN ?_ _ | refine blk_drew ?_ | refine blk_alloc ?_ _)); refine blk_put (cs := #[.string ((rd_T33 l0 x5_1).f0), .int .i64 0, .string (⟨#[]⟩ : ByteArray)]) ?_ 1 _ rfl; (with_reducible repeat (first | refine blk_drewN ?_ _ | refine blk_drew ?_ | refine blk_alloc ?_ _)); refine blk_put (cs := #[.string (⟨#[]⟩ : ByteArray), .int .i64 0, .string (⟨#[]⟩ : ByteArray)]) ?_ 0 _ rfl; (with_reducible repeat (first | refine blk_drewN ?_ _ | refine blk_drew ?_ | refine blk_alloc ?_ _)); exact BK102.out) hg (Kd.R_away HO_3.out (fun _ hk => hk.2))); have n1_ := Aside0.mk (hb); have n2_ := Aside0.mk (ho); clear BK102; clear HB; clear HO_3; have BK102 := n0_; have HB := n1_; have HO105 := n2_; clear n0_ n1_ n2_; clear ho hb hg hat)); go_roundg kj1
          case measure => have := HK1.out; have := HJ1.out; omega
          case rel => exact ⟨(y103), (wrap64 (x4_1 + 0)), (wrap64 (x5_1 + 1)), (by first | rfl | (simp; done) | (simp [*]; done)), (by first | rfl | (simp; done) | (simp [*]; done)), H', ⟨by have := HK1.out; have := HJ1.out; omega⟩, ⟨by (with_reducible repeat (first | apply Kd.R_alloc | apply Kd.R_drewN | apply Kd.R_drew)); exact Kd.R_mono HO105.out (fun _ hk => trivial)⟩, ⟨by repeat (first | (with_reducible first | exact HB.out | apply below_alloc | apply pw_below_drewN | apply below_drew1 | refine below_set ?_ GE102.out) | exact HB.out)⟩⟩
         ·rw [if_neg c8] at H; exact absurd H (by simp)
        ·rw [if_neg c7] at H; have c7b0 : decide ((wrap64 (20000 - x4_1)) < (((rd_T33 l0 x5_1).f2).size : Int)) = false := decide_eq_false c7; clear c7; by_cases c12 : x3_1.length < 3518437208883
         ·rw [if_pos c12] at H; have LMc12 := Aside0.mk c12; clear c12; obtain ⟨y106, hy106⟩ : ∃ y_ : List (S33), y_ = (x3_1 ++ [(⟨(rd_T33 l0 x5_1).f0, (rd_T33 l0 x5_1).f1, (rd_T33 l0 x5_1).f2⟩ : S33)]) := ⟨_, rfl⟩; (replace H : (barquelaw10_few.l0 kj1 l0 y106 (wrap64 (x4_1 + (((rd_T33 l0 x5_1).f2).size : Int))) (wrap64 (x5_1 + 1))) = some r := by first | (rw [hy106]; with_reducible exact H) | (have H2_ := (Option.bind_some _ _).symm.trans H; rw [hy106]; with_reducible exact H2_) | (have H2_ := (Option.bind_some _ _).symm.trans H; with_reducible exact H2_) | with_reducible exact H | (rw [hy106]; exact H) | exact H); have Ny106 := Aside0.mk hy106; clear hy106; have H' := Aside0.mk H; clear H; have p101 : 0 ≤ (x5_1 : Int) := of_decide_eq_true (by first | (with_reducible assumption) | assumption); have q101 : x5_1 < (l0.length : Int) := of_decide_eq_true (by first | (with_reducible assumption) | assumption); obtain ⟨ad101, e101, hx101_0, hx101_1, hx101_2⟩ := at_T33 HR0.out x5_1 p101 q101; cases e101; replace hx101_0 := (HB.out.cell (World.block_lt_of_cell? w _ hx101_0)).trans hx101_0; replace hx101_1 := (HB.out.cell (World.block_lt_of_cell? w _ hx101_1)).trans hx101_1; replace hx101_2 := (HB.out.cell (World.block_lt_of_cell? w _ hx101_2)).trans hx101_2; replace p101 := eq_true p101; replace q101 := eq_true q101; go_wp2_with (first | ((with_reducible refine gate_dst (N := 6) rfl ?_); refine box_event ?hg (N := 6) ?hd (cs := #[.string (⟨#[]⟩ : ByteArray), .int .i64 0, .string (⟨#[]⟩ : ByteArray)]) (t := 33) ?hr ?_; (case hd => rfl); (case hg => rfl); (case hr => first | (go_simp; done) | (go_simp; rfl)); intro gb102 hg w13 hbox hb; have n0_ := Aside0.mk (Kd.R_below (Kd.R_elderB (by (with_reducible repeat (first | apply Kd.R_alloc | apply Kd.R_drewN | apply Kd.R_drew)); exact HO_3.out) gb102 (Nat.le_of_eq hg.symm)) hb); have n1_ := Aside0.mk (below_step (by repeat (first | (with_reducible first | exact HB.out | apply below_alloc | apply pw_below_drewN | apply below_drew1) | exact HB.out)) hb); have n2_ := Aside0.mk (hbox); have n3_ := Aside0.mk ((by rw [hg]; exact (below_size (by repeat (first | (with_reducible first | exact HB.out | apply below_alloc | apply pw_below_drewN | apply below_drew1) | exact HB.out))) : w.heap.size ≤ gb102)); have n4_ := Aside0.mk ((by rw [hg]; exact (below_size (by repeat (first | (with_reducible first | exact HB.out | apply below_alloc | apply pw_below_drewN | apply below_drew1) | exact HB.out))) : w.heap.size ≤ gb102)); clear HO_3; clear HB; have HO_3 := n0_; have HB := n1_; have BK102 := n2_; have GW102 := n3_; have GE102 := n4_; clear n0_ n1_ n2_ n3_ n4_; clear hb hbox hg; have hcz14_0 : w13.cell? ⟨gb102, 0, none⟩ = some (.string (⟨#[]⟩ : ByteArray)) := (blk_cell BK102.out 0).trans rfl; have hcz14_1 : w13.cell? ⟨gb102, 1, none⟩ = some (.int .i64 0) := (blk_cell BK102.out 1).trans rfl; have hcz14_2 : w13.cell? ⟨gb102, 2, none⟩ = some (.string (⟨#[]⟩ : ByteArray)) := (blk_cell BK102.out 2).trans rfl; have hfz14_0 := blk_frozen BK102.out 0; have hfz14_1 := blk_frozen BK102.out 1; have hfz14_2 := blk_frozen BK102.out 2; have hq0_ : ∀ (a_ b_ c_ d_ : Value), ((((w13.setCell ⟨gb102, 0, none⟩ a_).setCell ⟨gb102, 1, none⟩ b_).setCell ⟨gb102, 2, none⟩ c_).setCell ⟨gb102, 2, none⟩ d_).cell? ⟨gb102, 0, none⟩ = some a_ := fun a_ b_ c_ d_ => (blk_cell (blk_put (blk_put (blk_put (blk_put BK102.out 0 a_ rfl) 1 b_ rfl) 2 c_ rfl) 2 d_ rfl) 0).trans rfl; have hq1_ : ∀ (a_ b_ c_ d_ : Value), ((((w13.setCell ⟨gb102, 0, none⟩ a_).setCell ⟨gb102, 1, none⟩ b_).setCell ⟨gb102, 2, none⟩ c_).setCell ⟨gb102, 2, none⟩ d_).cell? ⟨gb102, 1, none⟩ = some b_ := fun a_ b_ c_ d_ => (blk_cell (blk_put (blk_put (blk_put (blk_put BK102.out 0 a_ rfl) 1 b_ rfl) 2 c_ rfl) 2 d_ rfl) 1).trans rfl; have hq2_ : ∀ (a_ b_ c_ d_ : Value), ((((w13.setCell ⟨gb102, 0, none⟩ a_).setCell ⟨gb102, 1, none⟩ b_).setCell ⟨gb102, 2, none⟩ c_).setCell ⟨gb102, 2, none⟩ d_).cell? ⟨gb102, 2, none⟩ = some d_ := fun a_ b_ c_ d_ => (blk_cell (blk_put (blk_put (blk_put (blk_put BK102.out 0 a_ rfl) 1 b_ rfl) 2 c_ rfl) 2 d_ rfl) 2).trans rfl) | ((with_reducible refine gate_builtin (b := .append) (xs := #[.tmp 33, .tmp 35]) rfl ?_); at_builtin; refine Kd.R_append k33 (w0 := w) w.heap.size rfl (.tmp 33) (.tmp 35) 22 33 (.agg #[(.string ⟨#[]⟩), (.int .i64 0), (.string ⟨#[]⟩)]) 40 rfl Tryd.underlying22 info33 rfl (by decide) (by omega) u3 x3_1 (⟨(rd_T33 l0 x5_1).f0, (rd_T33 l0 x5_1).f1, (rd_T33 l0 x5_1).f2⟩ : S33) [.string ((rd_T33 l0 x5_1).f0), .int .i64 ((rd_T33 l0 x5_1).f1), .string ((rd_T33 l0 x5_1).f2)] (fun k_ => k_ ≠ gb102) (fun _ => False) rfl (by first | (go_simp; done) | (go_simp; rfl)) ?aP (fun _ hk => hk.elim) ?aF ?aO ?aB ?aS ?aL ?_; (case aP => exact k33_mkM _ _ _ (⟨(rd_T33 l0 x5_1).f0, (rd_T33 l0 x5_1).f1, (rd_T33 l0 x5_1).f2⟩ : S33)); (case aB => exact (by repeat (first | (with_reducible first | exact HB.out | apply below_alloc | apply pw_below_drewN | apply below_drew1 | refine below_set ?_ GE102.out) | exact HB.out))); (case aF => exact (fun k_ hk => Kd.freshB (g := gb102) (o := .cells #[.string ((rd_T33 l0 x5_1).f0), .int .i64 ((rd_T33 l0 x5_1).f1), .string ((rd_T33 l0 x5_1).f2)] 33 (0, 0)) (by (with_reducible repeat (first | refine blk_drewN ?_ _ | refine blk_drew ?_ | refine blk_alloc ?_ _)); refine blk_put (cs := #[.string ((rd_T33 l0 x5_1).f0), .int .i64 ((rd_T33 l0 x5_1).f1), .string (⟨#[]⟩ : ByteArray)]) ?_ 2 _ rfl; (with_reducible repeat (first | refine blk_drewN ?_ _ | refine blk_drew ?_ | refine blk_alloc ?_ _)); refine blk_put (cs := #[.string ((rd_T33 l0 x5_1).f0), .int .i64 0, .string (⟨#[]⟩ : ByteArray)]) ?_ 1 _ rfl; (with_reducible repeat (first | refine blk_drewN ?_ _ | refine blk_drew ?_ | refine blk_alloc ?_ _)); refine blk_put (cs := #[.string (⟨#[]⟩ : ByteArray), .int .i64 0, .string (⟨#[]⟩ : ByteArray)]) ?_ 0 _ rfl; (with_reducible repeat (first | refine blk_drewN ?_ _ | refine blk_drew ?_ | refine blk_alloc ?_ _)); exact BK102.out) k_ hk)); (case aO => exact (by (with_reducible repeat (first | apply Kd.R_alloc | apply Kd.R_drewN | apply Kd.R_drew)); exact Kd.R_mono (Kd.R_far (p := ⟨gb102, 2, none⟩) (Kd.R_far (p := ⟨gb102, 1, none⟩) (Kd.R_far (p := ⟨gb102, 0, none⟩) (Kd.R_mono HO_3.out (fun k_ hk => (⟨hk, hk.2⟩ : _ ∧ k_ ≠ gb102))) (fun _ hk => hk.2) (.string ((rd_T33 l0 x5_1).f0))) (fun _ hk => hk.2) (.int .i64 ((rd_T33 l0 x5_1).f1))) (fun _ hk => hk.2) (.string ((rd_T33 l0 x5_1).f2))) (fun _ hk => hk.1.2))); (case aS => exact (below_size (by repeat (first | (with_reducible first | exact HB.out | apply below_alloc | apply pw_below_drewN | apply below_drew1 | refine below_set ?_ GE102.out) | exact HB.out)))); (case aL => have := LMc12.out; omega); intro v107 w15 ho hb hg hat; rw [← Ny106.out] at ho; have n0_ := Aside0.mk (blk_grown (g := gb102) (o := .cells #[.string ((rd_T33 l0 x5_1).f0), .int .i64 ((rd_T33 l0 x5_1).f1), .string ((rd_T33 l0 x5_1).f2)] 33 (0, 0)) (by (with_reducible repeat (first | refine blk_drewN ?_ _ | refine blk_drew ?_ | refine blk_alloc ?_ _)); refine blk_put (cs := #[.string ((rd_T33 l0 x5_1).f0), .int .i64 ((rd_T33 l0 x5_1).f1), .string (⟨#[]⟩ : ByteArray)]) ?_ 2 _ rfl; (with_reducible repeat (first | refine blk_drewN ?_ _ | refine blk_drew ?_ | refine blk_alloc ?_ _)); refine blk_put (cs := #[.string ((rd_T33 l0 x5_1).f0), .int .i64 0, .string (⟨#[]⟩ : ByteArray)]) ?_ 1 _ rfl; (with_reducible repeat (first | refine blk_drewN ?_ _ | refine blk_drew ?_ | refine blk_alloc ?_ _)); refine blk_put (cs := #[.string (⟨#[]⟩ : ByteArray), .int .i64 0, .string (⟨#[]⟩ : ByteArray)]) ?_ 0 _ rfl; (with_reducible repeat (first | refine blk_drewN ?_ _ | refine blk_drew ?_ | refine blk_alloc ?_ _)); exact BK102.out) hg (Kd.R_away HO_3.out (fun _ hk => hk.2))); have n1_ := Aside0.mk (hb); have n2_ := Aside0.mk (ho); clear BK102; clear HB; clear HO_3; have BK102 := n0_; have HB := n1_; have HO108 := n2_; clear n0_ n1_ n2_; clear ho hb hg hat)); go_roundg kj1
          case measure => have := HK1.out; have := HJ1.out; omega
          case rel => exact ⟨(y106), (wrap64 (x4_1 + (((rd_T33 l0 x5_1).f2).size : Int))), (wrap64 (x5_1 + 1)), (by first | rfl | (simp; done) | (simp [*]; done)), (by first | rfl | (simp; done) | (simp [*]; done)), H', ⟨by have := HK1.out; have := HJ1.out; omega⟩, ⟨by (with_reducible repeat (first | apply Kd.R_alloc | apply Kd.R_drewN | apply Kd.R_drew)); exact Kd.R_mono HO108.out (fun _ hk => trivial)⟩, ⟨by repeat (first | (with_reducible first | exact HB.out | apply below_alloc | apply pw_below_drewN | apply below_drew1 | refine below_set ?_ GE102.out) | exact HB.out)⟩⟩
         ·rw [if_neg c12] at H; exact absurd H (by simp)
       ·rw [if_neg c6] at H; exact absurd H (by simp)
      ·rw [if_neg c5] at H; exact absurd H (by simp)
     ·replace c4 := Bool.eq_false_iff.mpr c4; subst c4; (have H1 : (some x3_1) = some r := by rw [if_neg (show ¬ (false = true) by decide)] at H; exact H); clear H; have H := H1; clear H1; obtain rfl := Option.some.inj H; go_wp2; go_ret; exact ⟨_, by first | rfl | (simp [errW_none, errW_some] <;> rfl) | (simp [*, errW_none, errW_some] <;> rfl), by (with_reducible repeat (first | apply Kd.R_alloc | apply Kd.R_drewN | apply Kd.R_drew)); exact HO_3.out, by repeat (first | (with_reducible first | exact HB.out | apply below_alloc | apply pw_below_drewN | apply below_drew1) | exact HB.out)⟩
end Go.Proofs.YtmeofdpmddjbgaaDoor.G
end
section
namespace Go.Proofs.YtmeofdpmddjbgaaDoor.G
open Go.RowKit Go.Proofs.YtmeofdpmddjbgaaDoorW.PrintWords Go.Proofs.YtmeofdpmddjbgaaDoorW.PrintLast Go.Proofs.YtmeofdpmddjbgaaDoorW.PrintMore
attribute [local go_sem] max2_int min2_int max_two min_two max_three min_three max_four min_four   -- for this text's walks alone
set_option linter.unusedVariables false
set_option linter.unusedSimpArgs false
def barquelaw10_awake.f (k : Nat)  : Option (Bool) := (image_Of.f k (([(⟨(⟨#[97]⟩ : ByteArray), 0, (⟨#[104, 105]⟩ : ByteArray)⟩ : S33)] : List (S33)))).bind fun bt195 => (if bt195.1.toList = ([1, 1, 97, 0, 2, 104, 105] : List UInt8) then (some (bt195.2 == 0)) else (some false))
theorem barquelaw10_awake.mono : ∀ k, LeO (barquelaw10_awake.f k ) (barquelaw10_awake.f (k + 1) ) := by
 intro  k
 unfold barquelaw10_awake.f
 repeat' first
   | (with_reducible exact image_Of.mono _ _)
   | (with_reducible exact LeO.refl _)
   | (with_reducible exact LeO.none _)
   | (with_reducible refine LeO.ite ?_ ?_)
   | (with_reducible refine LeO.bind ?_ (fun _ => ?_))
   | exact image_Of.mono _ _
   | exact LeO.none _
   | refine LeO.ite ?_ ?_
   | refine LeO.bind ?_ (fun _ => ?_)
set_option maxHeartbeats 8000000 in
set_option maxRecDepth 100000 in
theorem barquelaw10_awake.calls (k : Nat)  (r : Bool) (w : World) (h : barquelaw10_awake.f k  = some r) :
  Calls Tryd.prog 15 #[] w fun e w' => e = .returned (.bool r) ∧ Below w.heap.size w w' := by
 have hu33 := Tryd.underlying33; have HB := Aside0.mk (Below.refl w.heap.size w); have H : ((image_Of.f k (([(⟨(⟨#[97]⟩ : ByteArray), 0, (⟨#[104, 105]⟩ : ByteArray)⟩ : S33)] : List (S33)))).bind fun bt195 => (if bt195.1.toList = ([1, 1, 97, 0, 2, 104, 105] : List UInt8) then (some (bt195.2 == 0)) else (some false))) = some r := h; clear h; obtain ⟨y192, hy192⟩ : ∃ y_ : List (S33), y_ = (([(⟨(⟨#[97]⟩ : ByteArray), 0, (⟨#[104, 105]⟩ : ByteArray)⟩ : S33)] : List (S33))) := ⟨_, rfl⟩; (replace H : ((image_Of.f k y192).bind fun bt195 => (if bt195.1.toList = ([1, 1, 97, 0, 2, 104, 105] : List UInt8) then (some (bt195.2 == 0)) else (some false))) = some r := by first | (rw [hy192]; with_reducible exact H) | (have H2_ := (Option.bind_some _ _).symm.trans H; rw [hy192]; with_reducible exact H2_) | (have H2_ := (Option.bind_some _ _).symm.trans H; with_reducible exact H2_) | with_reducible exact H | (rw [hy192]; exact H) | exact H); have Ny192 := Aside0.mk hy192; clear hy192; replace H := Option.bind_eq_some_iff.mp H; obtain ⟨⟨t195, t196⟩, A10, H⟩ := H; replace H : (if t195.toList = ([1, 1, 97, 0, 2, 104, 105] : List UInt8) then (some (t196 == 0)) else (some false)) = some r := H; have A1 := Aside0.mk A10; clear A10; by_cases c2 : t195.toList = ([1, 1, 97, 0, 2, 104, 105] : List UInt8)
 ·rw [if_pos c2] at H; have c2b0 : (t195.toList == ([1, 1, 97, 0, 2, 104, 105] : List UInt8)) = true := beq_iff_eq.mpr c2; have c2b1 : (t195.toList != ([1, 1, 97, 0, 2, 104, 105] : List UInt8)) = false := bne_eq_false_iff_eq.mpr c2; clear c2; obtain rfl := Option.some.inj H; go_enter Tryd.func15, Tryd.ntmps15; go_wp2_with (first | ((with_reducible refine gate_dst (N := 5) rfl ?_); refine Kd.R_lit k33 _ 33 ?hg (N := 5) ?hd (xs := ([(⟨(⟨#[97]⟩ : ByteArray), 0, (⟨#[104, 105]⟩ : ByteArray)⟩ : S33)] : List (S33))) (inner := [.string (⟨#[97]⟩ : ByteArray), .int .i64 0, .string (⟨#[104, 105]⟩ : ByteArray)]) (ok := fun _ => True) (okp := fun _ => True) ?hr ?hp (fun _ hk => hk) trivial (Below.refl _ _) (Nat.le_refl _) (by simp) ?_; (case hd => rfl); (case hg => rfl); (case hr => first | (go_simp; done) | (go_simp; rfl)); (case hp => exact (Reps.c3 (show Kd.M k33 _ _ _ (⟨(⟨#[97]⟩ : ByteArray), 0, (⟨#[104, 105]⟩ : ByteArray)⟩ : S33) [.string (⟨#[97]⟩ : ByteArray), .int .i64 0, .string (⟨#[104, 105]⟩ : ByteArray)] from (k33_mkM _ _ _ (⟨(⟨#[97]⟩ : ByteArray), 0, (⟨#[104, 105]⟩ : ByteArray)⟩ : S33) )) (Reps.none _ _))); intro v193 w3 ho4 hb hg_ hnew_; clear hg_ hnew_; (first | rw [← Ny192.out] at ho4 | (simp only [Int.reduceToNat] at ho4; rw [← Ny192.out] at ho4)); have n0_ := Aside0.mk (Kd.R_lower ho4 (below_size (by repeat (first | (with_reducible first | exact HB.out | apply below_alloc | apply pw_below_drewN | apply below_drew1) | exact HB.out)))); have n1_ := Aside0.mk (below_step (by repeat (first | (with_reducible first | exact HB.out | apply below_alloc | apply pw_below_drewN | apply below_drew1) | exact HB.out)) hb); clear HB; have HO194 := n0_; have HB := n1_; clear n0_ n1_; clear hb ho4; obtain ⟨Ao5, co5, eo5⟩ := Kd.R_slice HO194.out; subst eo5) | ((with_reducible refine gate_callee (f := 12) rfl ?_); refine goesL_ (some 6) rfl rfl Tryd.func12 (by kernel_rfl) rfl #[.slice Ao5 y192.length co5] rfl (by (try simp only [List.map_toArray, List.map_cons, List.map_nil]); first | done | rfl | (simp only [List.length_drop, List.length_take]; rfl)) ?_; (with_reducible refine (image_Of.calls k _ _ y192 t195 t196 _ ?side1 ?side2 A1.out).mono ?_); (case side1 => repeat (first | exact (Kd.R_reads' HO194.out).2.2 | (with_reducible refine Kd.C_alloc ?_ _) | (with_reducible refine Kd.C_drewN ?_ _) | (with_reducible refine Kd.C_drew ?_))); (case side2 => exact (Kd.R_reads' HO194.out).2.1); rintro e w6 ⟨rfl, hb⟩; refine ⟨_, rfl, ?_⟩; have n0_ := Aside0.mk (Kd.R_below (by (with_reducible repeat (first | apply Kd.R_alloc | apply Kd.R_drewN | apply Kd.R_drew)); exact HO194.out) hb); have n1_ := Aside0.mk (below_step (by repeat (first | (with_reducible first | exact HB.out | apply below_alloc | apply pw_below_drewN | apply below_drew1) | exact HB.out)) hb); clear HO194; clear HB; have HO194 := n0_; have HB := n1_; clear n0_ n1_; (try clear hb); (try clear hb2); (try clear hk); (try clear hi))); go_ret; exact ⟨by first | rfl | (simp [errW_none, errW_some] <;> rfl) | (simp [*, errW_none, errW_some] <;> rfl), by repeat (first | (with_reducible first | exact HB.out | apply below_alloc | apply pw_below_drewN | apply below_drew1) | exact HB.out)⟩
 ·rw [if_neg c2] at H; have c2b0 : (t195.toList == ([1, 1, 97, 0, 2, 104, 105] : List UInt8)) = false := beq_eq_false_iff_ne.mpr c2; have c2b1 : (t195.toList != ([1, 1, 97, 0, 2, 104, 105] : List UInt8)) = true := bne_iff_ne.mpr c2; obtain rfl := Option.some.inj H; go_enter Tryd.func15, Tryd.ntmps15; go_wp2_with (first | ((with_reducible refine gate_dst (N := 5) rfl ?_); refine Kd.R_lit k33 _ 33 ?hg (N := 5) ?hd (xs := ([(⟨(⟨#[97]⟩ : ByteArray), 0, (⟨#[104, 105]⟩ : ByteArray)⟩ : S33)] : List (S33))) (inner := [.string (⟨#[97]⟩ : ByteArray), .int .i64 0, .string (⟨#[104, 105]⟩ : ByteArray)]) (ok := fun _ => True) (okp := fun _ => True) ?hr ?hp (fun _ hk => hk) trivial (Below.refl _ _) (Nat.le_refl _) (by simp) ?_; (case hd => rfl); (case hg => rfl); (case hr => first | (go_simp; done) | (go_simp; rfl)); (case hp => exact (Reps.c3 (show Kd.M k33 _ _ _ (⟨(⟨#[97]⟩ : ByteArray), 0, (⟨#[104, 105]⟩ : ByteArray)⟩ : S33) [.string (⟨#[97]⟩ : ByteArray), .int .i64 0, .string (⟨#[104, 105]⟩ : ByteArray)] from (k33_mkM _ _ _ (⟨(⟨#[97]⟩ : ByteArray), 0, (⟨#[104, 105]⟩ : ByteArray)⟩ : S33) )) (Reps.none _ _))); intro v193 w7 ho8 hb hg_ hnew_; clear hg_ hnew_; (first | rw [← Ny192.out] at ho8 | (simp only [Int.reduceToNat] at ho8; rw [← Ny192.out] at ho8)); have n0_ := Aside0.mk (Kd.R_lower ho8 (below_size (by repeat (first | (with_reducible first | exact HB.out | apply below_alloc | apply pw_below_drewN | apply below_drew1) | exact HB.out)))); have n1_ := Aside0.mk (below_step (by repeat (first | (with_reducible first | exact HB.out | apply below_alloc | apply pw_below_drewN | apply below_drew1) | exact HB.out)) hb); clear HB; have HO194 := n0_; have HB := n1_; clear n0_ n1_; clear hb ho8; obtain ⟨Ao9, co9, eo9⟩ := Kd.R_slice HO194.out; subst eo9) | ((with_reducible refine gate_callee (f := 12) rfl ?_); refine goesL_ (some 6) rfl rfl Tryd.func12 (by kernel_rfl) rfl #[.slice Ao9 y192.length co9] rfl (by (try simp only [List.map_toArray, List.map_cons, List.map_nil]); first | done | rfl | (simp only [List.length_drop, List.length_take]; rfl)) ?_; (with_reducible refine (image_Of.calls k _ _ y192 t195 t196 _ ?side1 ?side2 A1.out).mono ?_); (case side1 => repeat (first | exact (Kd.R_reads' HO194.out).2.2 | (with_reducible refine Kd.C_alloc ?_ _) | (with_reducible refine Kd.C_drewN ?_ _) | (with_reducible refine Kd.C_drew ?_))); (case side2 => exact (Kd.R_reads' HO194.out).2.1); rintro e w10 ⟨rfl, hb⟩; refine ⟨_, rfl, ?_⟩; have n0_ := Aside0.mk (Kd.R_below (by (with_reducible repeat (first | apply Kd.R_alloc | apply Kd.R_drewN | apply Kd.R_drew)); exact HO194.out) hb); have n1_ := Aside0.mk (below_step (by repeat (first | (with_reducible first | exact HB.out | apply below_alloc | apply pw_below_drewN | apply below_drew1) | exact HB.out)) hb); clear HO194; clear HB; have HO194 := n0_; have HB := n1_; clear n0_ n1_; (try clear hb); (try clear hb2); (try clear hk); (try clear hi))); go_ret; exact ⟨by first | rfl | (simp [errW_none, errW_some] <;> rfl) | (simp [*, errW_none, errW_some] <;> rfl), by repeat (first | (with_reducible first | exact HB.out | apply below_alloc | apply pw_below_drewN | apply below_drew1) | exact HB.out)⟩
end Go.Proofs.YtmeofdpmddjbgaaDoor.G
end
section
namespace Go.Proofs.YtmeofdpmddjbgaaDoor.G
open Go.RowKit Go.Proofs.YtmeofdpmddjbgaaDoorW.PrintWords Go.Proofs.YtmeofdpmddjbgaaDoorW.PrintLast Go.Proofs.YtmeofdpmddjbgaaDoorW.PrintMore
set_option linter.unusedVariables false
set_option linter.unusedSimpArgs false
theorem awakeI_ev : Ev (fun k => barquelaw10_awake.f k) true := Ev.of (fun k => barquelaw10_awake.mono k) (k := 60) (by kernel_rfl)
theorem few_l0 (l : List S33) (hl : l.length ≤ 9223372036854775807) : ∀ (d i : Nat) (acc : List S33) (n : Int), 60 - i = d → i ≤ 60 → acc.length = i → ∃ m : List S33, m.length ≤ 60 ∧ Ev (fun k => barquelaw10_few.l0 k l acc n i) m := by
 intro d
 induction d with
 | zero =>
  intro i acc n hd hi ha
  refine ⟨acc, by omega, ?_⟩
  apply Ev.step
  ·intro k; rw [barquelaw10_few.l0]
  have hj : Ev (fun k => barquelaw10_few.j1 k l acc n (i : Int) false) acc := by
   apply Ev.step
   ·intro k; rw [barquelaw10_few.j1]
   simp only [Bool.false_eq_true, ↓reduceIte]
   exact Ev.now _
  have c2 : decide ((i : Int) < 60) = false := by simp; omega
  by_cases c : (i : Int) < (l.length : Int)
  ·simp only [c, c2, ↓reduceIte]
   exact hj
  ·simp only [c, ↓reduceIte]
   exact hj
 | succ d ih =>
  intro i acc n hd hi ha
  have c2 : decide ((i : Int) < 60) = true := by simp; omega
  by_cases c : (i : Int) < (l.length : Int)
  ·have hlt : i < l.length := by omega
   have c3 : (0 : Int) ≤ (i : Int) := by omega
   have c4 : acc.length < 3518437208883 := by omega
   have hw : wrap64 ((i : Int) + 1) = ((i + 1 : Nat) : Int) := by rw [w64_ (by omega) (by omega)]; omega
   by_cases g : (((l[i]'hlt).f2).size : Int) > wrap64 (20000 - n)
   ·obtain ⟨m, m1, m2⟩ := ih (i + 1) (acc ++ [⟨(l[i]'hlt).f0, (l[i]'hlt).f1, (⟨#[]⟩ : ByteArray)⟩]) (wrap64 (n + 0)) (by omega) (by omega) (by rw [List.length_append, List.length_singleton]; omega)
    refine ⟨m, m1, ?_⟩
    apply Ev.step
    ·intro k; rw [barquelaw10_few.l0]
    simp only [c, c2, ↓reduceIte]
    apply Ev.step
    ·intro k; rw [barquelaw10_few.j1]
    simp only [c, c3, c4, hw, g, ↓reduceIte, rdF_nat l i hlt]
    exact m2
   ·obtain ⟨m, m1, m2⟩ := ih (i + 1) (acc ++ [⟨(l[i]'hlt).f0, (l[i]'hlt).f1, (l[i]'hlt).f2⟩]) (wrap64 (n + (((l[i]'hlt).f2).size : Int))) (by omega) (by omega) (by rw [List.length_append, List.length_singleton]; omega)
    refine ⟨m, m1, ?_⟩
    apply Ev.step
    ·intro k; rw [barquelaw10_few.l0]
    simp only [c, c2, ↓reduceIte]
    apply Ev.step
    ·intro k; rw [barquelaw10_few.j1]
    simp only [c, c3, c4, hw, g, ↓reduceIte, rdF_nat l i hlt]
    exact m2
  ·refine ⟨acc, by omega, ?_⟩
   apply Ev.step
   ·intro k; rw [barquelaw10_few.l0]
   simp only [c, ↓reduceIte]
   apply Ev.step
   ·intro k; rw [barquelaw10_few.j1]
   simp only [Bool.false_eq_true, ↓reduceIte]
   exact Ev.now _
theorem few_ev (l : List S33) (hl : l.length ≤ 9223372036854775807) : ∃ m : List S33, m.length ≤ 60 ∧ Ev (fun k => barquelaw10_few.f k l) m := by
 obtain ⟨m, h1, h2⟩ := few_l0 l hl 60 0 [] 0 (by omega) (by omega) rfl
 refine ⟨m, h1, ?_⟩
 unfold barquelaw10_few.f
 simpa using h2
end Go.Proofs.YtmeofdpmddjbgaaDoor.G
end
section
namespace Go.Proofs.YtmeofdpmddjbgaaDoor.G
open Go.RowKit Go.Proofs.YtmeofdpmddjbgaaDoorW.PrintWords Go.Proofs.YtmeofdpmddjbgaaDoorW.PrintLast Go.Proofs.YtmeofdpmddjbgaaDoorW.PrintMore
attribute [local go_sem] max2_int min2_int max_two min_two max_three min_three max_four min_four   -- for this text's walks alone
set_option linter.unusedVariables false
set_option linter.unusedSimpArgs false
def image_Tree.l0 : Nat → ByteArray → List (S33) → Int → List Int → Int → Int → Option ((List (S33)) × Int)
 | 0, _, _, _, _, _, _ => none
 | k + 1, x0, x4, x6, x23, x24, x25 => if x25 < x24 then (if 0 ≤ x25 then (if x25 < (x23.length : Int) then (if (rd x23 x25) > (wrap64 ((x0.size : Int) - x6)) then (some (([] : List (S33)), 3)) else (if 0 ≤ x6 then (if x6 ≤ (wrap64 (x6 + (rd x23 x25))) then (if (wrap64 (x6 + (rd x23 x25))) ≤ (x0.size : Int) then (if x25 < (x4.length : Int) then (image_Tree.l0 k x0 (x4.set (x25 : Int).toNat (⟨(rd_T33 x4 x25).f0, (rd_T33 x4 x25).f1, x0.extract (x6 : Int).toNat ((wrap64 (x6 + (rd x23 x25))) : Int).toNat⟩ : S33)) (wrap64 (x6 + (rd x23 x25))) x23 x24 (wrap64 (x25 + 1))) else (none)) else (none)) else (none)) else (none))) else (none)) else (none)) else (if x6 < (x0.size : Int) then (some (([] : List (S33)), 4)) else (some (x4, 0)))
def image_Tree.f (k : Nat) (a0 : ByteArray) : Option ((List (S33)) × Int) := if (a0.size : Int) > 524288 then (some (([] : List (S33)), 4)) else ((image_head.f k a0).bind fun bt325 => (if bt325.2.2.2 = 0 then (image_Tree.l0 k a0 bt325.1 bt325.2.2.1 bt325.2.1 (bt325.2.1.length : Int) 0) else (some (([] : List (S33)), bt325.2.2.2))))
set_option maxHeartbeats 8000000 in
set_option maxRecDepth 100000 in
theorem image_Tree.calls (k : Nat) (a0 : ByteArray) (r1 : List (S33)) (r2 : Int) (w : World) (h : image_Tree.f k a0 = some (r1, r2)) :
  Calls Tryd.prog 17 #[.string a0] w fun e w' => ∃ v0_ : Value, e = .returned (.tuple #[v0_, .int .i64 r2]) ∧ Kd.R k33 33 w' w.heap.size (fun _ => True) v0_ r1 ∧ Below w.heap.size w w' := by
 have HB := Aside0.mk (Below.refl w.heap.size w); have H : (if (a0.size : Int) > 524288 then (some (([] : List (S33)), 4)) else ((image_head.f k a0).bind fun bt325 => (if bt325.2.2.2 = 0 then (image_Tree.l0 k a0 bt325.1 bt325.2.2.1 bt325.2.1 (bt325.2.1.length : Int) 0) else (some (([] : List (S33)), bt325.2.2.2))))) = some (r1, r2) := h; clear h; by_cases c2 : (a0.size : Int) > 524288
 ·rw [if_pos c2] at H; have c2b0 : decide (524288 < (a0.size : Int)) = true := decide_eq_true c2; have c2b1 : decide (524288 < a0.size) = true := decide_eq_true (by omega); clear c2; simp only [Option.some.injEq, Prod.mk.injEq] at H; obtain ⟨rfl, rfl⟩ := H; go_enter Tryd.func17, Tryd.ntmps17; go_wp2; go_ret2; exact ⟨_, by first | rfl | (simp [errW_none, errW_some] <;> rfl) | (simp [*, errW_none, errW_some] <;> rfl), by first | exact Kd.R_nil _ _ _ _ _ | exact Kd.N_nil _ _ _ _ _ | exact Kd.V_nil _ _ _ _ _ | exact Kd.Q_nil _ _ _ _ _ | exact Kd.S_nil _ _ _ _ _, by repeat (first | (with_reducible first | exact HB.out | apply below_alloc | apply pw_below_drewN | apply below_drew1) | exact HB.out)⟩
 ·rw [if_neg c2] at H; have c2b0 : decide (524288 < (a0.size : Int)) = false := decide_eq_false c2; have c2b1 : decide (524288 < a0.size) = false := decide_eq_false (by omega); clear c2; replace H := Option.bind_eq_some_iff.mp H; obtain ⟨⟨t325, t326, t327, t328⟩, A30, H⟩ := H; replace H : (if t328 = 0 then (image_Tree.l0 k a0 t325 t327 t326 (t326.length : Int) 0) else (some (([] : List (S33)), t328))) = some (r1, r2) := H; have A3 := Aside0.mk A30; clear A30; by_cases c4 : t328 = 0
  ·rw [if_pos c4] at H; have c4b0 : (t328 == 0) = true := beq_iff_eq.mpr c4; have c4b1 : (t328 != 0) = false := bne_eq_false_iff_eq.mpr c4; clear c4; have H' := Aside0.mk H; clear H; go_enter Tryd.func17, Tryd.ntmps17; go_wp2_with (first | ((with_reducible refine gate_callee (f := 37) rfl ?_); refine goesL_ (some 15) rfl rfl Tryd.func37 (by kernel_rfl) rfl #[.string a0] rfl (by (try simp only [List.map_toArray, List.map_cons, List.map_nil]); first | done | rfl | (simp only [List.length_drop, List.length_take]; rfl)) ?_; (with_reducible refine (image_head.calls k a0 t325 t326 t327 t328 _ A3.out).mono ?_); rintro e w5 ⟨v329, v331, rfl, ho0, ho1, hb⟩; refine ⟨_, rfl, ?_⟩; have n0_ := Aside0.mk (Kd.R_lower ho0 (below_size (by repeat (first | (with_reducible first | exact HB.out | apply below_alloc | apply pw_below_drewN | apply below_drew1) | exact HB.out)))); have n1_ := Aside0.mk (Kd.R_lower ho1 (below_size (by repeat (first | (with_reducible first | exact HB.out | apply below_alloc | apply pw_below_drewN | apply below_drew1) | exact HB.out)))); have n2_ := Aside0.mk (below_step (by repeat (first | (with_reducible first | exact HB.out | apply below_alloc | apply pw_below_drewN | apply below_drew1) | exact HB.out)) hb); clear HB; have HO330 := n0_; have HO332 := n1_; have HB := n2_; clear n0_ n1_ n2_; (try clear hb); (try clear hb2); (try clear hk); (try clear hi); (try clear ho0); (try clear ho1); obtain ⟨Ao6, co6, eo6⟩ := Kd.R_slice HO332.out; subst eo6)); go_loopg [6, 25] k (fun kq v6 v25 w' => ∃ (x4_1 : List (S33)) (x6_1 : Int) (x25_1 : Int), v6 = .int .i64 x6_1 ∧ v25 = .int .i64 x25_1 ∧ Aside0 (image_Tree.l0 kq a0 x4_1 x6_1 t326 (t326.length : Int) x25_1 = some (r1, r2)) ∧ Aside0 (kq ≤ k) ∧ Aside0 (Kd.R k33 33 w' w.heap.size (fun _ => True) v329 x4_1) ∧ Aside0 (Kd.R (Kd.int .i64) 3 w' w.heap.size (fun _ => True) (.slice Ao6 t326.length co6) t326) ∧ Aside0 (Below w.heap.size w w'))
   case atStart => exact ⟨(t325), (t327), (0), (by first | rfl | (simp; done) | (simp [*]; done)), (by first | rfl | (simp; done) | (simp [*]; done)), H', ⟨Nat.le_refl _⟩, ⟨by (with_reducible repeat (first | apply Kd.R_alloc | apply Kd.R_drewN | apply Kd.R_drew)); exact HO330.out⟩, ⟨by (with_reducible repeat (first | apply Kd.R_alloc | apply Kd.R_drewN | apply Kd.R_drew)); exact HO332.out⟩, ⟨by repeat (first | (with_reducible first | exact HB.out | apply below_alloc | apply pw_below_drewN | apply below_drew1) | exact HB.out)⟩⟩
   case round =>
    clear H'; (try clear c1); (try clear c2); (try clear c2b0); (try clear c2b1); (try clear p2); (try clear c3); (try clear c4); (try clear c4b0); (try clear c4b1); obtain ⟨x4_1, x6_1, x25_1, rfl, rfl, HA, HK1, HO_4, HO_23, HB⟩ := hrel
    cases gk with
    | zero => exact absurd HA.out (by simp [image_Tree.l0])
    | succ k1 =>
     have H := HA.out; clear HA; simp only [image_Tree.l0] at H; by_cases c7 : x25_1 < (t326.length : Int)
     ·rw [if_pos c7] at H; have c7b0 : decide (x25_1 < (t326.length : Int)) = true := decide_eq_true c7; clear c7; by_cases c8 : 0 ≤ x25_1
      ·rw [if_pos c8] at H; have c8b0 : decide (0 ≤ x25_1) = true := decide_eq_true c8; clear c8; by_cases c9 : x25_1 < (t326.length : Int)
       ·rw [if_pos c9] at H; have c9b0 : decide (x25_1 < (t326.length : Int)) = true := decide_eq_true c9; clear c9; by_cases c10 : (rd t326 x25_1) > (wrap64 ((a0.size : Int) - x6_1))
        ·rw [if_pos c10] at H; have c10b0 : decide ((wrap64 ((a0.size : Int) - x6_1)) < (rd t326 x25_1)) = true := decide_eq_true c10; clear c10; simp only [Option.some.injEq, Prod.mk.injEq] at H; obtain ⟨rfl, rfl⟩ := H; have p333 : 0 ≤ (x25_1 : Int) := of_decide_eq_true (by first | (with_reducible assumption) | assumption); have q333 : x25_1 < (t326.length : Int) := of_decide_eq_true (by first | (with_reducible assumption) | assumption); obtain ⟨ad333, e333, hx333_0⟩ := Kd.at_int (Kd.R_reads' HO_23.out).2.2 x25_1 p333 q333; cases e333; replace p333 := eq_true p333; replace q333 := eq_true q333; go_wp2; go_ret2; exact ⟨_, by first | rfl | (simp [errW_none, errW_some] <;> rfl) | (simp [*, errW_none, errW_some] <;> rfl), by first | exact Kd.R_nil _ _ _ _ _ | exact Kd.N_nil _ _ _ _ _ | exact Kd.V_nil _ _ _ _ _ | exact Kd.Q_nil _ _ _ _ _ | exact Kd.S_nil _ _ _ _ _, by repeat (first | (with_reducible first | exact HB.out | apply below_alloc | apply pw_below_drewN | apply below_drew1) | exact HB.out)⟩
        ·rw [if_neg c10] at H; have c10b0 : decide ((wrap64 ((a0.size : Int) - x6_1)) < (rd t326 x25_1)) = false := decide_eq_false c10; clear c10; by_cases c11 : 0 ≤ x6_1
         ·rw [if_pos c11] at H; have c11b0 := eq_true c11; have c11b1 : decide (0 ≤ x6_1) = true := decide_eq_true c11; clear c11; by_cases c12 : x6_1 ≤ (wrap64 (x6_1 + (rd t326 x25_1)))
          ·rw [if_pos c12] at H; have c12b0 := eq_true c12; have c12b1 : decide (x6_1 ≤ (wrap64 (x6_1 + (rd t326 x25_1)))) = true := decide_eq_true c12; by_cases c13 : (wrap64 (x6_1 + (rd t326 x25_1))) ≤ (a0.size : Int)
           ·rw [if_pos c13] at H; have c13b0 := eq_true c13; have c13b1 : decide ((wrap64 (x6_1 + (rd t326 x25_1))) ≤ (a0.size : Int)) = true := decide_eq_true c13; by_cases c14 : x25_1 < (x4_1.length : Int)
            ·rw [if_pos c14] at H; have c14b0 : decide (x25_1 < (x4_1.length : Int)) = true := decide_eq_true c14; clear c14; obtain ⟨y334, hy334⟩ : ∃ y_ : List (S33), y_ = (x4_1.set (x25_1 : Int).toNat (⟨(rd_T33 x4_1 x25_1).f0, (rd_T33 x4_1 x25_1).f1, a0.extract (x6_1 : Int).toNat ((wrap64 (x6_1 + (rd t326 x25_1))) : Int).toNat⟩ : S33)) := ⟨_, rfl⟩; (replace H : (image_Tree.l0 k1 a0 y334 (wrap64 (x6_1 + (rd t326 x25_1))) t326 (t326.length : Int) (wrap64 (x25_1 + 1))) = some (r1, r2) := by first | (rw [hy334]; with_reducible exact H) | (have H2_ := (Option.bind_some _ _).symm.trans H; rw [hy334]; with_reducible exact H2_) | (have H2_ := (Option.bind_some _ _).symm.trans H; with_reducible exact H2_) | with_reducible exact H | (rw [hy334]; exact H) | exact H); have Ny334 := Aside0.mk hy334; clear hy334; have H' := Aside0.mk H; clear H; have p333 : 0 ≤ (x25_1 : Int) := of_decide_eq_true (by first | (with_reducible assumption) | assumption); have q333 : x25_1 < (t326.length : Int) := of_decide_eq_true (by first | (with_reducible assumption) | assumption); obtain ⟨ad333, e333, hx333_0⟩ := Kd.at_int (Kd.R_reads' HO_23.out).2.2 x25_1 p333 q333; cases e333; replace p333 := eq_true p333; replace q333 := eq_true q333; have p15 : 0 ≤ (x25_1 : Int) := of_decide_eq_true (by first | (with_reducible assumption) | assumption); have q15 : (x25_1 : Int) < ((x4_1.length : Int) : Int) := of_decide_eq_true (by first | (with_reducible assumption) | assumption); obtain ⟨go15, co15, eo15, gb15, gl15, cl15, HG15⟩ := Kd.R_form HO_4.out (by omega); (first | cases eo15 | (injection eo15 with ea_ en_ ec_; (first | subst ea_ | (injection ea_ with ea_; subst ea_)); subst ec_; clear en_)); have GB15 := Aside0.mk gb15; have GG15 := Aside0.mk HG15; clear gb15 gl15 HG15; obtain ⟨ce15, hcl15, hM15, hcc15, hfr15⟩ := Kd.R_elem HO_4.out z33 (x25_1 : Int) p15 q15; obtain rfl := k33_openM hM15; have hx15_0 : wr.cell? ⟨go15, (x25_1 : Int).toNat * 3, none⟩ = some (.string ((rd_T33 x4_1 x25_1).f0)) := hcc15 0 _ rfl; have hx15_1 : wr.cell? ⟨go15, (x25_1 : Int).toNat * 3 + 1, none⟩ = some (.int .i64 ((rd_T33 x4_1 x25_1).f1)) := hcc15 1 _ rfl; have hx15_2 : wr.cell? ⟨go15, (x25_1 : Int).toNat * 3 + 2, none⟩ = some (.string ((rd_T33 x4_1 x25_1).f2)) := hcc15 2 _ rfl; have hf15_0 : wr.frozen? ⟨go15, (x25_1 : Int).toNat * 3, none⟩ = false := hfr15 0; have hf15_1 : wr.frozen? ⟨go15, (x25_1 : Int).toNat * 3 + 1, none⟩ = false := hfr15 1; have hf15_2 : wr.frozen? ⟨go15, (x25_1 : Int).toNat * 3 + 2, none⟩ = false := hfr15 2; clear hcl15 hcc15 hfr15 hM15; replace p15 := eq_true p15; replace q15 := eq_true q15; have HX16 := Aside0.mk (show Kd.R k33 33 wr w.heap.size (fun _ => True) (.slice (some ⟨go15, 0, none⟩) x4_1.length co15) x4_1 from (by (with_reducible repeat (first | apply Kd.R_alloc | apply Kd.R_drewN | apply Kd.R_drew)); exact HO_4.out)); obtain ⟨ce16, hcl16, hM16, hcc16, hfr16⟩ := Kd.R_elem HX16.out z33 (x25_1 : Int) (of_decide_eq_true (by first | (with_reducible assumption) | assumption)) (by have h_ : (x25_1 : Int) < ((x4_1.length : Int) : Int) := of_decide_eq_true (by first | (with_reducible assumption) | assumption); first | exact h_ | (have e_ := (Kd.R_reads' HO_4.out).1; omega) | simpa using h_); obtain rfl := k33_openM hM16; have HP16 := Kd.R_seg HX16.out (x25_1 : Int) (of_decide_eq_true (by first | (with_reducible assumption) | assumption)) (by have h_ : (x25_1 : Int) < ((x4_1.length : Int) : Int) := of_decide_eq_true (by first | (with_reducible assumption) | assumption); first | exact h_ | (have e_ := (Kd.R_reads' HO_4.out).1; omega) | simpa using h_) (seg := [.string (a0.extract (x6_1 : Int).toNat ((wrap64 (x6_1 + (rd t326 x25_1))) : Int).toNat)]) (j := 2) hcl16 hcc16 (show 3 ≤ 3 from by decide) (x' := (⟨(rd_T33 x4_1 x25_1).f0, (rd_T33 x4_1 x25_1).f1, a0.extract (x6_1 : Int).toNat ((wrap64 (x6_1 + (rd t326 x25_1))) : Int).toNat⟩ : S33)) (k33_mkM _ _ _ (⟨(rd_T33 x4_1 x25_1).f0, (rd_T33 x4_1 x25_1).f1, a0.extract (x6_1 : Int).toNat ((wrap64 (x6_1 + (rd t326 x25_1))) : Int).toNat⟩ : S33) ) (fun _ hk => hk); have hx16_2 := hcc16 2 _ rfl; (try simp only [show (k33).sz = 3 from rfl, Nat.mul_one, Nat.add_zero] at hx16_2); have hf16_2 := hfr16 2; (try simp only [show (k33).sz = 3 from rfl, Nat.mul_one, Nat.add_zero] at hf16_2); clear hcl16 hcc16 hfr16 hM16; go_wp2_with (first | ((with_reducible refine gate_store (t := 9) (p := 45) rfl ?_); refine store_event (t := 9) (p := 45) (v := ?vo_w17) (w1 := (wr.setCell ⟨go15, (x25_1 : Int).toNat * 3 + 2, none⟩ (.string (a0.extract (x6_1 : Int).toNat ((wrap64 (x6_1 + (rd t326 x25_1))) : Int).toNat)))) ?hg ?ho ?hn ?hr ?_; (case ho => rfl); (case hg => rfl); (case hn => rfl); (case hr => first | (go_simp; done) | (go_simp; rfl)); intro w17 hw; have hg : wr.grownBy w17 (some go15) := (by rw [hw]; exact HP16.2); have hp_ : Kd.R k33 33 w17 w.heap.size (fun _ => True) (.slice (some ⟨go15, 0, none⟩) x4_1.length co15) y334 := (by rw [hw, Ny334.out]; exact HP16.1); clear HP16; have n0_ := Aside0.mk (hp_); have n1_ := Aside0.mk (Kd.R_over' (v := (.slice (some ⟨go15, 0, none⟩) x4_1.length co15)) (by (with_reducible repeat (first | apply Kd.R_alloc | apply Kd.R_drewN | apply Kd.R_drew)); exact HO_23.out) (Kd.R_typed HO_4.out) (by decide) hg); have n2_ := Aside0.mk ((by rw [hw]; exact below_set (HB.out) GB15.out : Below w.heap.size w w17)); clear HO_4; clear HO_23; clear HB; have HO_4 := n0_; have HO_23 := n1_; have HB := n2_; clear n0_ n1_ n2_; clear hg hw hp_)); go_roundg k1
             case measure => have := HK1.out; omega
             case rel => exact ⟨(y334), (wrap64 (x6_1 + (rd t326 x25_1))), (wrap64 (x25_1 + 1)), (by first | rfl | (simp; done) | (simp [*]; done)), (by first | rfl | (simp; done) | (simp [*]; done)), H', ⟨by have := HK1.out; omega⟩, ⟨by (with_reducible repeat (first | apply Kd.R_alloc | apply Kd.R_drewN | apply Kd.R_drew)); exact HO_4.out⟩, ⟨by (with_reducible repeat (first | apply Kd.R_alloc | apply Kd.R_drewN | apply Kd.R_drew)); exact HO_23.out⟩, ⟨by repeat (first | (with_reducible first | exact HB.out | apply below_alloc | apply pw_below_drewN | apply below_drew1) | exact HB.out)⟩⟩
            ·rw [if_neg c14] at H; exact absurd H (by simp)
           ·rw [if_neg c13] at H; exact absurd H (by simp)
          ·rw [if_neg c12] at H; exact absurd H (by simp)
         ·rw [if_neg c11] at H; exact absurd H (by simp)
       ·rw [if_neg c9] at H; exact absurd H (by simp)
      ·rw [if_neg c8] at H; exact absurd H (by simp)
     ·rw [if_neg c7] at H; have c7b0 : decide (x25_1 < (t326.length : Int)) = false := decide_eq_false c7; clear c7; by_cases c18 : x6_1 < (a0.size : Int)
      ·rw [if_pos c18] at H; have c18b0 : decide (x6_1 < (a0.size : Int)) = true := decide_eq_true c18; clear c18; simp only [Option.some.injEq, Prod.mk.injEq] at H; obtain ⟨rfl, rfl⟩ := H; go_wp2; go_ret2; exact ⟨_, by first | rfl | (simp [errW_none, errW_some] <;> rfl) | (simp [*, errW_none, errW_some] <;> rfl), by first | exact Kd.R_nil _ _ _ _ _ | exact Kd.N_nil _ _ _ _ _ | exact Kd.V_nil _ _ _ _ _ | exact Kd.Q_nil _ _ _ _ _ | exact Kd.S_nil _ _ _ _ _, by repeat (first | (with_reducible first | exact HB.out | apply below_alloc | apply pw_below_drewN | apply below_drew1) | exact HB.out)⟩
      ·rw [if_neg c18] at H; have c18b0 : decide (x6_1 < (a0.size : Int)) = false := decide_eq_false c18; clear c18; simp only [Option.some.injEq, Prod.mk.injEq] at H; obtain ⟨rfl, rfl⟩ := H; go_wp2; go_ret2; exact ⟨_, by first | rfl | (simp [errW_none, errW_some] <;> rfl) | (simp [*, errW_none, errW_some] <;> rfl), by (with_reducible repeat (first | apply Kd.R_alloc | apply Kd.R_drewN | apply Kd.R_drew)); exact HO_4.out, by repeat (first | (with_reducible first | exact HB.out | apply below_alloc | apply pw_below_drewN | apply below_drew1) | exact HB.out)⟩
  ·rw [if_neg c4] at H; have c4b0 : (t328 == 0) = false := beq_eq_false_iff_ne.mpr c4; have c4b1 : (t328 != 0) = true := bne_iff_ne.mpr c4; simp only [Option.some.injEq, Prod.mk.injEq] at H; obtain ⟨rfl, rfl⟩ := H; go_enter Tryd.func17, Tryd.ntmps17; go_wp2_with (first | ((with_reducible refine gate_callee (f := 37) rfl ?_); refine goesL_ (some 15) rfl rfl Tryd.func37 (by kernel_rfl) rfl #[.string a0] rfl (by (try simp only [List.map_toArray, List.map_cons, List.map_nil]); first | done | rfl | (simp only [List.length_drop, List.length_take]; rfl)) ?_; (with_reducible refine (image_head.calls k a0 t325 t326 t327 t328 _ A3.out).mono ?_); rintro e w19 ⟨v329, v331, rfl, ho0, ho1, hb⟩; refine ⟨_, rfl, ?_⟩; have n0_ := Aside0.mk (Kd.R_lower ho0 (below_size (by repeat (first | (with_reducible first | exact HB.out | apply below_alloc | apply pw_below_drewN | apply below_drew1) | exact HB.out)))); have n1_ := Aside0.mk (Kd.R_lower ho1 (below_size (by repeat (first | (with_reducible first | exact HB.out | apply below_alloc | apply pw_below_drewN | apply below_drew1) | exact HB.out)))); have n2_ := Aside0.mk (below_step (by repeat (first | (with_reducible first | exact HB.out | apply below_alloc | apply pw_below_drewN | apply below_drew1) | exact HB.out)) hb); clear HB; have HO330 := n0_; have HO332 := n1_; have HB := n2_; clear n0_ n1_ n2_; (try clear hb); (try clear hb2); (try clear hk); (try clear hi); (try clear ho0); (try clear ho1))); go_ret2; exact ⟨_, by first | rfl | (simp [errW_none, errW_some] <;> rfl) | (simp [*, errW_none, errW_some] <;> rfl), by first | exact Kd.R_nil _ _ _ _ _ | exact Kd.N_nil _ _ _ _ _ | exact Kd.V_nil _ _ _ _ _ | exact Kd.Q_nil _ _ _ _ _ | exact Kd.S_nil _ _ _ _ _, by repeat (first | (with_reducible first | exact HB.out | apply below_alloc | apply pw_below_drewN | apply below_drew1) | exact HB.out)⟩
end Go.Proofs.YtmeofdpmddjbgaaDoor.G
end
section
namespace Go.Proofs.YtmeofdpmddjbgaaDoor.G
open Go.RowKit Go.Proofs.YtmeofdpmddjbgaaDoorW.PrintWords Go.Proofs.YtmeofdpmddjbgaaDoorW.PrintLast Go.Proofs.YtmeofdpmddjbgaaDoorW.PrintMore
attribute [local go_sem] max2_int min2_int max_two min_two max_three min_three max_four min_four   -- for this text's walks alone
set_option linter.unusedVariables false
set_option linter.unusedSimpArgs false
theorem eqA33 (d : Nat) (w : World) (x0 y0 : ByteArray) (x1 y1 : Int) (x2 y2 : ByteArray) :
  (Op.equalIn (d + 2) 33 (.agg #[.string x0, .int .i64 x1, .string x2]) (.agg #[.string y0, .int .i64 y1, .string y2])).run Tryd.prog w = .ok (x0.toList == y0.toList && (x1 == y1 && (x2.toList == y2.toList))) w := by
 refine eqA_of Tryd.underlying33 (by kernel_rfl) ?_
 refine eqf_cons (by rfl) (by go_simp; rfl) (by go_simp; rfl) (by go_simp) ?_
 refine eqf_cons (by rfl) (by go_simp; rfl) (by go_simp; rfl) (by go_simp) ?_
 exact eqf_last (by rfl) (by go_simp; rfl) (by go_simp; rfl) (by go_simp)
end Go.Proofs.YtmeofdpmddjbgaaDoor.G
end
section
namespace Go.Proofs.YtmeofdpmddjbgaaDoor.G
open Go.RowKit Go.Proofs.YtmeofdpmddjbgaaDoorW.PrintWords Go.Proofs.YtmeofdpmddjbgaaDoorW.PrintLast Go.Proofs.YtmeofdpmddjbgaaDoorW.PrintMore
set_option linter.unusedVariables false
set_option linter.unusedSimpArgs false
theorem rd_nat_ (l : List Int) (i : Nat) (h : i < l.length) : rd l (i : Int) = l[i] := by
 unfold rd
 simp [List.getD_eq_getElem?_getD, h]
/-- A head's file: how long it is may be. -/
def okZ (x : S75) : Prop := 0 ≤ x.f1 ∧ x.f1 ≤ 65536 ∧ x.f0.f2 = ⟨#[]⟩
theorem headGo_ok (s : ByteArray) : ∀ (d : Nat) (fs : List S75) (a : Nat), a ≤ s.size → (∀ x ∈ fs, okZ x) → (headGo s d fs a).2.1 ≤ s.size ∧ (headGo s d fs a).1.length ≤ fs.length + d ∧ ∀ x ∈ (headGo s d fs a).1, okZ x
 | 0, fs, a, ha, hx => ⟨ha, Nat.le_refl _, hx⟩
 | d + 1, fs, a, ha, hx => by
  rw [headGo]
  have h3 := (fileR_at s a ha).2.2
  have hok := fileR_ok s a
  obtain ⟨r, hr⟩ : ∃ r, fileR s a = r := ⟨_, rfl⟩
  rw [hr] at h3 hok ⊢
  by_cases q : r.c.2.2 = 0
  ·rw [if_pos q]
   obtain ⟨_, _, o3, o4, _⟩ := hok q
   have ih := headGo_ok s d (fs ++ [⟨⟨r.t.1, r.m.1, ⟨#[]⟩⟩, r.c.1⟩]) r.c.2.1 h3 (fun x hm => by
    rcases List.mem_append.1 hm with h | h
    ·exact hx x h
    ·rw [List.mem_singleton.1 h]; exact ⟨o3, o4, rfl⟩)
   refine ⟨ih.1, ?_, ih.2.2⟩
   have := ih.2.1
   rw [List.length_append, List.length_singleton] at this
   omega
  ·rw [if_neg q]
   exact ⟨Nat.zero_le _, Nat.zero_le _, fun x hm => by cases hm⟩
theorem headE_ok (s : ByteArray) : (headE s).2.1 ≤ s.size ∧ (headE s).1.length ≤ 256 ∧ ∀ x ∈ (headE s).1, okZ x := by
 unfold headE
 have a1 := countS_at s 0 0 256 (Nat.zero_le _)
 have r1 := countS_range s 0 0 256
 have h1 := countS_e s 0 0 256
 obtain ⟨c, hc⟩ : ∃ c, countS s 0 0 256 = c := ⟨_, rfl⟩
 rw [hc] at a1 r1 h1 ⊢
 by_cases q : c.2.2 = 0
 ·rw [if_pos q]
  have hm := (h1 q).2
  have := headGo_ok s c.1.toNat [] c.2.1 a1.2 (fun x hm => by cases hm)
  obtain ⟨x, hx⟩ : ∃ x, headGo s c.1.toNat [] c.2.1 = x := ⟨_, rfl⟩
  rw [hx] at this ⊢
  rw [List.length_nil] at this
  unfold headFin
  split
  ·split
   ·exact ⟨this.1, by omega, this.2.2⟩
   ·exact ⟨Nat.zero_le _, Nat.zero_le _, fun x hm => by cases hm⟩
  ·exact ⟨Nat.zero_le _, Nat.zero_le _, fun x hm => by cases hm⟩
 ·rw [if_neg q]
  exact ⟨Nat.zero_le _, Nat.zero_le _, fun x hm => by cases hm⟩
/-- The files' bytes behind a head. -/
def dataGo (s : ByteArray) : List S75 → Nat → List S33 → List S33 × Int
 | [], a, out => if a < s.size then ([], 4) else (out, 0)
 | x :: fs, a, out => if (s.size : Int) - a < x.f1 then ([], 3) else dataGo s fs (a + x.f1.toNat) (out ++ [⟨x.f0.f0, x.f0.f1, s.extract a (a + x.f1.toNat)⟩])
def treeE (s : ByteArray) : List S33 × Int := if 524288 < s.size then ([], 4) else if (headE s).2.2 = 0 then dataGo s (headE s).1 (headE s).2.1 [] else ([], (headE s).2.2)
theorem set_mid_ {α : Type} (X Y : List α) (p v : α) (i : Nat) (h : X.length = i) : (X ++ p :: Y).set i v = X ++ v :: Y := by
 subst h
 rw [List.set_append_right _ _ (Nat.le_refl _), Nat.sub_self, List.set_cons_zero]
theorem imagetree_l0 (s : ByteArray) (hs : s.size ≤ 140737488351232) (all : List S75) (hl : all.length ≤ 256) (hok : ∀ x ∈ all, okZ x) : ∀ (d i : Nat) (out : List S33) (a : Nat), all.length - i = d → i ≤ all.length → out.length = i → a ≤ s.size →
  Ev (fun k => image_Tree.l0 k s (out ++ (all.drop i).map (·.f0)) (a : Int) (all.map (·.f1)) (all.length : Int) (i : Int)) (dataGo s (all.drop i) a out) := by
 intro d
 induction d with
 | zero =>
  intro i out a hd hi ho ha
  have e : i = all.length := by omega
  subst e
  rw [List.drop_length, List.map_nil, List.append_nil]
  apply Ev.step
  ·intro k; rw [image_Tree.l0]
  have c1 : ¬ ((all.length : Int) < (all.length : Int)) := Int.lt_irrefl _
  simp only [c1, ↓reduceIte]
  unfold dataGo
  by_cases q : a < s.size
  ·have q2 : (a : Int) < (s.size : Int) := by omega
   simp only [q, q2, ↓reduceIte]
   exact Ev.now _
  ·have q2 : ¬ (a : Int) < (s.size : Int) := by omega
   simp only [q, q2, ↓reduceIte]
   exact Ev.now _
 | succ d ih =>
  intro i out a hd hi ho ha
  have hlt : i < all.length := by omega
  obtain ⟨o1, o2, o3⟩ := hok _ (List.getElem_mem hlt)
  have c1 : ((i : Int) < (all.length : Int)) := by omega
  have c2 : (0 : Int) ≤ (i : Int) := by omega
  have c3 : (i : Int) < ((all.map (fun y => y.f1)).length : Int) := by rw [List.length_map]; exact c1
  have c4 : (i : Int) < ((out ++ (all.drop i).map (fun y => y.f0)).length : Int) := by rw [List.length_append, List.length_map, List.length_drop]; omega
  have hw : wrap64 ((i : Int) + 1) = ((i + 1 : Nat) : Int) := by rw [w64_ (by omega) (by omega)]; omega
  have hr : rd (all.map (fun y => y.f1)) (i : Int) = (all[i]'hlt).f1 := by rw [rd_nat_ _ i (by rw [List.length_map]; exact hlt), List.getElem_map]
  have hf : rd_T33 (out ++ (all.drop i).map (fun y => y.f0)) (i : Int) = (all[i]'hlt).f0 := by
   rw [rdF_nat _ i (Int.ofNat_lt.1 c4), List.getElem_append_right (Nat.le_of_eq ho), List.getElem_map, List.getElem_drop]
   congr 2
   rw [ho, Nat.sub_self, Nat.add_zero]
  rw [List.drop_eq_getElem_cons hlt] at hf c4 ⊢
  rw [dataGo]
  obtain ⟨x, hx⟩ : ∃ x, all[i]'hlt = x := ⟨_, rfl⟩
  rw [hx] at o1 o2 o3 hr hf c4 ⊢
  rw [List.map_cons] at hf c4 ⊢
  have c5 : (0 : Int) ≤ (a : Int) := by omega
  apply Ev.step
  ·intro k; rw [image_Tree.l0]
  have hsub : wrap64 ((s.size : Int) - (a : Int)) = (s.size : Int) - (a : Int) := w64_ (by omega) (by omega)
  by_cases q : (s.size : Int) - (a : Int) < x.f1
  ·have q2 : x.f1 > (s.size : Int) - (a : Int) := q
   simp only [c1, c2, c3, hr, hsub, q, q2, ↓reduceIte]
   exact Ev.now _
  ·have q2 : ¬ x.f1 > (s.size : Int) - (a : Int) := q
   have hadd : wrap64 ((a : Int) + x.f1) = ((a + x.f1.toNat : Nat) : Int) := by rw [w64_ (by omega) (by omega)]; omega
   have c6 : (a : Int) ≤ ((a + x.f1.toNat : Nat) : Int) := by omega
   have c7 : ((a + x.f1.toNat : Nat) : Int) ≤ (s.size : Int) := by omega
   simp only [c1, c2, c3, c4, c5, c6, c7, hr, hsub, hadd, hf, q, q2, ↓reduceIte, hw, Int.toNat_natCast]
   rw [set_mid_ out _ _ _ i ho]
   have := ih (i + 1) (out ++ [⟨x.f0.f0, x.f0.f1, s.extract a (a + x.f1.toNat)⟩]) (a + x.f1.toNat) (by omega) (by omega) (by rw [List.length_append, List.length_singleton, ho]) (by omega)
   rw [List.append_assoc, List.singleton_append] at this
   exact this
theorem imagetree_ev (s : ByteArray) (hs : s.size ≤ 140737488351232) : Ev (fun k => image_Tree.f k s) (treeE s) := by
 unfold image_Tree.f treeE
 by_cases q : 524288 < s.size
 ·have q2 : (s.size : Int) > 524288 := by omega
  simp only [q, q2, ↓reduceIte]
  exact Ev.now _
 ·have q2 : ¬ (s.size : Int) > 524288 := by omega
  simp only [q, q2, ↓reduceIte]
  refine Ev.bind (imghead_ev s hs) ?_
  unfold imgh
  obtain ⟨h1, h2, h3⟩ := headE_ok s
  obtain ⟨x, hx⟩ : ∃ x, headE s = x := ⟨_, rfl⟩
  rw [hx] at h1 h2 h3 ⊢
  by_cases g : x.2.2 = 0
  ·simp only [g, ↓reduceIte, List.length_map]
   have := imagetree_l0 s hs x.1 h2 h3 x.1.length 0 [] x.2.1 (by omega) (by omega) rfl h1
   rw [List.drop_zero, List.nil_append] at this
   exact this
  ·simp only [g, ↓reduceIte]
   exact Ev.now _
end Go.Proofs.YtmeofdpmddjbgaaDoor.G
end
section
namespace Go.Proofs.YtmeofdpmddjbgaaDoor.G
open Go.RowKit Go.Proofs.YtmeofdpmddjbgaaDoorW.PrintWords Go.Proofs.YtmeofdpmddjbgaaDoorW.PrintLast Go.Proofs.YtmeofdpmddjbgaaDoorW.PrintMore
set_option linter.unusedVariables false
set_option linter.unusedSimpArgs false
/-- From a place on stand these bytes, then the text goes on at another place. -/
def Std (s : ByteArray) (a : Nat) (b : List UInt8) (a2 : Nat) : Prop := s.data.toList.drop a = b ++ s.data.toList.drop a2 ∧ a2 = a + b.length ∧ a2 ≤ s.size
theorem Std.trans {s : ByteArray} {a a1 a2 : Nat} {b c : List UInt8} (h : Std s a b a1) (k : Std s a1 c a2) : Std s a (b ++ c) a2 := by
 obtain ⟨h1, h2, h3⟩ := h
 obtain ⟨k1, k2, k3⟩ := k
 exact ⟨by rw [h1, k1, List.append_assoc], by rw [List.length_append]; omega, k3⟩
theorem Std.split {s : ByteArray} {a a2 : Nat} {b c : List UInt8} (h : Std s a (b ++ c) a2) : Std s a b (a + b.length) ∧ Std s (a + b.length) c a2 := by
 obtain ⟨h1, h2, h3⟩ := h
 rw [List.length_append] at h2
 have e : s.data.toList.drop (a + b.length) = c ++ s.data.toList.drop a2 := by
  rw [← List.drop_drop, h1, List.append_assoc, List.drop_left]
 exact ⟨⟨by rw [h1, e, List.append_assoc], rfl, by omega⟩, ⟨e, by omega, h3⟩⟩
theorem Std.nil (s : ByteArray) (a : Nat) (h : a ≤ s.size) : Std s a [] a := ⟨rfl, rfl, h⟩
theorem Std.head {s : ByteArray} {a a2 : Nat} {c : UInt8} {b : List UInt8} (h : Std s a (c :: b) a2) : a < s.size ∧ bt s (a : Int) = (c.toNat : Int) ∧ Std s (a + 1) b a2 := by
 obtain ⟨h1, h2, h3⟩ := h
 rw [List.length_cons] at h2
 have hlt : a < s.size := by omega
 have hl : a < s.data.toList.length := by rw [sz_]; exact hlt
 rw [List.drop_eq_getElem_cons hl, List.cons_append] at h1
 injection h1 with e1 e2
 refine ⟨hlt, ?_, e2, by omega, h3⟩
 rw [bt_nat s a hlt, e1]
theorem Std.cons {s : ByteArray} {a a2 : Nat} {c : UInt8} {b : List UInt8} (hlt : a < s.size) (hb : bt s (a : Int) = (c.toNat : Int)) (h : Std s (a + 1) b a2) : Std s a (c :: b) a2 := by
 obtain ⟨h1, h2, h3⟩ := h
 have hl : a < s.data.toList.length := by rw [sz_]; exact hlt
 rw [bt_nat s a hlt] at hb
 have e : s.data.toList[a]'hl = c := UInt8.toNat_inj.1 (Int.ofNat.inj hb)
 refine ⟨?_, by rw [List.length_cons]; omega, h3⟩
 rw [List.drop_eq_getElem_cons hl, e, h1, List.cons_append]
def numU (n : Nat) : List UInt8 := (numL n).map fun x => UInt8.ofNat x.toNat
theorem numU_small (n : Nat) (h : n < 128) : numU n = [UInt8.ofNat n] := by
 unfold numU
 rw [numL_small n h]
 rfl
theorem numU_big (n : Nat) (h : ¬ n < 128) : numU n = UInt8.ofNat (n % 128 + 128) :: numU (n / 128) := by
 unfold numU
 rw [numL_big n h]
 rfl
theorem numB_numU (n : Nat) (h : n ≤ 4611686018427387903) : numB (n : Int) = numU n := by
 unfold numB numE
 rw [if_neg (by omega), Int.toNat_natCast]
 exact strOfNums_data _
theorem ofNat_toNat_ (n : Nat) (h : n < 256) : (UInt8.ofNat n).toNat = n := by
 rw [UInt8.toNat_ofNat']
 omega
theorem numGo_fwd (s : ByteArray) : ∀ (d i n a x a2 : Nat), 9 - i = d → i ≤ 8 → (i = 0 ∨ 0 < x) → x * 128 ^ i < 4611686018427387904 → Std s a (numU x) a2 → numGo s d i n a = (((n + x * 128 ^ i : Nat) : Int), a2, 0) := by
 intro d
 induction d with
 | zero => intro i n a x a2 hd hi; omega
 | succ d ih =>
  intro i n a x a2 hd hi hx hb hs
  unfold numGo
  by_cases c : x < 128
  ·rw [numU_small x c] at hs
   obtain ⟨h1, h2, h3⟩ := hs.head
   obtain ⟨_, h4, _⟩ := h3
   rw [ofNat_toNat_ x (by omega)] at h2
   have e8 : i = 8 → x ≤ 63 := fun e => by subst e; omega
   rw [if_pos h1, h2, Int.toNat_natCast, if_neg (by omega), if_pos c, Nat.mod_eq_of_lt c]
   simp only [List.length_nil, Nat.add_zero] at h4
   rw [h4]
  ·rw [numU_big x c] at hs
   obtain ⟨h1, h2, h3⟩ := hs.head
   rw [ofNat_toNat_ (x % 128 + 128) (by omega)] at h2
   have e8 : i ≠ 8 := fun e => by subst e; omega
   rw [if_pos h1, h2, Int.toNat_natCast, if_neg (by omega), if_neg (by omega)]
   have em : (x % 128 + 128) % 128 = x % 128 := by omega
   rw [em]
   have hp : x / 128 * 128 ^ (i + 1) + x % 128 * 128 ^ i = x * 128 ^ i := by
    rw [Nat.pow_succ, Nat.mul_comm (128 ^ i) 128, ← Nat.mul_assoc, ← Nat.add_mul]
    congr 1
    omega
   rw [ih (i + 1) (n + x % 128 * 128 ^ i) (a + 1) (x / 128) a2 (by omega) (by omega) (.inr (by omega)) (by omega) h3]
   have e2 : n + x % 128 * 128 ^ i + x / 128 * 128 ^ (i + 1) = n + x * 128 ^ i := by omega
   rw [e2]
theorem numS_fwd (s : ByteArray) (a a2 : Nat) (x : Int) (h0 : 0 ≤ x) (h1 : x ≤ 4611686018427387903) (h : Std s a (numB x) a2) : numS s a 0 = (x, a2, 0) := by
 obtain ⟨n, rfl⟩ : ∃ n : Nat, x = (n : Int) := ⟨x.toNat, by omega⟩
 rw [numB_numU n (by omega)] at h
 unfold numS
 rw [if_pos rfl, numGo_fwd s 9 0 0 a n a2 rfl (by decide) (.inl rfl) (by omega) h]
 simp
theorem countS_fwd (s : ByteArray) (a a2 : Nat) (x most : Int) (h0 : 0 ≤ x) (h1 : x ≤ 4611686018427387903) (hm : x ≤ most) (h : Std s a (numB x) a2) : countS s a 0 most = (x, a2, 0) := by
 unfold countS
 rw [numS_fwd s a a2 x h0 h1 h, if_neg (by show ¬ ((0 : Int) = 0 ∧ most < x); omega)]
theorem extract_list_ (s : ByteArray) (a b : Nat) : (s.extract a b).data.toList = (s.data.toList.take b).drop a := by rw [extract_ba]
theorem rawS_fwd (s : ByteArray) (a a2 : Nat) (b : List UInt8) (h : Std s a b a2) : rawS s a 0 (b.length : Int) = (⟨b.toArray⟩, a2, 0) := by
 obtain ⟨h1, h2, h3⟩ := h
 unfold rawS
 rw [if_pos rfl, if_neg (by omega), if_neg (by omega), Int.toNat_natCast, ← h2]
 have e : s.extract a a2 = ⟨b.toArray⟩ := by
  rw [extract_ba]
  congr 2
  rw [List.drop_take, h1, h2]
  rw [Nat.add_sub_cancel_left, List.take_left]
 rw [e]
theorem textS_fwd (s : ByteArray) (a a2 : Nat) (b : List UInt8) (most : Nat) (hm : b.length ≤ most) (hM : most ≤ 4611686018427387903) (h : Std s a (numB (b.length : Int) ++ b) a2) : textS s a 0 (most : Int) = (⟨b.toArray⟩, a2, 0) := by
 obtain ⟨h1, h2⟩ := h.split
 unfold textS
 rw [countS_fwd s a _ (b.length : Int) most (Int.natCast_nonneg _) (by omega) (by omega) h1]
 exact rawS_fwd s _ a2 b h2
theorem numGo_bwd (s : ByteArray) : ∀ (d i n a : Nat), 9 - i = d → i ≤ 8 → a ≤ s.size → (numGo s d i n a).2.2 = 0 → ∃ x : Nat, (numGo s d i n a).1 = ((n + x * 128 ^ i : Nat) : Int) ∧ (i = 0 ∨ 0 < x) ∧ x * 128 ^ i < 4611686018427387904 ∧ Std s a (numU x) (numGo s d i n a).2.1 := by
 intro d
 induction d with
 | zero => intro i n a hd hi; omega
 | succ d ih =>
  intro i n a hd hi ha h
  unfold numGo at h ⊢
  by_cases c : a < s.size
  ·rw [if_pos c] at h ⊢
   obtain ⟨b, hb⟩ : ∃ b : Nat, bt s (a : Int) = (b : Int) := ⟨(bt s (a : Int)).toNat, by have := bt_range s (a : Int); omega⟩
   have hb5 : b ≤ 255 := by have := bt_range s (a : Int); omega
   rw [hb, Int.toNat_natCast] at h ⊢
   by_cases c1 : (i = 8 ∧ 63 < b) ∨ (0 < i ∧ b = 0)
   ·rw [if_pos c1] at h
    exact absurd h (by show ¬ (5 : Int) = 0; decide)
   ·rw [if_neg c1] at h ⊢
    have hP : 128 ^ i ≤ 72057594037927936 := Nat.le_trans (Nat.pow_le_pow_right (by decide) hi) (by decide)
    by_cases c2 : b < 128
    ·rw [if_pos c2] at h ⊢
     refine ⟨b, ?_, ?_, ?_, ?_⟩
     ·rw [Nat.mod_eq_of_lt c2]
     ·omega
     ·by_cases e8 : i = 8
      ·subst e8; omega
      ·have hP7 : 128 ^ i ≤ 562949953421312 := Nat.le_trans (Nat.pow_le_pow_right (by decide) (by omega : i ≤ 7)) (by decide)
       have : b * 128 ^ i ≤ 127 * 128 ^ i := Nat.mul_le_mul_right _ (by omega)
       omega
     ·rw [numU_small b c2]
      exact Std.cons c (by rw [hb, ofNat_toNat_ b (by omega)]) (Std.nil s (a + 1) c)
    ·rw [if_neg c2] at h ⊢
     have e8 : i ≠ 8 := fun e => c2 (by omega)
     obtain ⟨x, h1, h2, h3, h4⟩ := ih (i + 1) (n + b % 128 * 128 ^ i) (a + 1) (by omega) (by omega) c h
     have hx : 0 < x := h2.resolve_left (by omega)
     have hp : (b % 128 + 128 * x) * 128 ^ i = b % 128 * 128 ^ i + x * 128 ^ (i + 1) := by
      rw [Nat.add_mul, Nat.pow_succ, Nat.mul_comm 128 x, Nat.mul_assoc, Nat.mul_comm 128 (128 ^ i)]
     refine ⟨b % 128 + 128 * x, ?_, .inr (by omega), ?_, ?_⟩
     ·rw [h1, hp, Nat.add_assoc]
     ·rw [hp]
      have hb127 : b % 128 * 128 ^ i ≤ 127 * 128 ^ i := Nat.mul_le_mul_right _ (by omega)
      have hpow : (128 : Nat) ^ (i + 1) = 128 ^ i * 128 := Nat.pow_succ ..
      obtain ⟨e, he⟩ : ∃ e, 8 = i + 1 + e := ⟨8 - (i + 1), by omega⟩
      have hdv : 4611686018427387904 = 64 * 128 ^ e * 128 ^ (i + 1) := by
       rw [Nat.mul_assoc, ← Nat.pow_add, show e + (i + 1) = 8 by omega]
      rw [hdv] at h3 ⊢
      have hlt : x < 64 * 128 ^ e := Nat.lt_of_mul_lt_mul_right h3
      have hle : (x + 1) * 128 ^ (i + 1) ≤ 64 * 128 ^ e * 128 ^ (i + 1) := Nat.mul_le_mul_right _ hlt
      rw [Nat.add_mul, Nat.one_mul] at hle
      have hpos : 0 < (128 : Nat) ^ i := Nat.pow_pos (by decide)
      omega
     ·rw [numU_big _ (by omega)]
      have e1 : (b % 128 + 128 * x) % 128 + 128 = b := by omega
      have e2 : (b % 128 + 128 * x) / 128 = x := by omega
      rw [e1, e2]
      exact Std.cons c (by rw [hb, ofNat_toNat_ b (by omega)]) h4
  ·rw [if_neg c] at h
   exact absurd h (by show ¬ (3 : Int) = 0; decide)
theorem numS_bwd (s : ByteArray) (a : Nat) (e : Int) (ha : a ≤ s.size) (h : (numS s a e).2.2 = 0) : Std s a (numB (numS s a e).1) (numS s a e).2.1 ∧ 0 ≤ (numS s a e).1 ∧ (numS s a e).1 ≤ 4611686018427387903 := by
 have hr := numS_range s a e
 unfold numS at h hr ⊢
 by_cases c : e = 0
 ·rw [if_pos c] at h hr ⊢
  obtain ⟨x, h1, h2, h3, h4⟩ := numGo_bwd s 9 0 0 a rfl (by decide) ha h
  simp only [Nat.pow_zero, Nat.mul_one, Nat.zero_add] at h1 h3
  refine ⟨?_, hr⟩
  rw [h1, numB_numU x (by omega)]
  exact h4
 ·rw [if_neg c] at h
  exact absurd h c
theorem countS_bwd (s : ByteArray) (a : Nat) (e most : Int) (ha : a ≤ s.size) (h : (countS s a e most).2.2 = 0) : Std s a (numB (countS s a e most).1) (countS s a e most).2.1 := by
 unfold countS at h ⊢
 by_cases c : (numS s a e).2.2 = 0 ∧ most < (numS s a e).1
 ·rw [if_pos c] at h
  exact absurd h (by show ¬ (4 : Int) = 0; decide)
 ·rw [if_neg c] at h ⊢
  exact (numS_bwd s a e ha h).1
theorem rawS_bwd (s : ByteArray) (a : Nat) (e n : Int) (ha : a ≤ s.size) (h : (rawS s a e n).2.2 = 0) : Std s a (rawS s a e n).1.data.toList (rawS s a e n).2.1 ∧ ((rawS s a e n).1.size : Int) = n := by
 unfold rawS at h ⊢
 by_cases c : e = 0
 ·rw [if_pos c] at h ⊢
  by_cases c1 : n < 0
  ·rw [if_pos c1] at h
   exact absurd h (by show ¬ (1 : Int) = 0; decide)
  ·rw [if_neg c1] at h ⊢
   by_cases c2 : (s.size : Int) - a < n
   ·rw [if_pos c2] at h
    exact absurd h (by show ¬ (3 : Int) = 0; decide)
   ·rw [if_neg c2]
    have hl : ((s.data.toList.take (a + n.toNat)).drop a).length = n.toNat := by
     rw [List.length_drop, List.length_take, sz_]
     omega
    refine ⟨⟨?_, ?_, ?_⟩, ?_⟩
    ·show s.data.toList.drop a = (s.extract a (a + n.toNat)).data.toList ++ s.data.toList.drop (a + n.toNat)
     rw [extract_list_, List.drop_take, Nat.add_sub_cancel_left, ← List.drop_drop, List.take_append_drop]
    ·show a + n.toNat = a + (s.extract a (a + n.toNat)).data.toList.length
     rw [extract_list_, hl]
    ·show a + n.toNat ≤ s.size
     omega
    ·show ((s.extract a (a + n.toNat)).size : Int) = n
     rw [ByteArray.size_extract]
     omega
 ·rw [if_neg c] at h
  exact absurd h c
end Go.Proofs.YtmeofdpmddjbgaaDoor.G
end
section
namespace Go.Proofs.YtmeofdpmddjbgaaDoor.G
open Go.RowKit Go.Proofs.YtmeofdpmddjbgaaDoorW.PrintWords Go.Proofs.YtmeofdpmddjbgaaDoorW.PrintLast Go.Proofs.YtmeofdpmddjbgaaDoorW.PrintMore
set_option linter.unusedVariables false
set_option linter.unusedSimpArgs false
theorem textS_bwd (s : ByteArray) (a : Nat) (e most : Int) (ha : a ≤ s.size) (h : (textS s a e most).2.2 = 0) : Std s a (numB ((textS s a e most).1.size : Int) ++ (textS s a e most).1.data.toList) (textS s a e most).2.1 := by
 unfold textS at h ⊢
 have hc := countS_at s a e most ha
 have h0 := rawS_e s _ _ _ h
 have h1 := countS_bwd s a e most ha h0
 obtain ⟨h2, h3⟩ := rawS_bwd s _ _ _ hc.2 h
 rw [← h3] at h1
 exact h1.trans h2
def strip (x : S33) : S75 := ⟨⟨x.f0, x.f1, ⟨#[]⟩⟩, (x.f2.size : Int)⟩
def headZ : List S75 → List UInt8
 | [] => []
 | x :: l => numB (x.f0.f0.size : Int) ++ x.f0.f0.data.toList ++ numB x.f0.f1 ++ numB x.f1 ++ headZ l
theorem headZ_strip : ∀ l : List S33, headZ (l.map strip) = headL l
 | [] => rfl
 | x :: l => by rw [List.map_cons, headZ, headL, headZ_strip l]; rfl
theorem strip_f0 (l : List S33) : ((l.map strip).map (·.f0)).map (·.f0) = l.map (·.f0) := by rw [List.map_map, List.map_map]; rfl
theorem modes_strip : ∀ l : List S33, modesE l = 0 → modesE ((l.map strip).map (·.f0)) = 0
 | [], _ => rfl
 | x :: l, h => by
  rw [modesE] at h
  rw [List.map_cons, List.map_cons, modesE]
  by_cases c : x.f1 < 0 ∨ 511 < x.f1
  ·rw [if_pos c] at h; exact absurd h (by decide)
  ·rw [if_neg c] at h
   by_cases c2 : 65536 < x.f2.size
   ·rw [if_pos c2] at h; exact absurd h (by decide)
   ·rw [if_neg c2] at h
    rw [if_neg (show ¬ ((strip x).f0.f1 < 0 ∨ 511 < (strip x).f0.f1) from c), if_neg (show ¬ 65536 < (strip x).f0.f2.size from (by decide : ¬ 65536 < (⟨#[]⟩ : ByteArray).size))]
    exact modes_strip l h
theorem modes_unstrip : ∀ l : List S33, (∀ x ∈ l, x.f2.size ≤ 65536) → modesE ((l.map strip).map (·.f0)) = 0 → modesE l = 0
 | [], _, _ => rfl
 | x :: l, hx, h => by
  rw [modesE]
  rw [List.map_cons, List.map_cons, modesE] at h
  by_cases c : x.f1 < 0 ∨ 511 < x.f1
  ·rw [if_pos (show (strip x).f0.f1 < 0 ∨ 511 < (strip x).f0.f1 from c)] at h; exact absurd h (by decide)
  ·rw [if_neg (show ¬ ((strip x).f0.f1 < 0 ∨ 511 < (strip x).f0.f1) from c), if_neg (show ¬ 65536 < (strip x).f0.f2.size from (by decide : ¬ 65536 < (⟨#[]⟩ : ByteArray).size))] at h
   rw [if_neg c, if_neg (Nat.not_lt.2 (hx x List.mem_cons_self))]
   exact modes_unstrip l (fun y hy => hx y (List.mem_cons_of_mem _ hy)) h
theorem check_strip (l : List S33) (h : checkE l = 0) : checkE ((l.map strip).map (·.f0)) = 0 := by
 obtain ⟨h1, h2⟩ := check_ok l h
 unfold checkE
 rw [strip_f0, if_pos h1]
 exact modes_strip l h2
theorem check_unstrip (l : List S33) (hx : ∀ x ∈ l, x.f2.size ≤ 65536) (h : checkE ((l.map strip).map (·.f0)) = 0) : checkE l = 0 := by
 obtain ⟨h1, h2⟩ := check_ok _ h
 rw [strip_f0] at h1
 unfold checkE
 rw [if_pos h1]
 exact modes_unstrip l hx h2
theorem fileR_fwd (s : ByteArray) (a a2 : Nat) (x : S33) (h1 : x.f0.size ≤ 200) (h2 : x.f2.size ≤ 65536) (h3 : 0 ≤ x.f1) (h4 : x.f1 ≤ 511) (h : Std s a (numB (x.f0.size : Int) ++ x.f0.data.toList ++ numB x.f1 ++ numB (x.f2.size : Int)) a2) :
  (fileR s a).t.1 = x.f0 ∧ (fileR s a).m.1 = x.f1 ∧ (fileR s a).c = ((x.f2.size : Int), a2, 0) := by
 obtain ⟨k1, k2⟩ := h.split
 obtain ⟨k3, k4⟩ := k1.split
 have hlen : (x.f0.data.toList.length : Int) = (x.f0.size : Int) := by rw [sz_]
 have e1 := textS_fwd s a _ x.f0.data.toList 200 (by rw [sz_]; exact h1) (by decide) (by rw [hlen]; exact k3)
 have e2 := numS_fwd s _ _ x.f1 h3 (by omega) k4
 have e3 := countS_fwd s _ _ (x.f2.size : Int) 65536 (Int.natCast_nonneg _) (by omega) (by omega) k2
 obtain ⟨q1, q2, q3⟩ := fileR_eqs s a
 rw [show ((200 : Nat) : Int) = (200 : Int) from rfl] at e1
 rw [e1] at q1
 rw [q1] at q2
 rw [e2] at q2
 rw [q2] at q3
 rw [e3] at q3
 exact ⟨by rw [q1], by rw [q2], q3⟩
theorem headGo_fwd (s : ByteArray) : ∀ (l : List S33) (fs : List S75) (a a2 : Nat), (∀ x ∈ l, x.f0.size ≤ 200 ∧ x.f2.size ≤ 65536 ∧ 0 ≤ x.f1 ∧ x.f1 ≤ 511) → Std s a (headL l) a2 → headGo s l.length fs a = (fs ++ l.map strip, a2, 0)
 | [], fs, a, a2, _, h => by
  obtain ⟨_, h2, _⟩ := h
  rw [show (headL []).length = 0 from rfl, Nat.add_zero] at h2
  rw [h2, List.map_nil, List.append_nil]
  rfl
 | x :: l, fs, a, a2, hx, h => by
  obtain ⟨x1, x2, x3, x4⟩ := hx x List.mem_cons_self
  rw [headL] at h
  obtain ⟨k1, k2⟩ := h.split
  obtain ⟨e1, e2, e3⟩ := fileR_fwd s a _ x x1 x2 x3 x4 k1
  rw [List.length_cons, headGo, e3, e1, e2, if_pos rfl]
  have ih := headGo_fwd s l (fs ++ [strip x]) _ a2 (fun y hy => hx y (List.mem_cons_of_mem _ hy)) k2
  have e4 : fs ++ (x :: l).map strip = (fs ++ [strip x]) ++ l.map strip := by rw [List.append_assoc]; rfl
  rw [e4]
  exact ih
theorem extract_std (s : ByteArray) (a a2 : Nat) (b : List UInt8) (h : Std s a b a2) : s.extract a a2 = ⟨b.toArray⟩ := by
 obtain ⟨h1, h2, h3⟩ := h
 apply ba_ext
 rw [extract_list_, List.drop_take, h1, h2, Nat.add_sub_cancel_left, List.take_left']
 rfl
theorem dataGo_fwd (s : ByteArray) : ∀ (l : List S33) (a : Nat) (out : List S33), Std s a (dataL l) s.size → dataGo s (l.map strip) a out = (out ++ l, 0)
 | [], a, out, h => by
  obtain ⟨_, h2, _⟩ := h
  rw [show (dataL []).length = 0 from rfl, Nat.add_zero] at h2
  rw [List.map_nil, dataGo, if_neg (by omega), List.append_nil]
 | x :: l, a, out, h => by
  rw [dataL] at h
  obtain ⟨k1, k2⟩ := h.split
  have hle := k1.2.2
  rw [sz_] at k1 k2 hle
  have he := extract_std s a _ _ k1
  rw [List.map_cons, dataGo]
  have e1 : (strip x).f1 = (x.f2.size : Int) := rfl
  rw [e1, if_neg (by omega), Int.toNat_natCast, he]
  have ih := dataGo_fwd s l (a + x.f2.size) (out ++ [x]) k2
  rw [List.append_assoc, List.singleton_append] at ih
  exact ih
theorem tree_image (l : List S33) (h : (imageE l).2 = 0) : treeE (imageE l).1 = (l, 0) := by
 unfold imageE at h ⊢
 by_cases c : checkE l = 0
 case neg => rw [if_neg c] at h; exact absurd h c
 rw [if_pos c] at h ⊢
 by_cases c2 : 524288 < (bodyL l).length
 case pos => rw [if_pos c2] at h; exact absurd h (by decide)
 rw [if_neg c2]
 obtain ⟨f1, f2⟩ := check_files l c
 show treeE ⟨(bodyL l).toArray⟩ = (l, 0)
 obtain ⟨s, hs⟩ : ∃ s : ByteArray, (⟨(bodyL l).toArray⟩ : ByteArray) = s := ⟨_, rfl⟩
 rw [hs]
 have hl : s.data.toList = bodyL l := by rw [← hs]
 have hz : s.size = (bodyL l).length := by rw [← sz_, hl]
 have hall : Std s 0 (bodyL l) s.size := by
  refine ⟨?_, by omega, Nat.le_refl _⟩
  rw [List.drop_zero, List.drop_eq_nil_of_le (by rw [sz_]; exact Nat.le_refl _), List.append_nil]
  exact hl
 unfold bodyL at hall
 obtain ⟨k1, k2⟩ := hall.split
 obtain ⟨k3, k4⟩ := k1.split
 have e1 := countS_fwd s 0 _ (l.length : Int) 256 (Int.natCast_nonneg _) (by omega) (by omega) k3
 have e2 := headGo_fwd s l [] _ _ f2 k4
 rw [List.nil_append] at e2
 have e3 : headE s = (l.map strip, 0 + (numB (l.length : Int) ++ headL l).length, 0) := by
  unfold headE
  rw [e1, if_pos rfl]
  simp only [Int.toNat_natCast]
  rw [e2]
  unfold headFin
  simp only [↓reduceIte, check_strip l c]
 unfold treeE
 rw [if_neg (by omega), e3, if_pos rfl]
 have e4 := dataGo_fwd s l _ [] k2
 rw [List.nil_append] at e4
 exact e4
theorem fileR_bwd (s : ByteArray) (a : Nat) (ha : a ≤ s.size) (h : (fileR s a).c.2.2 = 0) :
  Std s a (numB ((fileR s a).t.1.size : Int) ++ (fileR s a).t.1.data.toList ++ numB (fileR s a).m.1 ++ numB (fileR s a).c.1) (fileR s a).c.2.1 := by
 obtain ⟨e1, e2, e3⟩ := fileR_eqs s a
 obtain ⟨a1, a2, a3⟩ := fileR_at s a ha
 obtain ⟨o1, o2, _⟩ := fileR_ok s a h
 have b1 := textS_bwd s a 0 200 ha (by rw [← e1]; exact o1)
 rw [← e1] at b1
 have b2 := (numS_bwd s _ _ a1 (by rw [← e2]; exact o2)).1
 rw [← e2] at b2
 have b3 := countS_bwd s _ _ 65536 a2 (by rw [← e3]; exact h)
 rw [← e3] at b3
 exact (b1.trans b2).trans b3
theorem headGo_bwd (s : ByteArray) : ∀ (d : Nat) (fs : List S75) (a : Nat), a ≤ s.size → (headGo s d fs a).2.2 = 0 → ∃ l : List S75, (headGo s d fs a).1 = fs ++ l ∧ l.length = d ∧ Std s a (headZ l) (headGo s d fs a).2.1
 | 0, fs, a, ha, _ => ⟨[], by rw [List.append_nil]; rfl, rfl, Std.nil s a ha⟩
 | d + 1, fs, a, ha, h => by
  rw [headGo] at h ⊢
  by_cases q : (fileR s a).c.2.2 = 0
  ·rw [if_pos q] at h ⊢
   obtain ⟨l, l1, l2, l3⟩ := headGo_bwd s d _ _ (fileR_at s a ha).2.2 h
   refine ⟨⟨⟨(fileR s a).t.1, (fileR s a).m.1, ⟨#[]⟩⟩, (fileR s a).c.1⟩ :: l, by rw [l1, List.append_assoc, List.singleton_append], by rw [List.length_cons, l2], ?_⟩
   rw [headZ]
   exact (fileR_bwd s a ha q).trans l3
  ·rw [if_neg q] at h
   exact absurd h q
theorem std_extract (s : ByteArray) (a b : Nat) (h : a ≤ b) (h2 : b ≤ s.size) : Std s a (s.extract a b).data.toList b := by
 have hlen : (s.extract a b).data.toList.length = b - a := by rw [sz_, ByteArray.size_extract]; omega
 refine ⟨?_, by omega, h2⟩
 rw [extract_list_, List.drop_take]
 have e : s.data.toList.drop b = (s.data.toList.drop a).drop (b - a) := by rw [List.drop_drop]; congr 1; omega
 rw [e, List.take_append_drop]
theorem dataGo_bwd (s : ByteArray) : ∀ (fs : List S75) (a : Nat) (out : List S33), a ≤ s.size → (∀ x ∈ fs, okZ x) → (dataGo s fs a out).2 = 0 → ∃ l : List S33, (dataGo s fs a out).1 = out ++ l ∧ l.map strip = fs ∧ Std s a (dataL l) s.size ∧ ∀ x ∈ l, x.f2.size ≤ 65536
 | [], a, out, ha, _, h => by
  rw [dataGo] at h ⊢
  by_cases q : a < s.size
  ·rw [if_pos q] at h; exact absurd h (by decide)
  ·rw [if_neg q]
   have e : a = s.size := by omega
   subst e
   exact ⟨[], by rw [List.append_nil], rfl, Std.nil s _ (Nat.le_refl _), fun x hx => by cases hx⟩
 | x :: fs, a, out, ha, hok, h => by
  rw [dataGo] at h ⊢
  obtain ⟨o1, o2, o3⟩ := hok x List.mem_cons_self
  by_cases q : (s.size : Int) - a < x.f1
  ·rw [if_pos q] at h; exact absurd h (by decide)
  ·rw [if_neg q] at h ⊢
   have hb : a + x.f1.toNat ≤ s.size := by omega
   obtain ⟨l, l1, l2, l3, l4⟩ := dataGo_bwd s fs (a + x.f1.toNat) _ hb (fun y hy => hok y (List.mem_cons_of_mem _ hy)) h
   have hse := std_extract s a (a + x.f1.toNat) (Nat.le_add_right _ _) hb
   have hsz : (s.extract a (a + x.f1.toNat)).size = x.f1.toNat := by rw [ByteArray.size_extract]; omega
   refine ⟨⟨x.f0.f0, x.f0.f1, s.extract a (a + x.f1.toNat)⟩ :: l, by rw [l1, List.append_assoc, List.singleton_append], ?_, ?_, ?_⟩
   ·rw [List.map_cons, l2]
    congr 1
    unfold strip
    obtain ⟨⟨p, m, e⟩, z⟩ := x
    simp only at o1 o3 hsz ⊢
    rw [hsz, o3]
    congr 1
    omega
   ·rw [dataL]
    exact hse.trans l3
   ·intro y hy
    rcases List.mem_cons.1 hy with e | e
    ·rw [e]
     show (s.extract a (a + x.f1.toNat)).size ≤ 65536
     omega
    ·exact l4 y e
theorem image_tree (s : ByteArray) (h : (treeE s).2 = 0) : imageE (treeE s).1 = (s, 0) := by
 obtain ⟨z1, z2, z3⟩ := headE_ok s
 unfold treeE at h ⊢
 by_cases c0 : 524288 < s.size
 case pos => rw [if_pos c0] at h; exact absurd h (by decide)
 rw [if_neg c0] at h ⊢
 by_cases c1 : (headE s).2.2 = 0
 case neg => rw [if_neg c1] at h; exact absurd h c1
 rw [if_pos c1] at h ⊢
 obtain ⟨l, l1, l2, l3, l4⟩ := dataGo_bwd s _ _ _ z1 z3 h
 rw [List.nil_append] at l1
 rw [l1]
 have hh : headE s = headFin (headGo s (countS s 0 0 256).1.toNat [] (countS s 0 0 256).2.1) ∧ (countS s 0 0 256).2.2 = 0 := by
  unfold headE at c1 ⊢
  by_cases c : (countS s 0 0 256).2.2 = 0
  ·rw [if_pos c]; exact ⟨rfl, c⟩
  ·rw [if_neg c] at c1; exact absurd c1 c
 obtain ⟨hh, c⟩ := hh
 have hc := countS_e s 0 0 256 c
 have hr := countS_range s 0 0 256
 have b1 := countS_bwd s 0 0 256 (Nat.zero_le _) c
 have ha := (countS_at s 0 0 256 (Nat.zero_le _)).2
 have hg := headGo_bwd s (countS s 0 0 256).1.toNat [] _ ha
 obtain ⟨x, hx⟩ : ∃ x, headGo s (countS s 0 0 256).1.toNat [] (countS s 0 0 256).2.1 = x := ⟨_, rfl⟩
 rw [hx] at hh hg
 have hf : x.2.2 = 0 ∧ checkE (x.1.map (·.f0)) = 0 ∧ headE s = x := by
  rw [hh] at c1 ⊢
  unfold headFin at c1 ⊢
  by_cases g : x.2.2 = 0
  ·rw [if_pos g] at c1 ⊢
   by_cases g2 : checkE (x.1.map (·.f0)) = 0
   ·rw [if_pos g2]; exact ⟨g, g2, rfl⟩
   ·rw [if_neg g2] at c1; exact absurd c1 g2
  ·rw [if_neg g] at c1; exact absurd c1 g
 obtain ⟨g1, g2, g3⟩ := hf
 obtain ⟨m, m1, m2, m3⟩ := hg g1
 rw [List.nil_append] at m1
 rw [g3] at l2 l3
 rw [m1] at l2 g2
 rw [← l2] at g2 m3
 rw [headZ_strip] at m3
 have hlen : (l.length : Int) = (countS s 0 0 256).1 := by
  have : l.length = m.length := by rw [← l2, List.length_map]
  rw [this, m2]
  omega
 rw [← hlen] at b1
 have hck := check_unstrip l l4 g2
 obtain ⟨t1, t2, t3⟩ := (b1.trans m3).trans l3
 rw [List.drop_zero, List.drop_eq_nil_of_le (by rw [sz_]; exact Nat.le_refl _), List.append_nil] at t1
 have hbl : bodyL l = s.data.toList := t1.symm
 unfold imageE
 rw [if_pos hck, hbl, if_neg (by rw [sz_]; exact c0)]
end Go.Proofs.YtmeofdpmddjbgaaDoor.G
end
section
namespace Go.Proofs.YtmeofdpmddjbgaaDoor.G
open Go.RowKit Go.Proofs.YtmeofdpmddjbgaaDoorW.PrintWords Go.Proofs.YtmeofdpmddjbgaaDoorW.PrintLast Go.Proofs.YtmeofdpmddjbgaaDoorW.PrintMore
set_option linter.unusedVariables false
set_option linter.unusedSimpArgs false
theorem toListE_ (a b : ByteArray) : (a.toList = b.toList) ↔ a = b := ⟨fun h => ba_ext (by rw [toList_data_, toList_data_] at h; exact h), fun h => by rw [h]⟩
end Go.Proofs.YtmeofdpmddjbgaaDoor.G
end
section
namespace Go.Proofs.YtmeofdpmddjbgaaDoor.G
open Go.RowKit Go.Proofs.YtmeofdpmddjbgaaDoorW.PrintWords Go.Proofs.YtmeofdpmddjbgaaDoorW.PrintLast Go.Proofs.YtmeofdpmddjbgaaDoorW.PrintMore
set_option linter.unusedVariables false
set_option linter.unusedSimpArgs false
section
variable {α : Type} (key : α → ByteArray)
theorem ltP_le_trans {p q r : ByteArray} (h : ¬ ltP q p) (k : ¬ ltP r q) : ¬ ltP r p := fun e => h (ltP_of_le_lt k e)
end
end Go.Proofs.YtmeofdpmddjbgaaDoor.G
end
section
namespace Go.Proofs.YtmeofdpmddjbgaaDoor.G
open Go.RowKit Go.Proofs.YtmeofdpmddjbgaaDoorW.PrintWords Go.Proofs.YtmeofdpmddjbgaaDoorW.PrintLast Go.Proofs.YtmeofdpmddjbgaaDoorW.PrintMore
set_option linter.unusedVariables false
set_option linter.unusedSimpArgs false
abbrev keyF (x : S33) : ByteArray := x.f0
end Go.Proofs.YtmeofdpmddjbgaaDoor.G
end
section
namespace Go.Proofs.YtmeofdpmddjbgaaDoor.G
open Go.RowKit Go.Proofs.YtmeofdpmddjbgaaDoorW.PrintWords Go.Proofs.YtmeofdpmddjbgaaDoorW.PrintLast Go.Proofs.YtmeofdpmddjbgaaDoorW.PrintMore
set_option linter.unusedVariables false
set_option linter.unusedSimpArgs false
theorem order_l0W (a b : ByteArray) (ha : a.size ≤ 9223372036854775807) (hb : b.size ≤ 9223372036854775807) (m : Nat) (hm : m = min a.size b.size) : ∀ (d i : Nat), m - i = d → i ≤ m →
  a.data.toList.take i = b.data.toList.take i →
  Ev (fun k => tree_Order.l0 k a b m i) (ordV (a.data.toList.drop i) (b.data.toList.drop i)) := by
 intro d
 induction d with
 | zero =>
  intro i hd hi hp
  have e : i = m := by omega
  clear hd hi hp
  subst e
  apply Ev.step
  ·intro k; rw [tree_Order.l0]
  have c1 : ¬ ((i : Int) < (i : Int)) := by omega
  simp only [c1, ↓reduceIte]
  rw [w64_ (by omega) (by omega)]
  have hv : ordV (a.data.toList.drop i) (b.data.toList.drop i) = (a.size : Int) - (b.size : Int) := by
   by_cases h : a.size ≤ b.size
   ·have e2 : i = a.size := by omega
    rw [show a.data.toList.drop i = [] from List.drop_eq_nil_of_le (by rw [sz_]; omega), ordV, List.length_drop, sz_]
    omega
   ·have e2 : i = b.size := by omega
    rw [show b.data.toList.drop i = [] from List.drop_eq_nil_of_le (by rw [sz_]; omega)]
    have hl : (a.data.toList.drop i).length = a.size - i := by rw [List.length_drop, sz_]
    cases hx : a.data.toList.drop i with
    | nil => rw [hx] at hl; simp at hl; omega
    | cons c x =>
     rw [hx] at hl
     rw [ordV, hl]
     ·omega
     ·simp
  rw [hv]
  exact Ev.now _
 | succ d ih =>
  intro i hd hi hp
  have hlt : i < m := by omega
  have hia : i < a.size := by omega
  have hib : i < b.size := by omega
  have hla : i < a.data.toList.length := by rw [sz_]; exact hia
  have hlb : i < b.data.toList.length := by rw [sz_]; exact hib
  apply Ev.step
  ·intro k; rw [tree_Order.l0]
  have c1 : ((i : Int) < (m : Int)) := by omega
  have c2 : (0 : Int) ≤ (i : Int) := by omega
  have c3 : ((i : Int) < (a.size : Int)) := by omega
  have c4 : ((i : Int) < (b.size : Int)) := by omega
  have hw : wrap64 ((i : Int) + 1) = ((i + 1 : Nat) : Int) := by rw [w64_ (by omega) (by omega)]; omega
  simp only [c1, c2, c3, c4, ↓reduceIte, hw, bt_nat a i hia, bt_nat b i hib]
  rw [List.drop_eq_getElem_cons hla, List.drop_eq_getElem_cons hlb]
  obtain ⟨x, hx⟩ : ∃ x, a.data.toList[i]'hla = x := ⟨_, rfl⟩
  obtain ⟨y, hy⟩ : ∃ y, b.data.toList[i]'hlb = y := ⟨_, rfl⟩
  simp only [hx, hy]
  have bx := x.toNat_lt
  have by_ := y.toNat_lt
  rw [w64_ (i := (x.toNat : Int)) (by omega) (by omega), w64_ (i := (y.toNat : Int)) (by omega) (by omega)]
  unfold ordV
  by_cases h : x = y
  ·subst h
   simp only [↓reduceIte]
   refine ih (i + 1) (by omega) (by omega) ?_
   rw [List.take_succ_eq_append_getElem hla, List.take_succ_eq_append_getElem hlb, hp, hx, hy]
  ·have h' : ¬ ((x.toNat : Int) = (y.toNat : Int)) := fun e => h (UInt8.toNat_inj.1 (Int.ofNat.inj e))
   simp only [h, h', ↓reduceIte]
   have e47 : ∀ c : UInt8, ((c.toNat : Int) = 47) ↔ c = 47 := fun c => ⟨fun e => UInt8.toNat_inj.1 (Int.ofNat.inj e), fun e => by rw [e]; rfl⟩
   simp only [e47]
   by_cases h1 : x = 47
   ·simp only [h1, ↓reduceIte]; exact Ev.now _
   ·by_cases h2 : y = 47
    ·simp only [h1, h2, ↓reduceIte]; exact Ev.now _
    ·simp only [h1, h2, ↓reduceIte]
     rw [w64_ (by omega) (by omega)]
     exact Ev.now _
theorem order_evW (a b : ByteArray) (ha : a.size ≤ 9223372036854775807) (hb : b.size ≤ 9223372036854775807) : Ev (fun k => tree_Order.f k a b) (ordV a.data.toList b.data.toList) := by
 unfold tree_Order.f
 have hm : mn (a.size : Int) (b.size : Int) = ((min a.size b.size : Nat) : Int) := by
  unfold mn
  split <;> omega
 rw [hm]
 have h := order_l0W a b ha hb (min a.size b.size) rfl (min a.size b.size) 0 (by omega) (by omega) rfl
 simpa using h
end Go.Proofs.YtmeofdpmddjbgaaDoor.G
end
section
namespace Go.Proofs.YtmeofdpmddjbgaaDoor.G
open Go.RowKit Go.Proofs.YtmeofdpmddjbgaaDoorW.PrintWords Go.Proofs.YtmeofdpmddjbgaaDoorW.PrintLast Go.Proofs.YtmeofdpmddjbgaaDoorW.PrintMore
set_option linter.unusedVariables false
set_option linter.unusedSimpArgs false
theorem w64n_ (i : Int) (h : -4294967296 ≤ i) (h2 : i ≤ 4294967296 * 8) : wrap64 i = i := w64_ (by omega) (by omega)
/-- All paths' lengths are lengths. -/
def okS (l : List S33) : Prop := ∀ x ∈ l, x.f0.size ≤ 9223372036854775807
end Go.Proofs.YtmeofdpmddjbgaaDoor.G
end
section
namespace Go.Proofs.YtmeofdpmddjbgaaDoor.G
open Go.RowKit Go.Proofs.YtmeofdpmddjbgaaDoorW.PrintWords Go.Proofs.YtmeofdpmddjbgaaDoorW.PrintLast Go.Proofs.YtmeofdpmddjbgaaDoorW.PrintMore
set_option linter.unusedVariables false
set_option linter.unusedSimpArgs false
theorem half_ (lo hi : Nat) (h : lo + hi ≤ 8589934592) : wrap64 (IntKind.u64.wrap (wrap64 ((lo : Int) + (hi : Int))) / 2) = (((lo + hi) / 2 : Nat) : Int) := by
 have e1 : wrap64 ((lo : Int) + (hi : Int)) = ((lo + hi : Nat) : Int) := by rw [w64n_ _ (by omega) (by omega)]; omega
 have e2 : IntKind.u64.wrap ((lo + hi : Nat) : Int) = ((lo + hi : Nat) : Int) := by
  clear e1
  rw [IntKind.wrap_u64]
  omega
 rw [e1, e2]
 clear e1 e2
 rw [w64n_ _ (by omega) (by omega)]
 omega
theorem thr_ (p : Nat → Prop) (hd : ∀ c, p c ∨ ¬ p c) (lo : Nat) : ∀ (d hi : Nat), hi - lo = d → lo ≤ hi → (∀ c c', lo ≤ c' → c' ≤ c → c < hi → p c → p c') → ∃ t, lo ≤ t ∧ t ≤ hi ∧ ∀ c, lo ≤ c → c < hi → (p c ↔ c < t)
 | 0, hi, h, hle, _ => ⟨lo, Nat.le_refl _, hle, fun c h1 h2 => by omega⟩
 | d + 1, hi, h, hle, mono => by
  obtain ⟨t, t1, t2, t3⟩ := thr_ p hd lo d (hi - 1) (by omega) (by omega) (fun c c' h1 h2 h3 => mono c c' h1 h2 (by omega))
  rcases hd (hi - 1) with q | q
  ·refine ⟨hi, hle, Nat.le_refl _, fun c h1 h2 => ⟨fun _ => h2, fun _ => mono (hi - 1) c h1 (by omega) (by omega) q⟩⟩
  ·refine ⟨t, t1, by omega, fun c h1 h2 => ?_⟩
   by_cases e : c = hi - 1
   ·subst e
    exact ⟨fun w => absurd w q, fun w => by omega⟩
   ·exact t3 c h1 (by omega)
theorem okS_rd (D : List S33) (h : okS D) (c : Nat) (hc : c < D.length) : (rd_T33 D (c : Int)).f0.size ≤ 9223372036854775807 := by
 rw [rdF_nat _ _ hc]
 exact h _ (List.getElem_mem hc)
end Go.Proofs.YtmeofdpmddjbgaaDoor.G
end
section
namespace Go.Proofs.YtmeofdpmddjbgaaDoor.G
open Go.RowKit Go.Proofs.YtmeofdpmddjbgaaDoorW.PrintWords Go.Proofs.YtmeofdpmddjbgaaDoorW.PrintLast Go.Proofs.YtmeofdpmddjbgaaDoorW.PrintMore
attribute [local go_sem] max2_int min2_int max_two min_two max_three min_three max_four min_four   -- for this text's walks alone
set_option linter.unusedVariables false
set_option linter.unusedSimpArgs false
def tree_Find_1.f (k : Nat) (a0_0 : ByteArray) (a0_1 : Int) (a0_2 : ByteArray) (a1 : ByteArray) : Option (Int) := (tree_Order.f k a0_0 a1).bind fun t428 => (some t428)
set_option maxHeartbeats 8000000 in
set_option maxRecDepth 100000 in
theorem tree_Find_1.calls (k : Nat) (a0_0 : ByteArray) (a0_1 : Int) (a0_2 : ByteArray) (a1 : ByteArray) (r : Int) (w : World) (h : tree_Find_1.f k a0_0 a0_1 a0_2 a1 = some r) :
  Calls Tryd.prog 67 #[.agg #[.string a0_0, .int .i64 a0_1, .string a0_2], .string a1] w fun e w' => e = .returned (.int .i64 r) ∧ Below w.heap.size w w' := by
 have hu33 := Tryd.underlying33; have HB := Aside0.mk (Below.refl w.heap.size w); have H : ((tree_Order.f k a0_0 a1).bind fun t428 => (some t428)) = some r := h; clear h; replace H := Option.bind_eq_some_iff.mp H; obtain ⟨t428, A30, H⟩ := H; replace H : (some t428) = some r := H; have A3 := Aside0.mk A30; clear A30; obtain rfl := Option.some.inj H; go_enter Tryd.func67, Tryd.ntmps67; go_wp2_with (first | ((with_reducible refine gate_dst (N := 2) rfl ?_); refine box_event ?hg (N := 2) ?hd (cs := #[.string a0_0, .int .i64 a0_1, .string a0_2]) (t := 33) ?hr ?_; (case hd => rfl); (case hg => rfl); (case hr => first | (go_simp; done) | (go_simp; rfl)); intro gb427 hg w4 hbox hb; have n0_ := Aside0.mk (below_step (by repeat (first | (with_reducible first | exact HB.out | apply below_alloc | apply pw_below_drewN | apply below_drew1) | exact HB.out)) hb); have n1_ := Aside0.mk (hbox); have n2_ := Aside0.mk ((by rw [hg]; exact (below_size (by repeat (first | (with_reducible first | exact HB.out | apply below_alloc | apply pw_below_drewN | apply below_drew1) | exact HB.out))) : w.heap.size ≤ gb427)); have n3_ := Aside0.mk ((by rw [hg]; exact (below_size (by repeat (first | (with_reducible first | exact HB.out | apply below_alloc | apply pw_below_drewN | apply below_drew1) | exact HB.out))) : w.heap.size ≤ gb427)); clear HB; have HB := n0_; have BK427 := n1_; have GW427 := n2_; have GE427 := n3_; clear n0_ n1_ n2_ n3_; clear hb hbox hg; have hcz5_0 : w4.cell? ⟨gb427, 0, none⟩ = some (.string a0_0) := (blk_cell BK427.out 0).trans rfl; have hcz5_1 : w4.cell? ⟨gb427, 1, none⟩ = some (.int .i64 a0_1) := (blk_cell BK427.out 1).trans rfl; have hcz5_2 : w4.cell? ⟨gb427, 2, none⟩ = some (.string a0_2) := (blk_cell BK427.out 2).trans rfl; have hfz5_0 := blk_frozen BK427.out 0; have hfz5_1 := blk_frozen BK427.out 1; have hfz5_2 := blk_frozen BK427.out 2) | ((with_reducible refine gate_callee (f := 63) rfl ?_); refine goesL_ (some 8) rfl rfl Tryd.func63 (by kernel_rfl) rfl #[.string a0_0, .string a1] rfl (by (try simp only [List.map_toArray, List.map_cons, List.map_nil]); first | done | rfl | (simp only [List.length_drop, List.length_take]; rfl)) ?_; (with_reducible refine (tree_Order.calls k a0_0 a1 t428 _ A3.out).mono ?_); rintro e w6 ⟨rfl, hb⟩; refine ⟨_, rfl, ?_⟩; have n0_ := Aside0.mk (blk_below (g := gb427) (o := .cells #[.string a0_0, .int .i64 a0_1, .string a0_2] 33 (0, 0)) (by (with_reducible repeat (first | refine blk_drewN ?_ _ | refine blk_drew ?_ | refine blk_alloc ?_ _)); exact BK427.out) hb); have n1_ := Aside0.mk (below_step (by repeat (first | (with_reducible first | exact HB.out | apply below_alloc | apply pw_below_drewN | apply below_drew1 | refine below_set ?_ GE427.out) | exact HB.out)) hb); clear BK427; clear HB; have BK427 := n0_; have HB := n1_; clear n0_ n1_; (try clear hb); (try clear hb2); (try clear hk); (try clear hi))); go_ret; exact ⟨by first | rfl | (simp [errW_none, errW_some] <;> rfl) | (simp [*, errW_none, errW_some] <;> rfl), by repeat (first | (with_reducible first | exact HB.out | apply below_alloc | apply pw_below_drewN | apply below_drew1 | refine below_set ?_ GE427.out) | exact HB.out)⟩
end Go.Proofs.YtmeofdpmddjbgaaDoor.G
end
section
namespace Go.Proofs.YtmeofdpmddjbgaaDoor.G
open Go.RowKit Go.Proofs.YtmeofdpmddjbgaaDoorW.PrintWords Go.Proofs.YtmeofdpmddjbgaaDoorW.PrintLast Go.Proofs.YtmeofdpmddjbgaaDoorW.PrintMore
attribute [local go_sem] max2_int min2_int max_two min_two max_three min_three max_four min_four   -- for this text's walks alone
set_option linter.unusedVariables false
set_option linter.unusedSimpArgs false
def api_File_string.l0 : Nat → List (S33) → ByteArray → Int → Int → Int → Option (Int × Bool)
 | 0, _, _, _, _, _ => none
 | k + 1, x0, x1, x8, x9, x10 => if x9 < x10 then (if 0 ≤ (wrap64 ((IntKind.u64.wrap (wrap64 (x9 + x10))) / 2)) then (if (wrap64 ((IntKind.u64.wrap (wrap64 (x9 + x10))) / 2)) < (x0.length : Int) then ((tree_Find_1.f k ((rd_T33 x0 (wrap64 ((IntKind.u64.wrap (wrap64 (x9 + x10))) / 2))).f0) ((rd_T33 x0 (wrap64 ((IntKind.u64.wrap (wrap64 (x9 + x10))) / 2))).f1) ((rd_T33 x0 (wrap64 ((IntKind.u64.wrap (wrap64 (x9 + x10))) / 2))).f2) x1).bind fun t430 => (if t430 < 0 then (api_File_string.l0 k x0 x1 x8 (wrap64 ((wrap64 ((IntKind.u64.wrap (wrap64 (x9 + x10))) / 2)) + 1)) x10) else (api_File_string.l0 k x0 x1 x8 x9 (wrap64 ((IntKind.u64.wrap (wrap64 (x9 + x10))) / 2))))) else (none)) else (none)) else (if x9 < x8 then (if 0 ≤ x9 then (if x9 < (x0.length : Int) then ((tree_Find_1.f k ((rd_T33 x0 x9).f0) ((rd_T33 x0 x9).f1) ((rd_T33 x0 x9).f2) x1).bind fun t432 => (some (x9, (t432 == 0)))) else (none)) else (none)) else (some (x9, false)))
def api_File_string.f (k : Nat) (l0 : List (S33)) (a1 : ByteArray)  : Option (Int × Bool) := api_File_string.l0 k l0 a1 (l0.length : Int) 0 (l0.length : Int)
set_option maxHeartbeats 8000000 in
set_option maxRecDepth 100000 in
theorem api_File_string.calls (k : Nat) (A0 : Option Addr) (c0 : Nat) (l0 : List (S33)) (a1 : ByteArray)  (r1 : Int) (r2 : Bool) (w : World) (hr0 : Kd.C k33 w A0 l0.length l0) (hc0 : l0.length ≤ c0) (h : api_File_string.f k l0 a1 = some (r1, r2)) :
  Calls Tryd.prog 66 #[.slice A0 l0.length c0, .string a1, .func (.func 67) #[] #[]] w fun e w' => e = .returned (.tuple #[.int .i64 r1, .bool r2]) ∧ Below w.heap.size w w' := by
 have hu33 := Tryd.underlying33; have HR0 := Aside0.mk hr0; have HC0 := Aside0.mk hc0; clear hr0 hc0; have HB := Aside0.mk (Below.refl w.heap.size w); have H : (api_File_string.l0 k l0 a1 (l0.length : Int) 0 (l0.length : Int)) = some (r1, r2) := h; clear h; have H' := Aside0.mk H; clear H; go_enter Tryd.func66, Tryd.ntmps66; go_wp2; go_loopg [9, 10] k (fun kq v9 v10 w' => ∃ (x9_1 : Int) (x10_1 : Int), v9 = .int .i64 x9_1 ∧ v10 = .int .i64 x10_1 ∧ Aside0 (api_File_string.l0 kq l0 a1 (l0.length : Int) x9_1 x10_1 = some (r1, r2)) ∧ Aside0 (kq ≤ k) ∧ Aside0 (Below w.heap.size w w'))
 case atStart => exact ⟨(0), ((l0.length : Int)), (by first | rfl | (simp; done) | (simp [*]; done)), (by first | rfl | (simp; done) | (simp [*]; done)), H', ⟨Nat.le_refl _⟩, ⟨by repeat (first | (with_reducible first | exact HB.out | apply below_alloc | apply pw_below_drewN | apply below_drew1) | exact HB.out)⟩⟩
 case round =>
  clear H'; (try clear p2); obtain ⟨x9_1, x10_1, rfl, rfl, HA, HK1, HB⟩ := hrel
  cases gk with
  | zero => exact absurd HA.out (by simp [api_File_string.l0])
  | succ k1 =>
   have H := HA.out; clear HA; simp only [api_File_string.l0] at H; by_cases c4 : x9_1 < x10_1
   ·rw [if_pos c4] at H; have c4b0 : decide (x9_1 < x10_1) = true := decide_eq_true c4; clear c4; obtain ⟨ji5, hji5⟩ : ∃ j_ : Int, (wrap64 ((IntKind.u64.wrap (wrap64 (x9_1 + x10_1))) / 2)) = j_ := ⟨_, rfl⟩; (replace H : (if 0 ≤ (ji5) then (if (ji5) < (l0.length : Int) then ((tree_Find_1.f k1 ((rd_T33 l0 (ji5)).f0) ((rd_T33 l0 (ji5)).f1) ((rd_T33 l0 (ji5)).f2) a1).bind fun t430 => (if t430 < 0 then (api_File_string.l0 k1 l0 a1 (l0.length : Int) (wrap64 ((ji5) + 1)) x10_1) else (api_File_string.l0 k1 l0 a1 (l0.length : Int) x9_1 ji5))) else (none)) else (none)) = some (r1, r2) := by first | (rw [hji5] at H; exact H) | (simp only [hji5] at H ⊢; exact H)); have hji5w : (IntKind.i64.wrap ((IntKind.u64.wrap (wrap64 (x9_1 + x10_1))) / 2)) = ji5 := (i64_w _).trans hji5; by_cases c6 : 0 ≤ (ji5)
    ·rw [if_pos c6] at H; have c6b0 : decide (0 ≤ (ji5)) = true := decide_eq_true c6; clear c6; by_cases c7 : (ji5) < (l0.length : Int)
     ·rw [if_pos c7] at H; have c7b0 : decide ((ji5) < (l0.length : Int)) = true := decide_eq_true c7; clear c7; replace H := Option.bind_eq_some_iff.mp H; obtain ⟨t430, A80, H⟩ := H; replace H : (if t430 < 0 then (api_File_string.l0 k1 l0 a1 (l0.length : Int) (wrap64 ((ji5) + 1)) x10_1) else (api_File_string.l0 k1 l0 a1 (l0.length : Int) x9_1 ji5)) = some (r1, r2) := H; have A8 := Aside0.mk A80; clear A80; by_cases c9 : t430 < 0
      ·rw [if_pos c9] at H; have c9b0 : decide (t430 < 0) = true := decide_eq_true c9; clear c9; have H' := Aside0.mk H; clear H; have p429 : 0 ≤ ((ji5) : Int) := of_decide_eq_true (by first | (with_reducible assumption) | assumption); have q429 : (ji5) < (l0.length : Int) := of_decide_eq_true (by first | (with_reducible assumption) | assumption); obtain ⟨ad429, e429, hx429_0, hx429_1, hx429_2⟩ := at_T33 HR0.out (ji5) p429 q429; cases e429; replace hx429_0 := (HB.out.cell (World.block_lt_of_cell? w _ hx429_0)).trans hx429_0; replace hx429_1 := (HB.out.cell (World.block_lt_of_cell? w _ hx429_1)).trans hx429_1; replace hx429_2 := (HB.out.cell (World.block_lt_of_cell? w _ hx429_2)).trans hx429_2; replace p429 := eq_true p429; replace q429 := eq_true q429; go_wp2_with (first | ((with_reducible refine Go.Proofs.YtmeofdpmddjbgaaDoor.Fnv.gate_ rfl ?_); refine Go.Proofs.YtmeofdpmddjbgaaDoor.Fnv.goesL_ _ (some 30) rfl rfl Tryd.func67 (by kernel_rfl) rfl #[.agg #[.string ((rd_T33 l0 (ji5)).f0), .int .i64 ((rd_T33 l0 (ji5)).f1), .string ((rd_T33 l0 (ji5)).f2)], .string a1] rfl (by (try simp only [List.map_toArray, List.map_cons, List.map_nil]); first | done | (simp only [hji5]; rfl) | rfl | (simp only [List.length_drop, List.length_take]; rfl)) (by rfl) ?_; (with_reducible refine (tree_Find_1.calls k1 ((rd_T33 l0 (ji5)).f0) ((rd_T33 l0 (ji5)).f1) ((rd_T33 l0 (ji5)).f2) a1 t430 _ A8.out).mono ?_); rintro e w10 ⟨rfl, hb⟩; refine ⟨_, rfl, ?_⟩; have n0_ := Aside0.mk (below_step (by repeat (first | (with_reducible first | exact HB.out | apply below_alloc | apply pw_below_drewN | apply below_drew1) | exact HB.out)) hb); clear HB; have HB := n0_; clear n0_; (try clear hb); (try clear hb2); (try clear hk); (try clear hi))); go_roundg k1
       case measure => have := HK1.out; omega
       case rel => exact ⟨(wrap64 ((ji5) + 1)), (x10_1), (by first | rfl | (simp; done) | (simp only [← hji5] <;> (first | rfl | simp)) | (simp [*]; done)), (by first | rfl | (simp; done) | (simp [*]; done)), H', ⟨by have := HK1.out; omega⟩, ⟨by repeat (first | (with_reducible first | exact HB.out | apply below_alloc | apply pw_below_drewN | apply below_drew1) | exact HB.out)⟩⟩
      ·rw [if_neg c9] at H; have c9b0 : decide (t430 < 0) = false := decide_eq_false c9; clear c9; have H' := Aside0.mk H; clear H; have p429 : 0 ≤ ((ji5) : Int) := of_decide_eq_true (by first | (with_reducible assumption) | assumption); have q429 : (ji5) < (l0.length : Int) := of_decide_eq_true (by first | (with_reducible assumption) | assumption); obtain ⟨ad429, e429, hx429_0, hx429_1, hx429_2⟩ := at_T33 HR0.out (ji5) p429 q429; cases e429; replace hx429_0 := (HB.out.cell (World.block_lt_of_cell? w _ hx429_0)).trans hx429_0; replace hx429_1 := (HB.out.cell (World.block_lt_of_cell? w _ hx429_1)).trans hx429_1; replace hx429_2 := (HB.out.cell (World.block_lt_of_cell? w _ hx429_2)).trans hx429_2; replace p429 := eq_true p429; replace q429 := eq_true q429; go_wp2_with (first | ((with_reducible refine Go.Proofs.YtmeofdpmddjbgaaDoor.Fnv.gate_ rfl ?_); refine Go.Proofs.YtmeofdpmddjbgaaDoor.Fnv.goesL_ _ (some 30) rfl rfl Tryd.func67 (by kernel_rfl) rfl #[.agg #[.string ((rd_T33 l0 (ji5)).f0), .int .i64 ((rd_T33 l0 (ji5)).f1), .string ((rd_T33 l0 (ji5)).f2)], .string a1] rfl (by (try simp only [List.map_toArray, List.map_cons, List.map_nil]); first | done | (simp only [hji5]; rfl) | rfl | (simp only [List.length_drop, List.length_take]; rfl)) (by rfl) ?_; (with_reducible refine (tree_Find_1.calls k1 ((rd_T33 l0 (ji5)).f0) ((rd_T33 l0 (ji5)).f1) ((rd_T33 l0 (ji5)).f2) a1 t430 _ A8.out).mono ?_); rintro e w11 ⟨rfl, hb⟩; refine ⟨_, rfl, ?_⟩; have n0_ := Aside0.mk (below_step (by repeat (first | (with_reducible first | exact HB.out | apply below_alloc | apply pw_below_drewN | apply below_drew1) | exact HB.out)) hb); clear HB; have HB := n0_; clear n0_; (try clear hb); (try clear hb2); (try clear hk); (try clear hi))); go_roundg k1
       case measure => have := HK1.out; omega
       case rel => exact ⟨(x9_1), (ji5), (by first | rfl | (simp; done) | (simp [*]; done)), (by first | rfl | (simp; done) | (simp only [← hji5] <;> (first | rfl | simp)) | (simp [*]; done)), H', ⟨by have := HK1.out; omega⟩, ⟨by repeat (first | (with_reducible first | exact HB.out | apply below_alloc | apply pw_below_drewN | apply below_drew1) | exact HB.out)⟩⟩
     ·rw [if_neg c7] at H; exact absurd H (by simp)
    ·rw [if_neg c6] at H; exact absurd H (by simp)
   ·rw [if_neg c4] at H; have c4b0 : decide (x9_1 < x10_1) = false := decide_eq_false c4; clear c4; by_cases c12 : x9_1 < (l0.length : Int)
    ·rw [if_pos c12] at H; have c12b0 : decide (x9_1 < (l0.length : Int)) = true := decide_eq_true c12; clear c12; by_cases c13 : 0 ≤ x9_1
     ·rw [if_pos c13] at H; have c13b0 : decide (0 ≤ x9_1) = true := decide_eq_true c13; clear c13; by_cases c14 : x9_1 < (l0.length : Int)
      ·rw [if_pos c14] at H; have c14b0 : decide (x9_1 < (l0.length : Int)) = true := decide_eq_true c14; clear c14; replace H := Option.bind_eq_some_iff.mp H; obtain ⟨t432, A150, H⟩ := H; replace H : (some (x9_1, (t432 == 0))) = some (r1, r2) := H; have A15 := Aside0.mk A150; clear A150; simp only [Option.some.injEq, Prod.mk.injEq] at H; obtain ⟨rfl, rfl⟩ := H; have p431 : 0 ≤ (x9_1 : Int) := of_decide_eq_true (by first | (with_reducible assumption) | assumption); have q431 : x9_1 < (l0.length : Int) := of_decide_eq_true (by first | (with_reducible assumption) | assumption); obtain ⟨ad431, e431, hx431_0, hx431_1, hx431_2⟩ := at_T33 HR0.out x9_1 p431 q431; cases e431; replace hx431_0 := (HB.out.cell (World.block_lt_of_cell? w _ hx431_0)).trans hx431_0; replace hx431_1 := (HB.out.cell (World.block_lt_of_cell? w _ hx431_1)).trans hx431_1; replace hx431_2 := (HB.out.cell (World.block_lt_of_cell? w _ hx431_2)).trans hx431_2; replace p431 := eq_true p431; replace q431 := eq_true q431; go_wp2_with (first | (go_at_call 67; (with_reducible refine (tree_Find_1.calls k1 ((rd_T33 l0 x9_1).f0) ((rd_T33 l0 x9_1).f1) ((rd_T33 l0 x9_1).f2) a1 t432 _ A15.out).mono ?_); rintro e w16 ⟨rfl, hb⟩; have n0_ := Aside0.mk (below_step (by repeat (first | (with_reducible first | exact HB.out | apply below_alloc | apply pw_below_drewN | apply below_drew1) | exact HB.out)) hb); clear HB; have HB := n0_; clear n0_; (try clear hb); (try clear hb2); (try clear hk); (try clear hi))); go_ret2; exact ⟨by first | rfl | (simp [errW_none, errW_some] <;> rfl) | (simp [*, errW_none, errW_some] <;> rfl), by repeat (first | (with_reducible first | exact HB.out | apply below_alloc | apply pw_below_drewN | apply below_drew1) | exact HB.out)⟩
      ·rw [if_neg c14] at H; exact absurd H (by simp)
     ·rw [if_neg c13] at H; exact absurd H (by simp)
    ·rw [if_neg c12] at H; have c12b0 : decide (x9_1 < (l0.length : Int)) = false := decide_eq_false c12; clear c12; simp only [Option.some.injEq, Prod.mk.injEq] at H; obtain ⟨rfl, rfl⟩ := H; go_wp2; go_ret2; exact ⟨by first | rfl | (simp [errW_none, errW_some] <;> rfl) | (simp [*, errW_none, errW_some] <;> rfl), by repeat (first | (with_reducible first | exact HB.out | apply below_alloc | apply pw_below_drewN | apply below_drew1) | exact HB.out)⟩
end Go.Proofs.YtmeofdpmddjbgaaDoor.G
end
section
namespace Go.Proofs.YtmeofdpmddjbgaaDoor.G
open Go.RowKit Go.Proofs.YtmeofdpmddjbgaaDoorW.PrintWords Go.Proofs.YtmeofdpmddjbgaaDoorW.PrintLast Go.Proofs.YtmeofdpmddjbgaaDoorW.PrintMore
attribute [local go_sem] max2_int min2_int max_two min_two max_three min_three max_four min_four   -- for this text's walks alone
set_option linter.unusedVariables false
set_option linter.unusedSimpArgs false
def tree_Find.f (k : Nat) (l0 : List (S33)) (a1 : ByteArray) : Option (Int) := (api_File_string.f k l0 a1).bind fun bt433 => (if bt433.2 = true then (some bt433.1) else (some (-1)))
set_option maxHeartbeats 8000000 in
set_option maxRecDepth 100000 in
theorem tree_Find.calls (k : Nat) (A0 : Option Addr) (c0 : Nat) (l0 : List (S33)) (a1 : ByteArray) (r : Int) (w : World) (hr0 : Kd.C k33 w A0 l0.length l0) (hc0 : l0.length ≤ c0) (h : tree_Find.f k l0 a1 = some r) :
  Calls Tryd.prog 47 #[.slice A0 l0.length c0, .string a1] w fun e w' => e = .returned (.int .i64 r) ∧ Below w.heap.size w w' := by
 have HR0 := Aside0.mk hr0; have HC0 := Aside0.mk hc0; clear hr0 hc0; have HB := Aside0.mk (Below.refl w.heap.size w); have H : ((api_File_string.f k l0 a1).bind fun bt433 => (if bt433.2 = true then (some bt433.1) else (some (-1)))) = some r := h; clear h; replace H := Option.bind_eq_some_iff.mp H; obtain ⟨⟨t433, t434⟩, A30, H⟩ := H; replace H : (if t434 = true then (some t433) else (some (-1))) = some r := H; have A3 := Aside0.mk A30; clear A30; by_cases c4 : t434 = true
 ·subst c4; (have H1 : (some t433) = some r := by rw [if_pos rfl] at H; exact H); clear H; have H := H1; clear H1; obtain rfl := Option.some.inj H; go_enter Tryd.func47, Tryd.ntmps47; go_wp2_with (first | ((with_reducible refine gate_callee (f := 66) rfl ?_); refine goesL_ (some 10) rfl rfl Tryd.func66 (by kernel_rfl) rfl #[.slice A0 l0.length c0, .string a1, .func (.func 67) #[] #[]] rfl (by (try simp only [List.map_toArray, List.map_cons, List.map_nil]); first | done | rfl | (simp only [List.length_drop, List.length_take]; rfl)) ?_; (with_reducible refine (api_File_string.calls k _ _ l0 a1 t433 true _ ?side1 ?side2 A3.out).mono ?_); (case side1 => repeat (first | exact HR0.out | (with_reducible refine Kd.C_alloc ?_ _) | (with_reducible refine Kd.C_drewN ?_ _) | (with_reducible refine Kd.C_drew ?_))); (case side2 => exact HC0.out); rintro e w5 ⟨rfl, hb⟩; refine ⟨_, rfl, ?_⟩; have n0_ := Aside0.mk (below_step (by repeat (first | (with_reducible first | exact HB.out | apply below_alloc | apply pw_below_drewN | apply below_drew1) | exact HB.out)) hb); clear HB; have HB := n0_; clear n0_; (try clear hb); (try clear hb2); (try clear hk); (try clear hi))); go_ret; exact ⟨by first | rfl | (simp [errW_none, errW_some] <;> rfl) | (simp [*, errW_none, errW_some] <;> rfl), by repeat (first | (with_reducible first | exact HB.out | apply below_alloc | apply pw_below_drewN | apply below_drew1) | exact HB.out)⟩
 ·replace c4 := Bool.eq_false_iff.mpr c4; subst c4; (have H1 : (some (-1)) = some r := by rw [if_neg (show ¬ (false = true) by decide)] at H; exact H); clear H; have H := H1; clear H1; obtain rfl := Option.some.inj H; go_enter Tryd.func47, Tryd.ntmps47; go_wp2_with (first | ((with_reducible refine gate_callee (f := 66) rfl ?_); refine goesL_ (some 10) rfl rfl Tryd.func66 (by kernel_rfl) rfl #[.slice A0 l0.length c0, .string a1, .func (.func 67) #[] #[]] rfl (by (try simp only [List.map_toArray, List.map_cons, List.map_nil]); first | done | rfl | (simp only [List.length_drop, List.length_take]; rfl)) ?_; (with_reducible refine (api_File_string.calls k _ _ l0 a1 t433 false _ ?side1 ?side2 A3.out).mono ?_); (case side1 => repeat (first | exact HR0.out | (with_reducible refine Kd.C_alloc ?_ _) | (with_reducible refine Kd.C_drewN ?_ _) | (with_reducible refine Kd.C_drew ?_))); (case side2 => exact HC0.out); rintro e w6 ⟨rfl, hb⟩; refine ⟨_, rfl, ?_⟩; have n0_ := Aside0.mk (below_step (by repeat (first | (with_reducible first | exact HB.out | apply below_alloc | apply pw_below_drewN | apply below_drew1) | exact HB.out)) hb); clear HB; have HB := n0_; clear n0_; (try clear hb); (try clear hb2); (try clear hk); (try clear hi))); go_ret; exact ⟨by first | rfl | (simp [errW_none, errW_some] <;> rfl) | (simp [*, errW_none, errW_some] <;> rfl), by repeat (first | (with_reducible first | exact HB.out | apply below_alloc | apply pw_below_drewN | apply below_drew1) | exact HB.out)⟩
end Go.Proofs.YtmeofdpmddjbgaaDoor.G
end
section
namespace Go.Proofs.YtmeofdpmddjbgaaDoor.G
open Go.RowKit Go.Proofs.YtmeofdpmddjbgaaDoorW.PrintWords Go.Proofs.YtmeofdpmddjbgaaDoorW.PrintLast Go.Proofs.YtmeofdpmddjbgaaDoorW.PrintMore
set_option linter.unusedVariables false
set_option linter.unusedSimpArgs false
theorem check_sorted (l : List S33) (h : checkE l = 0) : SortedK keyF l ∧ l.length ≤ 256 ∧ ∀ x ∈ l, x.f0.size ≤ 200 := by
 obtain ⟨h1, _⟩ := check_ok l h
 obtain ⟨h2, h3⟩ := check_files l h
 refine ⟨?_, h2, fun x hx => (h3 x hx).1⟩
 unfold pathsE at h1
 by_cases c : 256 < (l.map (·.f0)).length
 ·rw [if_pos c] at h1; exact absurd h1 (by decide)
 ·rw [if_neg c] at h1
  have := (togE_sorted _ none h1).1
  exact List.pairwise_map.1 this
theorem treeE_check (s : ByteArray) (h : (treeE s).2 = 0) : checkE (treeE s).1 = 0 := by
 have h1 := image_tree s h
 unfold imageE at h1
 by_cases c : checkE (treeE s).1 = 0
 ·exact c
 ·rw [if_neg c] at h1
  exact absurd (congrArg Prod.snd h1) c
theorem cmpS_ev (x : S33) (p : ByteArray) (hx : x.f0.size ≤ 9223372036854775807) (hp : p.size ≤ 9223372036854775807) : ∃ t : Int, Ev (fun k => tree_Find_1.f k x.f0 x.f1 x.f2 p) t ∧ (t < 0 ↔ ltP x.f0 p) ∧ (t = 0 ↔ x.f0 = p) := by
 refine ⟨ordV x.f0.data.toList p.data.toList, ?_, (ordV_cmp _ _).1, ?_⟩
 ·unfold tree_Find_1.f
  exact Ev.bind (order_evW _ _ hx hp) (Ev.now _)
 ·rw [(ordV_cmp _ _).2.1, cmpL_eq]
  exact ⟨fun e => ba_ext e, fun e => by rw [e]⟩
theorem find_l0 (l : List S33) (hl : l.length ≤ 4294967295) (hok : okS l) (p : ByteArray) (hp : p.size ≤ 9223372036854775807) (t : Nat) (r : Int × Bool)
  (h : Ev (fun k => if (t : Int) < (l.length : Int) then (if 0 ≤ (t : Int) then (if (t : Int) < (l.length : Int) then ((tree_Find_1.f k ((rd_T33 l (t : Int)).f0) ((rd_T33 l (t : Int)).f1) ((rd_T33 l (t : Int)).f2) p).bind fun t432 => (some ((t : Int), (t432 == 0)))) else (none)) else (none)) else (some ((t : Int), false))) r) : ∀ (d lo hi : Nat), hi - lo = d → lo ≤ t → t ≤ hi → hi ≤ l.length →
  (∀ c, lo ≤ c → c < hi → (ltP (rd_T33 l (c : Int)).f0 p ↔ c < t)) → Ev (fun k => api_File_string.l0 k l p (l.length : Int) (lo : Int) (hi : Int)) r := by
 intro d
 induction d using Nat.strongRecOn with
 | _ d ih =>
  intro lo hi hd h1 h2 h3 hq
  apply Ev.step
  ·intro k; rw [api_File_string.l0]
  by_cases c1 : (lo : Int) < (hi : Int)
  ·have hlh : lo < hi := by omega
   obtain ⟨c, hc⟩ : ∃ c, (lo + hi) / 2 = c := ⟨_, rfl⟩
   have b1 : lo ≤ c := by omega
   have b2 : c < hi := by omega
   have b3 : c < l.length := by omega
   have c2 : (0 : Int) ≤ (c : Int) := by omega
   have c3 : (c : Int) < (l.length : Int) := by omega
   have hpc := hq c b1 b2
   obtain ⟨x, hx⟩ : ∃ x, rd_T33 l (c : Int) = x := ⟨_, rfl⟩
   obtain ⟨u, t1, t2, _⟩ := cmpS_ev x p (by rw [← hx]; exact okS_rd l hok c b3) hp
   rw [hx] at hpc
   have i1 := ih (hi - (c + 1)) (by omega) (c + 1) hi rfl
   have i2 := ih (c - lo) (by omega) lo c rfl h1
   have hb1 : (lo + hi) ≤ 8589934592 := by omega
   have hw2 : wrap64 ((c : Int) + 1) = ((c + 1 : Nat) : Int) := by rw [w64n_ _ (by omega) (by omega)]; omega
   have hw := half_ lo hi hb1
   rw [hc] at hw
   simp only [c1, hw, c2, c3, hx, ↓reduceIte]
   refine Ev.bind t1 ?_
   clear hw hb1
   by_cases q : u < 0
   ·simp only [q, ↓reduceIte, hw2]
    clear hw2
    exact i1 (Nat.succ_le_of_lt (hpc.1 (t2.1 q))) h2 h3 (fun e h4 h5 => hq e (by omega) h5)
   ·simp only [q, ↓reduceIte]
    clear hw2
    have : ¬ c < t := fun e => q (t2.2 (hpc.2 e))
    exact i2 (by omega) (by omega) (fun e h4 h5 => hq e h4 (by omega))
  ·have e : lo = t := by omega
   rw [e]
   rw [e] at c1
   simp only [c1, ↓reduceIte]
   exact h
/-- Found: the place; else nothing is there. -/
theorem find_ev (l : List S33) (hl : l.length ≤ 4294967295) (hs : SortedK keyF l) (hok : okS l) (p : ByteArray) (hp : p.size ≤ 9223372036854775807) :
  (∃ i, ∃ hi : i < l.length, (l[i]'hi).f0 = p ∧ Ev (fun k => tree_Find.f k l p) (i : Int)) ∨ ((∀ x ∈ l, x.f0 ≠ p) ∧ Ev (fun k => tree_Find.f k l p) (-1)) := by
 have hlt : ∀ i j (hi : i < l.length) (hj : j < l.length), i < j → ltP (l[i]'hi).f0 (l[j]'hj).f0 := fun i j hi hj hij => List.pairwise_iff_getElem.1 hs i j hi hj hij
 obtain ⟨t, t1, t2, t3⟩ := thr_ (fun c => ltP (rd_T33 l (c : Int)).f0 p) (fun c => Decidable.em _) 0 _ l.length rfl (Nat.zero_le _) (fun c c' h1 h2 h3 hc => by
  rw [rdF_nat l c h3] at hc
  rw [rdF_nat l c' (by omega)]
  rcases Nat.lt_or_ge c' c with q | q
  ·exact ltP_trans (hlt c' c (by omega) h3 q) hc
  ·have : c' = c := by omega
   subst this
   exact hc)
 have fin : ∀ r : Int × Bool, Ev (fun k => if (t : Int) < (l.length : Int) then (if 0 ≤ (t : Int) then (if (t : Int) < (l.length : Int) then ((tree_Find_1.f k ((rd_T33 l (t : Int)).f0) ((rd_T33 l (t : Int)).f1) ((rd_T33 l (t : Int)).f2) p).bind fun t432 => (some ((t : Int), (t432 == 0)))) else (none)) else (none)) else (some ((t : Int), false))) r → ∀ q : Int, q = (if r.2 = true then r.1 else -1) → Ev (fun k => tree_Find.f k l p) q := by
  intro r h q hq
  have := find_l0 l hl hok p hp t r h l.length 0 l.length (by omega) t1 t2 (Nat.le_refl _) t3
  unfold tree_Find.f api_File_string.f
  refine Ev.bind this ?_
  rw [hq]
  by_cases c : r.2 = true
  ·simp only [c, ↓reduceIte]
   exact Ev.now _
  ·simp only [c, ↓reduceIte, Bool.false_eq_true]
   exact Ev.now _
 have below : ∀ i (hi : i < l.length), i < t → (l[i]'hi).f0 ≠ p := fun i hi hit e => by
  have := (t3 i (Nat.zero_le _) hi).2 hit
  rw [rdF_nat l i hi, e] at this
  exact ltP_irrefl p this
 by_cases c : t < l.length
 ·have c1 : (t : Int) < (l.length : Int) := by omega
  have c2 : (0 : Int) ≤ (t : Int) := by omega
  have hr := rdF_nat l t c
  obtain ⟨u, u1, u2, u3⟩ := cmpS_ev (l[t]'c) p (hok _ (List.getElem_mem c)) hp
  have hE : Ev (fun k => if (t : Int) < (l.length : Int) then (if 0 ≤ (t : Int) then (if (t : Int) < (l.length : Int) then ((tree_Find_1.f k ((rd_T33 l (t : Int)).f0) ((rd_T33 l (t : Int)).f1) ((rd_T33 l (t : Int)).f2) p).bind fun t432 => (some ((t : Int), (t432 == 0)))) else (none)) else (none)) else (some ((t : Int), false))) ((t : Int), (u == 0)) := by
   simp only [c1, c2, ↓reduceIte, hr]
   exact Ev.bind u1 (Ev.now _)
  by_cases q : u = 0
  ·exact .inl ⟨t, c, u3.1 q, fin _ hE _ (by rw [q]; rfl)⟩
  ·refine .inr ⟨fun x hx e => ?_, fin _ hE _ (by rw [beq_eq_false_iff_ne.mpr q]; rfl)⟩
   obtain ⟨i, hi, e1⟩ := List.getElem_of_mem hx
   rw [← e1] at e
   rcases Nat.lt_trichotomy i t with g | g | g
   ·exact below i hi g e
   ·subst g
    exact q (u3.2 e)
   ·have h1 := hlt t i c hi g
    rw [e] at h1
    have := (t3 t (Nat.zero_le _) c).1 (by rw [hr]; exact h1)
    omega
 ·have c1 : ¬ (t : Int) < (l.length : Int) := by omega
  have hE : Ev (fun k => if (t : Int) < (l.length : Int) then (if 0 ≤ (t : Int) then (if (t : Int) < (l.length : Int) then ((tree_Find_1.f k ((rd_T33 l (t : Int)).f0) ((rd_T33 l (t : Int)).f1) ((rd_T33 l (t : Int)).f2) p).bind fun t432 => (some ((t : Int), (t432 == 0)))) else (none)) else (none)) else (some ((t : Int), false))) ((t : Int), false) := by
   simp only [c1, ↓reduceIte]
   exact Ev.now _
  refine .inr ⟨fun x hx e => ?_, fin _ hE _ rfl⟩
  obtain ⟨i, hi, e1⟩ := List.getElem_of_mem hx
  rw [← e1] at e
  exact below i hi (by omega) e
end Go.Proofs.YtmeofdpmddjbgaaDoor.G
end
section
namespace Go.Proofs.YtmeofdpmddjbgaaDoor.G
open Go.RowKit Go.Proofs.YtmeofdpmddjbgaaDoorW.PrintWords Go.Proofs.YtmeofdpmddjbgaaDoorW.PrintLast Go.Proofs.YtmeofdpmddjbgaaDoorW.PrintMore
attribute [local go_sem] max2_int min2_int max_two min_two max_three min_three max_four min_four   -- for this text's walks alone
set_option linter.unusedVariables false
set_option linter.unusedSimpArgs false
/-- The world but for draws. -/
def Drew (w w' : World) : Prop := ∃ m, w' = w.drewN m
theorem Drew.refl (w : World) : Drew w w := ⟨0, rfl⟩
theorem Drew.n {w W : World} (h : Drew w W) (m : Nat) : Drew w (W.drewN m) := by
 obtain ⟨k, rfl⟩ := h
 exact ⟨k + m, World.drewN_drewN _ _ _⟩
theorem Drew.one {w W : World} (h : Drew w W) : Drew w W.drew := Drew.n h 1
set_option maxHeartbeats 8000000 in
set_option maxRecDepth 100000 in
theorem tree_Order.calls_q (k : Nat) (a0 : ByteArray) (a1 : ByteArray) (r : Int) (w : World) (h : tree_Order.f k a0 a1 = some r) :
  Calls Tryd.prog 63 #[.string a0, .string a1] w fun e w' => e = .returned (.int .i64 r) ∧ Drew w w' := by
 have HB := Aside0.mk (Drew.refl w)
 have H : (tree_Order.l0 k a0 a1 (mn (a0.size : Int) (a1.size : Int)) 0) = some r := h
 clear h
 obtain ⟨ji3, hji3⟩ : ∃ j_ : Int, (mn (a0.size : Int) (a1.size : Int)) = j_ := ⟨_, rfl⟩
 replace H : (tree_Order.l0 k a0 a1 ji3 0) = some r := by first | (rw [hji3] at H; exact H) | (simp only [hji3] at H ⊢; exact H)
 (try (have hji3l : 0 ≤ ji3 := by (rw [← hji3]; unfold mn; (repeat' split) <;> omega)))
 (try (have hji3m : 0 ≤ ji3 := by omega))
 have hji3_ : (if (a1.size : Int) < (a0.size : Int) then (a1.size : Int) else (a0.size : Int)) = ji3 := hji3
 have hji3n : (if a1.size < a0.size then (a1.size : Int) else (a0.size : Int)) = ji3 := by rw [← hji3]; unfold mn; simp only [Int.ofNat_lt]
 have H' := Aside0.mk H
 clear H
 go_enter Tryd.func63, Tryd.ntmps63
 go_wp2
 repeat (go_quiet (fail); try go_wp2)
 go_loopg [13] k (fun kq v13 w' => ∃ (x13_1 : Int), v13 = .int .i64 x13_1 ∧ Aside0 (tree_Order.l0 kq a0 a1 ji3 x13_1 = some r) ∧ Aside0 (kq ≤ k) ∧ Aside0 (Drew w w'))
 case atStart => exact ⟨(0), (by first | rfl | (simp; done) | (simp [*]; done)), H', ⟨Nat.le_refl _⟩, ⟨by repeat (first | (with_reducible first | exact HB.out | apply Drew.n | apply Drew.one) | exact HB.out)⟩⟩
 case round =>
  clear H'
  try clear p2
  obtain ⟨x13_1, rfl, HA, HK1, HB⟩ := hrel
  cases gk with
  | zero => exact absurd HA.out (by simp [tree_Order.l0])
  | succ k1 =>
   have H := HA.out
   clear HA
   simp only [tree_Order.l0] at H
   by_cases c4 : x13_1 < ji3
   ·rw [if_pos c4] at H
    have c4b0 : decide (x13_1 < ji3) = true := decide_eq_true c4
    clear c4
    by_cases c5 : 0 ≤ x13_1
    ·rw [if_pos c5] at H
     have c5b0 : decide (0 ≤ x13_1) = true := decide_eq_true c5
     clear c5
     by_cases c6 : x13_1 < (a0.size : Int)
     ·rw [if_pos c6] at H
      have c6b0 : decide (x13_1 < (a0.size : Int)) = true := decide_eq_true c6
      clear c6
      by_cases c8 : x13_1 < (a1.size : Int)
      ·rw [if_pos c8] at H
       have c8b0 : decide (x13_1 < (a1.size : Int)) = true := decide_eq_true c8
       clear c8
       by_cases c10 : (wrap64 (bt a0 x13_1)) = (wrap64 (bt a1 x13_1))
       ·rw [if_pos c10] at H
        have c10b0 : ((wrap64 (bt a0 x13_1)) == (wrap64 (bt a1 x13_1))) = true := beq_iff_eq.mpr c10
        have c10b1 : ((wrap64 (bt a0 x13_1)) != (wrap64 (bt a1 x13_1))) = false := bne_eq_false_iff_eq.mpr c10
        clear c10
        have H' := Aside0.mk H
        clear H
        have p7 : 0 ≤ (x13_1 : Int) := of_decide_eq_true (by first | (with_reducible assumption) | assumption)
        have q7 : x13_1 < (a0.size : Int) := of_decide_eq_true (by first | (with_reducible assumption) | assumption)
        have hx7 := bt_at a0 x13_1
        replace p7 := eq_true p7
        replace q7 := eq_true q7
        have p9 : 0 ≤ (x13_1 : Int) := of_decide_eq_true (by first | (with_reducible assumption) | assumption)
        have q9 : x13_1 < (a1.size : Int) := of_decide_eq_true (by first | (with_reducible assumption) | assumption)
        have hx9 := bt_at a1 x13_1
        replace p9 := eq_true p9
        replace q9 := eq_true q9
        go_wp2
        repeat (go_quiet (fail); try go_wp2)
        go_roundg k1
        case measure => have := HK1.out; omega
        case rel => exact ⟨(wrap64 (x13_1 + 1)), (by first | rfl | (simp; done) | (simp [*]; done)), H', ⟨by have := HK1.out; omega⟩, ⟨by repeat (first | (with_reducible first | exact HB.out | apply Drew.n | apply Drew.one) | exact HB.out)⟩⟩
       ·rw [if_neg c10] at H
        have c10b0 : ((wrap64 (bt a0 x13_1)) == (wrap64 (bt a1 x13_1))) = false := beq_eq_false_iff_ne.mpr c10
        have c10b1 : ((wrap64 (bt a0 x13_1)) != (wrap64 (bt a1 x13_1))) = true := bne_iff_ne.mpr c10
        by_cases c11 : (wrap64 (bt a0 x13_1)) = 47
        ·rw [if_pos c11] at H
         have c11b0 : ((wrap64 (bt a0 x13_1)) == 47) = true := beq_iff_eq.mpr c11
         have c11b1 : ((wrap64 (bt a0 x13_1)) != 47) = false := bne_eq_false_iff_eq.mpr c11
         clear c11
         obtain rfl := Option.some.inj H
         have p7 : 0 ≤ (x13_1 : Int) := of_decide_eq_true (by first | (with_reducible assumption) | assumption)
         have q7 : x13_1 < (a0.size : Int) := of_decide_eq_true (by first | (with_reducible assumption) | assumption)
         have hx7 := bt_at a0 x13_1
         replace p7 := eq_true p7
         replace q7 := eq_true q7
         have p9 : 0 ≤ (x13_1 : Int) := of_decide_eq_true (by first | (with_reducible assumption) | assumption)
         have q9 : x13_1 < (a1.size : Int) := of_decide_eq_true (by first | (with_reducible assumption) | assumption)
         have hx9 := bt_at a1 x13_1
         replace p9 := eq_true p9
         replace q9 := eq_true q9
         go_wp2
         repeat (go_quiet (fail); try go_wp2)
         go_ret
         exact ⟨by first | rfl | (simp [errW_none, errW_some] <;> rfl) | (simp only [← hji3]; first | rfl | (simp [errW_none, errW_some] <;> rfl)) | (simp [*, errW_none, errW_some] <;> rfl), by repeat (first | (with_reducible first | exact HB.out | apply Drew.n | apply Drew.one) | exact HB.out)⟩
        ·rw [if_neg c11] at H
         have c11b0 : ((wrap64 (bt a0 x13_1)) == 47) = false := beq_eq_false_iff_ne.mpr c11
         have c11b1 : ((wrap64 (bt a0 x13_1)) != 47) = true := bne_iff_ne.mpr c11
         by_cases c12 : (wrap64 (bt a1 x13_1)) = 47
         ·rw [if_pos c12] at H
          have c12b0 : ((wrap64 (bt a1 x13_1)) == 47) = true := beq_iff_eq.mpr c12
          have c12b1 : ((wrap64 (bt a1 x13_1)) != 47) = false := bne_eq_false_iff_eq.mpr c12
          clear c12
          obtain rfl := Option.some.inj H
          have p7 : 0 ≤ (x13_1 : Int) := of_decide_eq_true (by first | (with_reducible assumption) | assumption)
          have q7 : x13_1 < (a0.size : Int) := of_decide_eq_true (by first | (with_reducible assumption) | assumption)
          have hx7 := bt_at a0 x13_1
          replace p7 := eq_true p7
          replace q7 := eq_true q7
          have p9 : 0 ≤ (x13_1 : Int) := of_decide_eq_true (by first | (with_reducible assumption) | assumption)
          have q9 : x13_1 < (a1.size : Int) := of_decide_eq_true (by first | (with_reducible assumption) | assumption)
          have hx9 := bt_at a1 x13_1
          replace p9 := eq_true p9
          replace q9 := eq_true q9
          go_wp2
          repeat (go_quiet (fail); try go_wp2)
          go_ret
          exact ⟨by first | rfl | (simp [errW_none, errW_some] <;> rfl) | (simp only [← hji3]; first | rfl | (simp [errW_none, errW_some] <;> rfl)) | (simp [*, errW_none, errW_some] <;> rfl), by repeat (first | (with_reducible first | exact HB.out | apply Drew.n | apply Drew.one) | exact HB.out)⟩
         ·rw [if_neg c12] at H
          have c12b0 : ((wrap64 (bt a1 x13_1)) == 47) = false := beq_eq_false_iff_ne.mpr c12
          have c12b1 : ((wrap64 (bt a1 x13_1)) != 47) = true := bne_iff_ne.mpr c12
          obtain rfl := Option.some.inj H
          have p7 : 0 ≤ (x13_1 : Int) := of_decide_eq_true (by first | (with_reducible assumption) | assumption)
          have q7 : x13_1 < (a0.size : Int) := of_decide_eq_true (by first | (with_reducible assumption) | assumption)
          have hx7 := bt_at a0 x13_1
          replace p7 := eq_true p7
          replace q7 := eq_true q7
          have p9 : 0 ≤ (x13_1 : Int) := of_decide_eq_true (by first | (with_reducible assumption) | assumption)
          have q9 : x13_1 < (a1.size : Int) := of_decide_eq_true (by first | (with_reducible assumption) | assumption)
          have hx9 := bt_at a1 x13_1
          replace p9 := eq_true p9
          replace q9 := eq_true q9
          go_wp2
          repeat (go_quiet (fail); try go_wp2)
          go_ret
          exact ⟨by first | rfl | (simp [errW_none, errW_some] <;> rfl) | (simp only [← hji3]; first | rfl | (simp [errW_none, errW_some] <;> rfl)) | (simp [*, errW_none, errW_some] <;> rfl), by repeat (first | (with_reducible first | exact HB.out | apply Drew.n | apply Drew.one) | exact HB.out)⟩
      ·rw [if_neg c8] at H
       exact absurd H (by simp)
     ·rw [if_neg c6] at H
      exact absurd H (by simp)
    ·rw [if_neg c5] at H
     exact absurd H (by simp)
   ·rw [if_neg c4] at H
    have c4b0 : decide (x13_1 < ji3) = false := decide_eq_false c4
    clear c4
    obtain rfl := Option.some.inj H
    go_wp2
    repeat (go_quiet (fail); try go_wp2)
    go_ret
    exact ⟨by first | rfl | (simp [errW_none, errW_some] <;> rfl) | (simp only [← hji3]; first | rfl | (simp [errW_none, errW_some] <;> rfl)) | (simp [*, errW_none, errW_some] <;> rfl), by repeat (first | (with_reducible first | exact HB.out | apply Drew.n | apply Drew.one) | exact HB.out)⟩
end Go.Proofs.YtmeofdpmddjbgaaDoor.G
end
