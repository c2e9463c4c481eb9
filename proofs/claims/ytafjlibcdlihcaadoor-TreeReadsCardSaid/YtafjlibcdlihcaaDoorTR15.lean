/- Texts of this session's claim of TreeReads, less what its theorem does not reach. No condition. -/
import Derived.Laws.BitsLemmas
import Derived.Laws.Externs
import Derived.Laws.IdiomCopy
import Derived.Lib.AppendStr
import Derived.Lib.Builder
import Derived.Lib.FrozenHead
import Derived.Lib.MakeNoZero
import Derived.Lib.OthersKept
import Derived.Lib.Slices
import Derived.Lib.Strings
import Derived.Lib.UnsafeStr
import Derived.Lib.Walk
import Derived.RegionTactic
import Derived.Shelf.Strings.Builder1
import Derived.Test.YtafjlibcdlihcaaDoorProg
import Derived.WalkKit
import Derived.Test.YtafjlibcdlihcaaDoorTR1
import Derived.Test.YtafjlibcdlihcaaDoorTR12
import Derived.Test.YtafjlibcdlihcaaDoorTR14
section
namespace Go.Proofs.YtafjlibcdlihcaaDoor.G
open Go.RowKit Go.Proofs.YtafjlibcdlihcaaDoorW.PrintWords Go.Proofs.YtafjlibcdlihcaaDoorW.PrintLast Go.Proofs.YtafjlibcdlihcaaDoorW.PrintMore
attribute [local go_sem] max2_int min2_int max_two min_two max_three min_three max_four min_four   -- for this text's walks alone
set_option linter.unusedVariables false
set_option linter.unusedSimpArgs false
mutual
def barqueref09_together.l0 : Nat → List ByteArray → Int → Option (Int)
 | 0, _, _ => none
 | k + 1, x0, x3 => if x3 < (x0.length : Int) then (if 0 ≤ x3 then ((barqueref09_Path.f k (rdOf ByteArray.empty x0 x3)).bind fun t209 => (if t209 = 0 then (if x3 > 0 then (if 0 ≤ (wrap64 (x3 - 1)) then (if (wrap64 (x3 - 1)) < (x0.length : Int) then ((barqueref09_Order.f k (rdOf ByteArray.empty x0 x3) (rdOf ByteArray.empty x0 (wrap64 (x3 - 1)))).bind fun t212 => (barqueref09_together.j1 k x0 x3 (decide (t212 < 0)))) else (none)) else (none)) else (barqueref09_together.j1 k x0 x3 false)) else (some t209))) else (none)) else (some 0)
def barqueref09_together.j1 : Nat → List ByteArray → Int → Bool → Option (Int)
 | 0, _, _, _ => none
 | k + 1, x0, x3, x36 => if x36 = true then (some 12) else (if x3 > 0 then (if 0 ≤ x3 then (if x3 < (x0.length : Int) then (if 0 ≤ (wrap64 (x3 - 1)) then (if (wrap64 (x3 - 1)) < (x0.length : Int) then (if (rdOf ByteArray.empty x0 x3).toList = (rdOf ByteArray.empty x0 (wrap64 (x3 - 1))).toList then (some 9) else ((barqueref09_Within.f (rdOf ByteArray.empty x0 x3) (rdOf ByteArray.empty x0 (wrap64 (x3 - 1)))).bind fun t217 => (if t217 = true then (some 9) else (barqueref09_together.l0 k x0 (wrap64 (x3 + 1)))))) else (none)) else (none)) else (none)) else (none)) else (barqueref09_together.l0 k x0 (wrap64 (x3 + 1))))
end
def barqueref09_together.f (k : Nat) (l0 : List ByteArray) : Option (Int) := if (l0.length : Int) > 256 then (some 7) else (barqueref09_together.l0 k l0 0)
theorem barqueref09_together.mono_l : ∀ k, (∀ y0 y1, LeO (barqueref09_together.l0 k y0 y1) (barqueref09_together.l0 (k + 1) y0 y1)) ∧ (∀ y0 y1 y2, LeO (barqueref09_together.j1 k y0 y1 y2) (barqueref09_together.j1 (k + 1) y0 y1 y2))
 | 0 => ⟨fun _ _ r h => by simp [barqueref09_together.l0] at h, fun _ _ _ r h => by simp [barqueref09_together.j1] at h⟩
 | k + 1 => by
  obtain ⟨ih0, ih1⟩ := barqueref09_together.mono_l k
  refine ⟨?_, ?_⟩
  ·intro y0 y1
   unfold barqueref09_together.l0
   repeat' first
   | (with_reducible exact ih0 _ _)
   | (with_reducible exact ih1 _ _ _)
   | (with_reducible exact barqueref09_Order.mono _ _ _)
   | (with_reducible exact barqueref09_Path.mono _ _)
   | (with_reducible exact LeO.refl _)
   | (with_reducible exact LeO.none _)
   | (with_reducible refine LeO.ite ?_ ?_)
   | (with_reducible refine LeO.bind ?_ (fun _ => ?_))
   | exact ih0 _ _
   | exact ih1 _ _ _
   | exact barqueref09_Order.mono _ _ _
   | exact barqueref09_Path.mono _ _
   | exact LeO.none _
   | refine LeO.ite ?_ ?_
   | refine LeO.bind ?_ (fun _ => ?_)
  ·intro y0 y1 y2
   unfold barqueref09_together.j1
   repeat' first
   | (with_reducible exact ih0 _ _)
   | (with_reducible exact ih1 _ _ _)
   | (with_reducible exact barqueref09_Order.mono _ _ _)
   | (with_reducible exact barqueref09_Path.mono _ _)
   | (with_reducible exact LeO.refl _)
   | (with_reducible exact LeO.none _)
   | (with_reducible refine LeO.ite ?_ ?_)
   | (with_reducible refine LeO.bind ?_ (fun _ => ?_))
   | exact ih0 _ _
   | exact ih1 _ _ _
   | exact barqueref09_Order.mono _ _ _
   | exact barqueref09_Path.mono _ _
   | exact LeO.none _
   | refine LeO.ite ?_ ?_
   | refine LeO.bind ?_ (fun _ => ?_)
theorem barqueref09_together.mono : ∀ a0 k, LeO (barqueref09_together.f k a0) (barqueref09_together.f (k + 1) a0) := by
 intro a0 k
 obtain ⟨ih0, ih1⟩ := barqueref09_together.mono_l k
 unfold barqueref09_together.f
 repeat' first
   | (with_reducible exact ih0 _ _)
   | (with_reducible exact ih1 _ _ _)
   | (with_reducible exact barqueref09_Order.mono _ _ _)
   | (with_reducible exact barqueref09_Path.mono _ _)
   | (with_reducible exact LeO.refl _)
   | (with_reducible exact LeO.none _)
   | (with_reducible refine LeO.ite ?_ ?_)
   | (with_reducible refine LeO.bind ?_ (fun _ => ?_))
   | exact ih0 _ _
   | exact ih1 _ _ _
   | exact barqueref09_Order.mono _ _ _
   | exact barqueref09_Path.mono _ _
   | exact LeO.none _
   | refine LeO.ite ?_ ?_
   | refine LeO.bind ?_ (fun _ => ?_)
set_option maxHeartbeats 8000000 in
set_option maxRecDepth 100000 in
theorem barqueref09_together.calls (k : Nat) (A0 : Option Addr) (c0 : Nat) (l0 : List ByteArray) (r : Int) (w : World) (hr0 : Kd.C Kd.string w A0 l0.length l0) (hc0 : l0.length ≤ c0) (h : barqueref09_together.f k l0 = some r) :
  Calls Tryd.prog 50 #[.slice A0 l0.length c0] w fun e w' => e = .returned (.int .i64 r) ∧ Below w.heap.size w w' := by
 have HR0 := Aside0.mk hr0
 have HC0 := Aside0.mk hc0
 clear hr0 hc0
 have HB := Aside0.mk (Below.refl w.heap.size w)
 have H : (if (l0.length : Int) > 256 then (some 7) else (barqueref09_together.l0 k l0 0)) = some r := h
 clear h
 by_cases c2 : (l0.length : Int) > 256
 ·rw [if_pos c2] at H
  have c2b0 : decide (256 < (l0.length : Int)) = true := decide_eq_true c2
  have c2b1 : decide (256 < l0.length) = true := decide_eq_true (by omega)
  clear c2
  obtain rfl := Option.some.inj H
  go_enter Tryd.func50, Tryd.ntmps50
  go_wp2
  repeat (go_quiet (fail); try go_wp2)
  go_ret
  exact ⟨by first | rfl | (simp [errW_none, errW_some] <;> rfl) | (simp [*, errW_none, errW_some] <;> rfl), by repeat (first | (with_reducible first | exact HB.out | apply below_alloc | apply pw_below_drewN | apply below_drew1) | exact HB.out)⟩
 ·rw [if_neg c2] at H
  have c2b0 : decide (256 < (l0.length : Int)) = false := decide_eq_false c2
  have c2b1 : decide (256 < l0.length) = false := decide_eq_false (by omega)
  clear c2
  have H' := Aside0.mk H
  clear H
  go_enter Tryd.func50, Tryd.ntmps50
  go_wp2
  repeat (go_quiet (fail); try go_wp2)
  go_loopg [3] k (fun kq v3 w' => ∃ (x3_1 : Int), v3 = .int .i64 x3_1 ∧ Aside0 (barqueref09_together.l0 kq l0 x3_1 = some r) ∧ Aside0 (kq ≤ k) ∧ Aside0 (Below w.heap.size w w'))
  case atStart => exact ⟨(0), (by first | rfl | (simp; done) | (simp [*]; done)), H', ⟨Nat.le_refl _⟩, ⟨by repeat (first | (with_reducible first | exact HB.out | apply below_alloc | apply pw_below_drewN | apply below_drew1) | exact HB.out)⟩⟩
  case round =>
   clear H'
   try clear c2
   try clear c2b0
   try clear c2b1
   try clear p2
   obtain ⟨x3_1, rfl, HA, HK1, HB⟩ := hrel
   cases gk with
   | zero => exact absurd HA.out (by simp [barqueref09_together.l0])
   | succ k1 =>
    have H := HA.out
    clear HA
    simp only [barqueref09_together.l0] at H
    by_cases c3 : x3_1 < (l0.length : Int)
    ·rw [if_pos c3] at H
     have c3b0 : decide (x3_1 < (l0.length : Int)) = true := decide_eq_true c3
     clear c3
     by_cases c4 : 0 ≤ x3_1
     ·rw [if_pos c4] at H
      have c4b0 : decide (0 ≤ x3_1) = true := decide_eq_true c4
      clear c4
      replace H := Option.bind_eq_some_iff.mp H
      obtain ⟨t209, A50, H⟩ := H
      replace H : (if t209 = 0 then (if x3_1 > 0 then (if 0 ≤ (wrap64 (x3_1 - 1)) then (if (wrap64 (x3_1 - 1)) < (l0.length : Int) then ((barqueref09_Order.f k1 (rdOf ByteArray.empty l0 x3_1) (rdOf ByteArray.empty l0 (wrap64 (x3_1 - 1)))).bind fun t212 => (barqueref09_together.j1 k1 l0 x3_1 (decide (t212 < 0)))) else (none)) else (none)) else (barqueref09_together.j1 k1 l0 x3_1 false)) else (some t209)) = some r := H
      have A5 := Aside0.mk A50
      clear A50
      by_cases c6 : t209 = 0
      ·rw [if_pos c6] at H
       have c6b0 : (t209 == 0) = true := beq_iff_eq.mpr c6
       have c6b1 : (t209 != 0) = false := bne_eq_false_iff_eq.mpr c6
       clear c6
       have HC7 := Aside0.mk H
       clear H
       have p208 : 0 ≤ (x3_1 : Int) := of_decide_eq_true (by first | (with_reducible assumption) | assumption)
       have q208 : x3_1 < (l0.length : Int) := of_decide_eq_true (by first | (with_reducible assumption) | assumption)
       obtain ⟨ad208, e208, hx208_0⟩ := Kd.at_string HR0.out x3_1 p208 q208
       cases e208
       replace hx208_0 := (HB.out.cell (World.block_lt_of_cell? w _ hx208_0)).trans hx208_0
       replace p208 := eq_true p208
       replace q208 := eq_true q208
       go_upto_region 9 with (first | (go_at_call 15; (with_reducible refine (barqueref09_Path.calls k1 (rdOf ByteArray.empty l0 x3_1) t209 _ A5.out).mono ?_); rintro e w8 ⟨rfl, hb⟩; have n0_ := Aside0.mk (below_step (by repeat (first | (with_reducible first | exact HB.out | apply below_alloc | apply pw_below_drewN | apply below_drew1) | exact HB.out)) hb); clear HB; have HB := n0_; clear n0_; (try clear hb); (try clear hb2); (try clear hk); (try clear hi)))
       repeat (go_quiet (first | (go_at_call 15; (with_reducible refine (barqueref09_Path.calls k1 (rdOf ByteArray.empty l0 x3_1) t209 _ A5.out).mono ?_); rintro e w8 ⟨rfl, hb⟩; have n0_ := Aside0.mk (below_step (by repeat (first | (with_reducible first | exact HB.out | apply below_alloc | apply pw_below_drewN | apply below_drew1) | exact HB.out)) hb); clear HB; have HB := n0_; clear n0_; (try clear hb); (try clear hb2); (try clear hk); (try clear hi))); go_upto_region 9 with (first | (go_at_call 15; (with_reducible refine (barqueref09_Path.calls k1 (rdOf ByteArray.empty l0 x3_1) t209 _ A5.out).mono ?_); rintro e w8 ⟨rfl, hb⟩; have n0_ := Aside0.mk (below_step (by repeat (first | (with_reducible first | exact HB.out | apply below_alloc | apply pw_below_drewN | apply below_drew1) | exact HB.out)) hb); clear HB; have HB := n0_; clear n0_; (try clear hb); (try clear hb2); (try clear hk); (try clear hi))))
       (try simp only [Act.put, List.setIfInBounds_toArray, List.set_cons_zero, List.set_cons_succ])
       go_cut [36] (fun v36 wc => ∃ (kq : Nat) (x36_6 : Bool), v36 = .bool x36_6 ∧ Aside0 (barqueref09_together.j1 kq l0 x3_1 x36_6 = some r) ∧ Aside0 (kq ≤ k1) ∧ Aside0 (Below w.heap.size w wc))
       case first =>
        have H := HC7.out
        clear HC7
        by_cases c9 : x3_1 > 0
        ·rw [if_pos c9] at H
         have c9b0 : decide (0 < x3_1) = true := decide_eq_true c9
         clear c9
         (first | rw [c9b0] | (simp only [i64_w, i32_w]; rw [c9b0]) | skip)
         obtain ⟨ji10, hji10⟩ : ∃ j_ : Int, (wrap64 (x3_1 - 1)) = j_ := ⟨_, rfl⟩
         replace H : (if 0 ≤ (ji10) then (if (ji10) < (l0.length : Int) then ((barqueref09_Order.f k1 (rdOf ByteArray.empty l0 x3_1) (rdOf ByteArray.empty l0 (ji10))).bind fun t212 => (barqueref09_together.j1 k1 l0 x3_1 (decide (t212 < 0)))) else (none)) else (none)) = some r := by first | (rw [hji10] at H; exact H) | (simp only [hji10] at H ⊢; exact H)
         have hji10w : (IntKind.i64.wrap (x3_1 - 1)) = ji10 := (i64_w _).trans hji10
         by_cases c11 : 0 ≤ (ji10)
         ·rw [if_pos c11] at H
          have c11b0 : decide (0 ≤ (ji10)) = true := decide_eq_true c11
          clear c11
          by_cases c12 : (ji10) < (l0.length : Int)
          ·rw [if_pos c12] at H
           have c12b0 : decide ((ji10) < (l0.length : Int)) = true := decide_eq_true c12
           clear c12
           replace H := Option.bind_eq_some_iff.mp H
           obtain ⟨t212, A130, H⟩ := H
           replace H : (barqueref09_together.j1 k1 l0 x3_1 (decide (t212 < 0))) = some r := H
           have A13 := Aside0.mk A130
           clear A130
           have H' := Aside0.mk H
           clear H
           have p210 : 0 ≤ (x3_1 : Int) := of_decide_eq_true (by first | (with_reducible assumption) | assumption)
           have q210 : x3_1 < (l0.length : Int) := of_decide_eq_true (by first | (with_reducible assumption) | assumption)
           obtain ⟨ad210, e210, hx210_0⟩ := Kd.at_string HR0.out x3_1 p210 q210
           obtain rfl : ad208 = ad210 := (by injection e210)
           replace hx210_0 := (HB.out.cell (World.block_lt_of_cell? w _ hx210_0)).trans hx210_0
           replace p210 := eq_true p210
           replace q210 := eq_true q210
           have p211 : 0 ≤ ((ji10) : Int) := of_decide_eq_true (by first | (with_reducible assumption) | assumption)
           have q211 : (ji10) < (l0.length : Int) := of_decide_eq_true (by first | (with_reducible assumption) | assumption)
           obtain ⟨ad211, e211, hx211_0⟩ := Kd.at_string HR0.out (ji10) p211 q211
           obtain rfl : ad208 = ad211 := (by injection e211)
           replace hx211_0 := (HB.out.cell (World.block_lt_of_cell? w _ hx211_0)).trans hx211_0
           replace p211 := eq_true p211
           replace q211 := eq_true q211
           go_wp2_with (first | (go_at_call 84; (with_reducible refine (barqueref09_Order.calls k1 (rdOf ByteArray.empty l0 x3_1) (rdOf ByteArray.empty l0 (ji10)) t212 _ A13.out).mono ?_); rintro e w' ⟨rfl, ⟨nd, rfl⟩⟩; (try first | exact ⟨rfl, _, World.drewN_drewN _ _ _⟩ | exact ⟨rfl, _, Eq.trans (World.drewN_drewN _ _ _) (congrArg (World.drewN _) (Nat.add_assoc _ _ _))⟩)))
           repeat (go_quiet (first | (go_at_call 84; (with_reducible refine (barqueref09_Order.calls k1 (rdOf ByteArray.empty l0 x3_1) (rdOf ByteArray.empty l0 (ji10)) t212 _ A13.out).mono ?_); rintro e w' ⟨rfl, ⟨nd, rfl⟩⟩; (try first | exact ⟨rfl, _, World.drewN_drewN _ _ _⟩ | exact ⟨rfl, _, Eq.trans (World.drewN_drewN _ _ _) (congrArg (World.drewN _) (Nat.add_assoc _ _ _))⟩))); try go_wp2_with (first | (go_at_call 84; (with_reducible refine (barqueref09_Order.calls k1 (rdOf ByteArray.empty l0 x3_1) (rdOf ByteArray.empty l0 (ji10)) t212 _ A13.out).mono ?_); rintro e w' ⟨rfl, ⟨nd, rfl⟩⟩; (try first | exact ⟨rfl, _, World.drewN_drewN _ _ _⟩ | exact ⟨rfl, _, Eq.trans (World.drewN_drewN _ _ _) (congrArg (World.drewN _) (Nat.add_assoc _ _ _))⟩))))
           go_meet
           case rel => exact ⟨_, (decide (t212 < 0)), (by first | rfl | (simp; done) | (simp [*]; done)), H', ⟨by have := HK1.out; first | omega | exact Nat.le_refl _⟩, ⟨by repeat (first | (with_reducible first | exact HB.out | apply below_alloc | apply pw_below_drewN | apply below_drew1) | exact HB.out)⟩⟩
          ·rw [if_neg c12] at H
           exact absurd H (by simp)
         ·rw [if_neg c11] at H
          exact absurd H (by simp)
        ·rw [if_neg c9] at H
         have c9b0 : decide (0 < x3_1) = false := decide_eq_false c9
         clear c9
         (first | rw [c9b0] | (simp only [i64_w, i32_w]; rw [c9b0]) | skip)
         have H' := Aside0.mk H
         clear H
         go_wp2
         repeat (go_quiet (fail); try go_wp2)
         go_meet
         case rel => exact ⟨_, (false), (by first | rfl | (simp; done) | (simp [*]; done)), H', ⟨by have := HK1.out; first | omega | exact Nat.le_refl _⟩, ⟨by repeat (first | (with_reducible first | exact HB.out | apply below_alloc | apply pw_below_drewN | apply below_drew1) | exact HB.out)⟩⟩
       case rest =>
        clear HC7
        try clear c1
        try clear c2
        try clear c2b0
        try clear c2b1
        try clear p2
        try clear q2
        try clear hx2
        try clear c3
        try clear c3b0
        try clear c4
        try clear c4b0
        try clear c5
        try clear c6
        try clear c6b0
        try clear c6b1
        try clear p6
        try clear c9
        try clear c9b0
        try clear c11
        try clear c11b0
        try clear c12
        try clear c12b0
        try clear hx208_0
        try clear hx210_0
        try clear hx211_0
        try clear p2
        try clear p208
        try clear p210
        try clear p211
        try clear q208
        try clear q210
        try clear q211
        obtain ⟨kq, x36_6, rfl, HA, HJ6, HB⟩ := hcut
        cases kq with
        | zero => exact absurd HA.out (by simp [barqueref09_together.j1])
        | succ kj6 =>
         have H := HA.out
         clear HA
         simp only [barqueref09_together.j1] at H
         by_cases c14 : x36_6 = true
         ·subst c14
          have H1 : (some 12) = some r := by rw [if_pos rfl] at H; exact H
          clear H
          have H := H1
          clear H1
          obtain rfl := Option.some.inj H
          go_wp2
          repeat (go_quiet (fail); try go_wp2)
          go_ret
          exact ⟨by first | rfl | (simp [errW_none, errW_some] <;> rfl) | (simp [*, errW_none, errW_some] <;> rfl), by repeat (first | (with_reducible first | exact HB.out | apply below_alloc | apply pw_below_drewN | apply below_drew1) | exact HB.out)⟩
         ·replace c14 := Bool.eq_false_iff.mpr c14
          subst c14
          have H1 : (if x3_1 > 0 then (if 0 ≤ x3_1 then (if x3_1 < (l0.length : Int) then (if 0 ≤ (wrap64 (x3_1 - 1)) then (if (wrap64 (x3_1 - 1)) < (l0.length : Int) then (if (rdOf ByteArray.empty l0 x3_1).toList = (rdOf ByteArray.empty l0 (wrap64 (x3_1 - 1))).toList then (some 9) else ((barqueref09_Within.f (rdOf ByteArray.empty l0 x3_1) (rdOf ByteArray.empty l0 (wrap64 (x3_1 - 1)))).bind fun t217 => (if t217 = true then (some 9) else (barqueref09_together.l0 kj6 l0 (wrap64 (x3_1 + 1)))))) else (none)) else (none)) else (none)) else (none)) else (barqueref09_together.l0 kj6 l0 (wrap64 (x3_1 + 1)))) = some r := by rw [if_neg (show ¬ (false = true) by decide)] at H; exact H
          clear H
          have H := H1
          clear H1
          by_cases c15 : x3_1 > 0
          ·rw [if_pos c15] at H
           have c15b0 : decide (0 < x3_1) = true := decide_eq_true c15
           clear c15
           by_cases c16 : 0 ≤ x3_1
           ·rw [if_pos c16] at H
            have c16b0 : decide (0 ≤ x3_1) = true := decide_eq_true c16
            clear c16
            by_cases c17 : x3_1 < (l0.length : Int)
            ·rw [if_pos c17] at H
             have c17b0 : decide (x3_1 < (l0.length : Int)) = true := decide_eq_true c17
             clear c17
             obtain ⟨ji18, hji18⟩ : ∃ j_ : Int, (wrap64 (x3_1 - 1)) = j_ := ⟨_, rfl⟩
             (try (have hjq_ : ji18 = ji10 := hji18.symm.trans hji10; subst hjq_))
             replace H : (if 0 ≤ (ji18) then (if (ji18) < (l0.length : Int) then (if (rdOf ByteArray.empty l0 x3_1).toList = (rdOf ByteArray.empty l0 (ji18)).toList then (some 9) else ((barqueref09_Within.f (rdOf ByteArray.empty l0 x3_1) (rdOf ByteArray.empty l0 (ji18))).bind fun t217 => (if t217 = true then (some 9) else (barqueref09_together.l0 kj6 l0 (wrap64 (x3_1 + 1)))))) else (none)) else (none)) = some r := by first | (rw [hji18] at H; exact H) | (simp only [hji18] at H ⊢; exact H)
             have hji18w : (IntKind.i64.wrap (x3_1 - 1)) = ji18 := (i64_w _).trans hji18
             by_cases c19 : 0 ≤ (ji18)
             ·rw [if_pos c19] at H
              have c19b0 : decide (0 ≤ (ji18)) = true := decide_eq_true c19
              clear c19
              by_cases c20 : (ji18) < (l0.length : Int)
              ·rw [if_pos c20] at H
               have c20b0 : decide ((ji18) < (l0.length : Int)) = true := decide_eq_true c20
               clear c20
               by_cases c21 : (rdOf ByteArray.empty l0 x3_1).toList = (rdOf ByteArray.empty l0 (ji18)).toList
               ·rw [if_pos c21] at H
                have c21b0 : ((rdOf ByteArray.empty l0 x3_1).toList == (rdOf ByteArray.empty l0 (ji18)).toList) = true := beq_iff_eq.mpr c21
                have c21b1 : ((rdOf ByteArray.empty l0 x3_1).toList != (rdOf ByteArray.empty l0 (ji18)).toList) = false := bne_eq_false_iff_eq.mpr c21
                clear c21
                obtain rfl := Option.some.inj H
                have p213 : 0 ≤ (x3_1 : Int) := of_decide_eq_true (by first | (with_reducible assumption) | assumption)
                have q213 : x3_1 < (l0.length : Int) := of_decide_eq_true (by first | (with_reducible assumption) | assumption)
                obtain ⟨ad213, e213, hx213_0⟩ := Kd.at_string HR0.out x3_1 p213 q213
                obtain rfl : ad208 = ad213 := (by injection e213)
                replace hx213_0 := (HB.out.cell (World.block_lt_of_cell? w _ hx213_0)).trans hx213_0
                replace p213 := eq_true p213
                replace q213 := eq_true q213
                have p214 : 0 ≤ ((ji18) : Int) := of_decide_eq_true (by first | (with_reducible assumption) | assumption)
                have q214 : (ji18) < (l0.length : Int) := of_decide_eq_true (by first | (with_reducible assumption) | assumption)
                obtain ⟨ad214, e214, hx214_0⟩ := Kd.at_string HR0.out (ji18) p214 q214
                obtain rfl : ad208 = ad214 := (by injection e214)
                replace hx214_0 := (HB.out.cell (World.block_lt_of_cell? w _ hx214_0)).trans hx214_0
                replace p214 := eq_true p214
                replace q214 := eq_true q214
                go_wp2
                repeat (go_quiet (fail); try go_wp2)
                go_ret
                exact ⟨by first | rfl | (simp [errW_none, errW_some] <;> rfl) | (simp only [← hji18]; first | rfl | (simp [errW_none, errW_some] <;> rfl)) | (simp [*, errW_none, errW_some] <;> rfl), by repeat (first | (with_reducible first | exact HB.out | apply below_alloc | apply pw_below_drewN | apply below_drew1) | exact HB.out)⟩
               ·rw [if_neg c21] at H
                have c21b0 : ((rdOf ByteArray.empty l0 x3_1).toList == (rdOf ByteArray.empty l0 (ji18)).toList) = false := beq_eq_false_iff_ne.mpr c21
                have c21b1 : ((rdOf ByteArray.empty l0 x3_1).toList != (rdOf ByteArray.empty l0 (ji18)).toList) = true := bne_iff_ne.mpr c21
                replace H := Option.bind_eq_some_iff.mp H
                obtain ⟨t217, A220, H⟩ := H
                replace H : (if t217 = true then (some 9) else (barqueref09_together.l0 kj6 l0 (wrap64 (x3_1 + 1)))) = some r := H
                have A22 := Aside0.mk A220
                clear A220
                by_cases c23 : t217 = true
                ·subst c23
                 have H1 : (some 9) = some r := by rw [if_pos rfl] at H; exact H
                 clear H
                 have H := H1
                 clear H1
                 obtain rfl := Option.some.inj H
                 have p213 : 0 ≤ (x3_1 : Int) := of_decide_eq_true (by first | (with_reducible assumption) | assumption)
                 have q213 : x3_1 < (l0.length : Int) := of_decide_eq_true (by first | (with_reducible assumption) | assumption)
                 obtain ⟨ad213, e213, hx213_0⟩ := Kd.at_string HR0.out x3_1 p213 q213
                 obtain rfl : ad208 = ad213 := (by injection e213)
                 replace hx213_0 := (HB.out.cell (World.block_lt_of_cell? w _ hx213_0)).trans hx213_0
                 replace p213 := eq_true p213
                 replace q213 := eq_true q213
                 have p214 : 0 ≤ ((ji18) : Int) := of_decide_eq_true (by first | (with_reducible assumption) | assumption)
                 have q214 : (ji18) < (l0.length : Int) := of_decide_eq_true (by first | (with_reducible assumption) | assumption)
                 obtain ⟨ad214, e214, hx214_0⟩ := Kd.at_string HR0.out (ji18) p214 q214
                 obtain rfl : ad208 = ad214 := (by injection e214)
                 replace hx214_0 := (HB.out.cell (World.block_lt_of_cell? w _ hx214_0)).trans hx214_0
                 replace p214 := eq_true p214
                 replace q214 := eq_true q214
                 have p215 : 0 ≤ (x3_1 : Int) := of_decide_eq_true (by first | (with_reducible assumption) | assumption)
                 have q215 : x3_1 < (l0.length : Int) := of_decide_eq_true (by first | (with_reducible assumption) | assumption)
                 obtain ⟨ad215, e215, hx215_0⟩ := Kd.at_string HR0.out x3_1 p215 q215
                 obtain rfl : ad208 = ad215 := (by injection e215)
                 replace hx215_0 := (HB.out.cell (World.block_lt_of_cell? w _ hx215_0)).trans hx215_0
                 replace p215 := eq_true p215
                 replace q215 := eq_true q215
                 have p216 : 0 ≤ ((ji18) : Int) := of_decide_eq_true (by first | (with_reducible assumption) | assumption)
                 have q216 : (ji18) < (l0.length : Int) := of_decide_eq_true (by first | (with_reducible assumption) | assumption)
                 obtain ⟨ad216, e216, hx216_0⟩ := Kd.at_string HR0.out (ji18) p216 q216
                 obtain rfl : ad208 = ad216 := (by injection e216)
                 replace hx216_0 := (HB.out.cell (World.block_lt_of_cell? w _ hx216_0)).trans hx216_0
                 replace p216 := eq_true p216
                 replace q216 := eq_true q216
                 go_wp2_with (first | (go_at_call 87; (with_reducible refine (barqueref09_Within.calls (rdOf ByteArray.empty l0 x3_1) (rdOf ByteArray.empty l0 (ji18)) true _ A22.out).mono ?_); rintro e w' ⟨rfl, ⟨nd, rfl⟩⟩; (try first | exact ⟨rfl, _, World.drewN_drewN _ _ _⟩ | exact ⟨rfl, _, Eq.trans (World.drewN_drewN _ _ _) (congrArg (World.drewN _) (Nat.add_assoc _ _ _))⟩)))
                 repeat (go_quiet (first | (go_at_call 87; (with_reducible refine (barqueref09_Within.calls (rdOf ByteArray.empty l0 x3_1) (rdOf ByteArray.empty l0 (ji18)) true _ A22.out).mono ?_); rintro e w' ⟨rfl, ⟨nd, rfl⟩⟩; (try first | exact ⟨rfl, _, World.drewN_drewN _ _ _⟩ | exact ⟨rfl, _, Eq.trans (World.drewN_drewN _ _ _) (congrArg (World.drewN _) (Nat.add_assoc _ _ _))⟩))); try go_wp2_with (first | (go_at_call 87; (with_reducible refine (barqueref09_Within.calls (rdOf ByteArray.empty l0 x3_1) (rdOf ByteArray.empty l0 (ji18)) true _ A22.out).mono ?_); rintro e w' ⟨rfl, ⟨nd, rfl⟩⟩; (try first | exact ⟨rfl, _, World.drewN_drewN _ _ _⟩ | exact ⟨rfl, _, Eq.trans (World.drewN_drewN _ _ _) (congrArg (World.drewN _) (Nat.add_assoc _ _ _))⟩))))
                 go_ret
                 exact ⟨by first | rfl | (simp [errW_none, errW_some] <;> rfl) | (simp only [← hji18]; first | rfl | (simp [errW_none, errW_some] <;> rfl)) | (simp [*, errW_none, errW_some] <;> rfl), by repeat (first | (with_reducible first | exact HB.out | apply below_alloc | apply pw_below_drewN | apply below_drew1) | exact HB.out)⟩
                ·replace c23 := Bool.eq_false_iff.mpr c23
                 subst c23
                 have H1 : (barqueref09_together.l0 kj6 l0 (wrap64 (x3_1 + 1))) = some r := by rw [if_neg (show ¬ (false = true) by decide)] at H; exact H
                 clear H
                 have H := H1
                 clear H1
                 have H' := Aside0.mk H
                 clear H
                 have p213 : 0 ≤ (x3_1 : Int) := of_decide_eq_true (by first | (with_reducible assumption) | assumption)
                 have q213 : x3_1 < (l0.length : Int) := of_decide_eq_true (by first | (with_reducible assumption) | assumption)
                 obtain ⟨ad213, e213, hx213_0⟩ := Kd.at_string HR0.out x3_1 p213 q213
                 obtain rfl : ad208 = ad213 := (by injection e213)
                 replace hx213_0 := (HB.out.cell (World.block_lt_of_cell? w _ hx213_0)).trans hx213_0
                 replace p213 := eq_true p213
                 replace q213 := eq_true q213
                 have p214 : 0 ≤ ((ji18) : Int) := of_decide_eq_true (by first | (with_reducible assumption) | assumption)
                 have q214 : (ji18) < (l0.length : Int) := of_decide_eq_true (by first | (with_reducible assumption) | assumption)
                 obtain ⟨ad214, e214, hx214_0⟩ := Kd.at_string HR0.out (ji18) p214 q214
                 obtain rfl : ad208 = ad214 := (by injection e214)
                 replace hx214_0 := (HB.out.cell (World.block_lt_of_cell? w _ hx214_0)).trans hx214_0
                 replace p214 := eq_true p214
                 replace q214 := eq_true q214
                 have p215 : 0 ≤ (x3_1 : Int) := of_decide_eq_true (by first | (with_reducible assumption) | assumption)
                 have q215 : x3_1 < (l0.length : Int) := of_decide_eq_true (by first | (with_reducible assumption) | assumption)
                 obtain ⟨ad215, e215, hx215_0⟩ := Kd.at_string HR0.out x3_1 p215 q215
                 obtain rfl : ad208 = ad215 := (by injection e215)
                 replace hx215_0 := (HB.out.cell (World.block_lt_of_cell? w _ hx215_0)).trans hx215_0
                 replace p215 := eq_true p215
                 replace q215 := eq_true q215
                 have p216 : 0 ≤ ((ji18) : Int) := of_decide_eq_true (by first | (with_reducible assumption) | assumption)
                 have q216 : (ji18) < (l0.length : Int) := of_decide_eq_true (by first | (with_reducible assumption) | assumption)
                 obtain ⟨ad216, e216, hx216_0⟩ := Kd.at_string HR0.out (ji18) p216 q216
                 obtain rfl : ad208 = ad216 := (by injection e216)
                 replace hx216_0 := (HB.out.cell (World.block_lt_of_cell? w _ hx216_0)).trans hx216_0
                 replace p216 := eq_true p216
                 replace q216 := eq_true q216
                 go_wp2_with (first | (go_at_call 87; (with_reducible refine (barqueref09_Within.calls (rdOf ByteArray.empty l0 x3_1) (rdOf ByteArray.empty l0 (ji18)) false _ A22.out).mono ?_); rintro e w' ⟨rfl, ⟨nd, rfl⟩⟩; (try first | exact ⟨rfl, _, World.drewN_drewN _ _ _⟩ | exact ⟨rfl, _, Eq.trans (World.drewN_drewN _ _ _) (congrArg (World.drewN _) (Nat.add_assoc _ _ _))⟩)))
                 repeat (go_quiet (first | (go_at_call 87; (with_reducible refine (barqueref09_Within.calls (rdOf ByteArray.empty l0 x3_1) (rdOf ByteArray.empty l0 (ji18)) false _ A22.out).mono ?_); rintro e w' ⟨rfl, ⟨nd, rfl⟩⟩; (try first | exact ⟨rfl, _, World.drewN_drewN _ _ _⟩ | exact ⟨rfl, _, Eq.trans (World.drewN_drewN _ _ _) (congrArg (World.drewN _) (Nat.add_assoc _ _ _))⟩))); try go_wp2_with (first | (go_at_call 87; (with_reducible refine (barqueref09_Within.calls (rdOf ByteArray.empty l0 x3_1) (rdOf ByteArray.empty l0 (ji18)) false _ A22.out).mono ?_); rintro e w' ⟨rfl, ⟨nd, rfl⟩⟩; (try first | exact ⟨rfl, _, World.drewN_drewN _ _ _⟩ | exact ⟨rfl, _, Eq.trans (World.drewN_drewN _ _ _) (congrArg (World.drewN _) (Nat.add_assoc _ _ _))⟩))))
                 go_roundg kj6
                 case measure => have := HK1.out; have := HJ6.out; omega
                 case rel => exact ⟨(wrap64 (x3_1 + 1)), (by first | rfl | (simp; done) | (simp [*]; done)), H', ⟨by have := HK1.out; have := HJ6.out; omega⟩, ⟨by repeat (first | (with_reducible first | exact HB.out | apply below_alloc | apply pw_below_drewN | apply below_drew1) | exact HB.out)⟩⟩
              ·rw [if_neg c20] at H
               exact absurd H (by simp)
             ·rw [if_neg c19] at H
              exact absurd H (by simp)
            ·rw [if_neg c17] at H
             exact absurd H (by simp)
           ·rw [if_neg c16] at H
            exact absurd H (by simp)
          ·rw [if_neg c15] at H
           have c15b0 : decide (0 < x3_1) = false := decide_eq_false c15
           clear c15
           have H' := Aside0.mk H
           clear H
           go_wp2
           repeat (go_quiet (fail); try go_wp2)
           go_roundg kj6
           case measure => have := HK1.out; have := HJ6.out; omega
           case rel => exact ⟨(wrap64 (x3_1 + 1)), (by first | rfl | (simp; done) | (simp [*]; done)), H', ⟨by have := HK1.out; have := HJ6.out; omega⟩, ⟨by repeat (first | (with_reducible first | exact HB.out | apply below_alloc | apply pw_below_drewN | apply below_drew1) | exact HB.out)⟩⟩
      ·rw [if_neg c6] at H
       have c6b0 : (t209 == 0) = false := beq_eq_false_iff_ne.mpr c6
       have c6b1 : (t209 != 0) = true := bne_iff_ne.mpr c6
       obtain rfl := Option.some.inj H
       have p208 : 0 ≤ (x3_1 : Int) := of_decide_eq_true (by first | (with_reducible assumption) | assumption)
       have q208 : x3_1 < (l0.length : Int) := of_decide_eq_true (by first | (with_reducible assumption) | assumption)
       obtain ⟨ad208, e208, hx208_0⟩ := Kd.at_string HR0.out x3_1 p208 q208
       cases e208
       replace hx208_0 := (HB.out.cell (World.block_lt_of_cell? w _ hx208_0)).trans hx208_0
       replace p208 := eq_true p208
       replace q208 := eq_true q208
       go_wp2_with (first | (go_at_call 15; (with_reducible refine (barqueref09_Path.calls k1 (rdOf ByteArray.empty l0 x3_1) t209 _ A5.out).mono ?_); rintro e w24 ⟨rfl, hb⟩; have n0_ := Aside0.mk (below_step (by repeat (first | (with_reducible first | exact HB.out | apply below_alloc | apply pw_below_drewN | apply below_drew1) | exact HB.out)) hb); clear HB; have HB := n0_; clear n0_; (try clear hb); (try clear hb2); (try clear hk); (try clear hi)))
       repeat (go_quiet (first | (go_at_call 15; (with_reducible refine (barqueref09_Path.calls k1 (rdOf ByteArray.empty l0 x3_1) t209 _ A5.out).mono ?_); rintro e w24 ⟨rfl, hb⟩; have n0_ := Aside0.mk (below_step (by repeat (first | (with_reducible first | exact HB.out | apply below_alloc | apply pw_below_drewN | apply below_drew1) | exact HB.out)) hb); clear HB; have HB := n0_; clear n0_; (try clear hb); (try clear hb2); (try clear hk); (try clear hi))); try go_wp2_with (first | (go_at_call 15; (with_reducible refine (barqueref09_Path.calls k1 (rdOf ByteArray.empty l0 x3_1) t209 _ A5.out).mono ?_); rintro e w24 ⟨rfl, hb⟩; have n0_ := Aside0.mk (below_step (by repeat (first | (with_reducible first | exact HB.out | apply below_alloc | apply pw_below_drewN | apply below_drew1) | exact HB.out)) hb); clear HB; have HB := n0_; clear n0_; (try clear hb); (try clear hb2); (try clear hk); (try clear hi))))
       go_ret
       exact ⟨by first | rfl | (simp [errW_none, errW_some] <;> rfl) | (simp [*, errW_none, errW_some] <;> rfl), by repeat (first | (with_reducible first | exact HB.out | apply below_alloc | apply pw_below_drewN | apply below_drew1) | exact HB.out)⟩
     ·rw [if_neg c4] at H
      exact absurd H (by simp)
    ·rw [if_neg c3] at H
     have c3b0 : decide (x3_1 < (l0.length : Int)) = false := decide_eq_false c3
     clear c3
     obtain rfl := Option.some.inj H
     go_wp2
     repeat (go_quiet (fail); try go_wp2)
     go_ret
     exact ⟨by first | rfl | (simp [errW_none, errW_some] <;> rfl) | (simp [*, errW_none, errW_some] <;> rfl), by repeat (first | (with_reducible first | exact HB.out | apply below_alloc | apply pw_below_drewN | apply below_drew1) | exact HB.out)⟩
end Go.Proofs.YtafjlibcdlihcaaDoor.G
end
section
namespace Go.Proofs.YtafjlibcdlihcaaDoor.G
open Go.RowKit Go.Proofs.YtafjlibcdlihcaaDoorW.PrintWords Go.Proofs.YtafjlibcdlihcaaDoorW.PrintLast Go.Proofs.YtafjlibcdlihcaaDoorW.PrintMore
set_option linter.unusedVariables false
set_option linter.unusedSimpArgs false
def togE : Option ByteArray → List ByteArray → Int
 | _, [] => 0
 | p, s :: l => if pathE s = 0 then match p with
   | none => togE (some s) l
   | some q => if 0 < cmpL q.data.toList s.data.toList then 12 else if q = s then 9 else if withinB s.data.toList q.data.toList then 9 else togE (some s) l
  else pathE s
theorem togE_cons (p : Option ByteArray) (s : ByteArray) (l : List ByteArray) : togE p (s :: l) = if pathE s = 0 then (match p with
   | none => togE (some s) l
   | some q => if 0 < cmpL q.data.toList s.data.toList then 12 else if q = s then 9 else if withinB s.data.toList q.data.toList then 9 else togE (some s) l)
  else pathE s := by
 cases p <;> simp only [togE]
def pathsE (l : List ByteArray) : Int := if 256 < l.length then 7 else togE none l
def prevO (l : List ByteArray) (i : Nat) : Option ByteArray := if i = 0 then none else l[i - 1]?
theorem ba_ext {a b : ByteArray} (h : a.data.toList = b.data.toList) : a = b := by
 obtain ⟨a⟩ := a
 obtain ⟨b⟩ := b
 exact congrArg ByteArray.mk (Array.toList_inj.1 h)
theorem prevO_succ (l : List ByteArray) (i : Nat) (h : i < l.length) : prevO l (i + 1) = some (l[i]'h) := by
 simp [prevO, h]
theorem paths_l0 (l : List ByteArray) (hl : l.length ≤ 4294967296) : ∀ (d i : Nat), l.length - i = d → i ≤ l.length → (∀ q, prevO l i = some q → pathE q = 0) →
  Ev (fun k => tree_paths.l0 k l l l.length i) (togE (prevO l i) (l.drop i)) := by
 intro d
 induction d with
 | zero =>
  intro i hd hi hq
  have e : i = l.length := by omega
  subst e
  apply Ev.step
  ·intro k; rw [tree_paths.l0]
  have c1 : ¬ ((l.length : Int) < (l.length : Int)) := by omega
  simp only [c1, ↓reduceIte]
  rw [List.drop_eq_nil_of_le (Nat.le_refl _)]
  cases prevO l l.length <;> exact Ev.now _
 | succ d ih =>
  intro i hd hi hq
  have hlt : i < l.length := by omega
  apply Ev.step
  ·intro k; rw [tree_paths.l0]
  have c1 : ((i : Int) < (l.length : Int)) := by omega
  have c2 : (0 : Int) ≤ (i : Int) := by omega
  have hw : wrap64 ((i : Int) + 1) = ((i + 1 : Nat) : Int) := by rw [w64_ (by omega) (by omega)]; omega
  have hnext := ih (i + 1) (by omega) (by omega)
  rw [prevO_succ l i hlt] at hnext
  simp only [c1, c2, ↓reduceIte, rdOf_nat _ l i hlt, hw]
  refine Ev.bind (path_ev _) ?_
  rw [List.drop_eq_getElem_cons hlt, togE_cons]
  by_cases hp : pathE (l[i]'hlt) = 0
  ·have hsz := pathE_size _ hp
   have hn := hnext (fun q e => by cases e; exact hp)
   simp only [hp, ↓reduceIte]
   by_cases h0 : i = 0
   ·have c3 : ((i : Int) = 0) := by omega
    have hpr : prevO l i = none := by unfold prevO; rw [if_pos h0]
    simp only [c3, hpr, ↓reduceIte]
    exact hn
   ·have c3 : ¬ ((i : Int) = 0) := by omega
    have hi1 : i - 1 < l.length := by omega
    have hpr : prevO l i = some (l[i - 1]'hi1) := by unfold prevO; rw [if_neg h0, List.getElem?_eq_getElem hi1]
    have hqsz := pathE_size _ (hq _ hpr)
    have hw1 : wrap64 ((i : Int) - 1) = ((i - 1 : Nat) : Int) := by rw [w64_ (by omega) (by omega)]; omega
    have c4 : (0 : Int) ≤ ((i - 1 : Nat) : Int) := by omega
    have c5 : ((i - 1 : Nat) : Int) < (l.length : Int) := by omega
    rw [hw1]
    simp only [c3, c4, c5, hpr, ↓reduceIte, rdOf_nat _ l (i - 1) hi1, within_f, Option.bind_some]
    refine Ev.bind (order_ev _ _ (by omega) (by omega)) ?_
    obtain ⟨h1, h2, h3⟩ := ordV_cmp (l[i - 1]'hi1).data.toList (l[i]'hlt).data.toList
    by_cases g1 : 0 < cmpL (l[i - 1]'hi1).data.toList (l[i]'hlt).data.toList
    ·have g1' : ordV (l[i - 1]'hi1).data.toList (l[i]'hlt).data.toList > 0 := h3.2 g1
     simp only [g1, g1', ↓reduceIte]
     exact Ev.now _
    ·have g1' : ¬ ordV (l[i - 1]'hi1).data.toList (l[i]'hlt).data.toList > 0 := fun e => g1 (h3.1 e)
     simp only [g1, g1', ↓reduceIte]
     by_cases g2 : l[i - 1]'hi1 = l[i]'hlt
     ·have g2' : ordV (l[i - 1]'hi1).data.toList (l[i]'hlt).data.toList = 0 := h2.2 ((cmpL_eq _ _).2 (by rw [g2]))
      simp only [g2', ↓reduceIte]
      rw [if_pos g2]
      exact Ev.now _
     ·have g2' : ¬ ordV (l[i - 1]'hi1).data.toList (l[i]'hlt).data.toList = 0 := fun e => g2 (ba_ext ((cmpL_eq _ _).1 (h2.1 e)))
      simp only [g2', ↓reduceIte]
      rw [if_neg g2]
      cases withinB (l[i]'hlt).data.toList (l[i - 1]'hi1).data.toList with
      | true => exact Ev.now _
      | false => exact hn
  ·simp only [hp, ↓reduceIte]
   exact Ev.now _
theorem paths_ev (l : List ByteArray) (hl : l.length ≤ 4294967296) : Ev (fun k => tree_paths.f k l) (pathsE l) := by
 unfold tree_paths.f pathsE
 by_cases h : 256 < l.length
 ·have c1 : (l.length : Int) > 256 := by omega
  simp only [c1, h, ↓reduceIte]
  exact Ev.now _
 ·have c1 : ¬ ((l.length : Int) > 256) := by omega
  simp only [c1, h, ↓reduceIte]
  have h := paths_l0 l hl l.length 0 (by omega) (by omega) (fun q e => by cases e)
  simpa [prevO] using h
theorem together_l0 (l : List ByteArray) (hl : l.length ≤ 4294967296) : ∀ (d i : Nat), l.length - i = d → i ≤ l.length → (∀ q, prevO l i = some q → pathE q = 0) →
  Ev (fun k => barqueref09_together.l0 k l i) (togE (prevO l i) (l.drop i)) := by
 intro d
 induction d with
 | zero =>
  intro i hd hi hq
  have e : i = l.length := by omega
  subst e
  apply Ev.step
  ·intro k; rw [barqueref09_together.l0]
  have c1 : ¬ ((l.length : Int) < (l.length : Int)) := by omega
  simp only [c1, ↓reduceIte]
  rw [List.drop_eq_nil_of_le (Nat.le_refl _)]
  cases prevO l l.length <;> exact Ev.now _
 | succ d ih =>
  intro i hd hi hq
  have hlt : i < l.length := by omega
  apply Ev.step
  ·intro k; rw [barqueref09_together.l0]
  have c1 : ((i : Int) < (l.length : Int)) := by omega
  have c2 : (0 : Int) ≤ (i : Int) := by omega
  have hw : wrap64 ((i : Int) + 1) = ((i + 1 : Nat) : Int) := by rw [w64_ (by omega) (by omega)]; omega
  have hnext := ih (i + 1) (by omega) (by omega)
  rw [prevO_succ l i hlt] at hnext
  simp only [c1, c2, ↓reduceIte, rdOf_nat _ l i hlt]
  refine Ev.bind (refpath_ev _) ?_
  rw [List.drop_eq_getElem_cons hlt, togE_cons]
  by_cases hp : pathE (l[i]'hlt) = 0
  ·have hsz := pathE_size _ hp
   have hn := hnext (fun q e => by cases e; exact hp)
   simp only [hp, ↓reduceIte]
   by_cases h0 : i = 0
   ·have c3 : ¬ ((i : Int) > 0) := by omega
    have hpr : prevO l i = none := by unfold prevO; rw [if_pos h0]
    simp only [c3, hpr, ↓reduceIte]
    apply Ev.step
    ·intro k; rw [barqueref09_together.j1]
    simp only [Bool.false_eq_true, c3, ↓reduceIte, hw]
    exact hn
   ·have c3 : ((i : Int) > 0) := by omega
    have hi1 : i - 1 < l.length := by omega
    have hpr : prevO l i = some (l[i - 1]'hi1) := by unfold prevO; rw [if_neg h0, List.getElem?_eq_getElem hi1]
    have hqsz := pathE_size _ (hq _ hpr)
    have hw1 : wrap64 ((i : Int) - 1) = ((i - 1 : Nat) : Int) := by rw [w64_ (by omega) (by omega)]; omega
    have c4 : (0 : Int) ≤ ((i - 1 : Nat) : Int) := by omega
    have c5 : ((i - 1 : Nat) : Int) < (l.length : Int) := by omega
    simp only [c3, hw1, c4, c5, hpr, ↓reduceIte, rdOf_nat _ l (i - 1) hi1]
    refine Ev.bind (reforder_ev _ _ (by omega) (by omega)) ?_
    apply Ev.step
    ·intro k; rw [barqueref09_together.j1]
    have hneg := cmpL_neg (l[i - 1]'hi1).data.toList (l[i]'hlt).data.toList
    by_cases g1 : 0 < cmpL (l[i - 1]'hi1).data.toList (l[i]'hlt).data.toList
    ·have g1' : decide (cmpL (l[i]'hlt).data.toList (l[i - 1]'hi1).data.toList < 0) = true := by rw [decide_eq_true_eq, hneg]; omega
     simp only [g1, g1', ↓reduceIte]
     exact Ev.now _
    ·have g1' : decide (cmpL (l[i]'hlt).data.toList (l[i - 1]'hi1).data.toList < 0) = false := by rw [decide_eq_false_iff_not, hneg]; omega
     simp only [g1, g1', Bool.false_eq_true, c1, c2, c3, hw1, c4, c5, ↓reduceIte, rdOf_nat _ l i hlt, rdOf_nat _ l (i - 1) hi1, toList_data_]
     rw [refwithin_f _ _ (by omega)]
     simp only [Option.bind_some, hw]
     by_cases g2 : l[i - 1]'hi1 = l[i]'hlt
     ·have g2' : (l[i]'hlt).data.toList = (l[i - 1]'hi1).data.toList := by rw [g2]
      simp only [g2', ↓reduceIte]
      rw [if_pos g2]
      exact Ev.now _
     ·have g2' : ¬ (l[i]'hlt).data.toList = (l[i - 1]'hi1).data.toList := fun e => g2 (ba_ext e.symm)
      simp only [g2', ↓reduceIte]
      rw [if_neg g2]
      cases withinB (l[i]'hlt).data.toList (l[i - 1]'hi1).data.toList with
      | true => exact Ev.now _
      | false => exact hn
  ·simp only [hp, ↓reduceIte]
   exact Ev.now _
theorem together_ev (l : List ByteArray) (hl : l.length ≤ 4294967296) : Ev (fun k => barqueref09_together.f k l) (pathsE l) := by
 unfold barqueref09_together.f pathsE
 by_cases h : 256 < l.length
 ·have c1 : (l.length : Int) > 256 := by omega
  simp only [c1, h, ↓reduceIte]
  exact Ev.now _
 ·have c1 : ¬ ((l.length : Int) > 256) := by omega
  simp only [c1, h, ↓reduceIte]
  have h := together_l0 l hl l.length 0 (by omega) (by omega) (fun q e => by cases e)
  simpa [prevO] using h
end Go.Proofs.YtafjlibcdlihcaaDoor.G
end
section
namespace Go.Proofs.YtafjlibcdlihcaaDoor.G
open Go.RowKit Go.Proofs.YtafjlibcdlihcaaDoorW.PrintWords Go.Proofs.YtafjlibcdlihcaaDoorW.PrintLast Go.Proofs.YtafjlibcdlihcaaDoorW.PrintMore
attribute [local go_sem] max2_int min2_int max_two min_two max_three min_three max_four min_four   -- for this text's walks alone
set_option linter.unusedVariables false
set_option linter.unusedSimpArgs false
def tree_mode.f (a0 : Int) : Option (Bool) := if a0 ≥ 0 then (some (decide (a0 ≤ 511))) else (some false)
set_option maxHeartbeats 8000000 in
set_option maxRecDepth 100000 in
theorem tree_mode.calls (a0 : Int) (r : Bool) (w : World) (h : tree_mode.f a0 = some r) :
  Calls Tryd.prog 49 #[.int .i64 a0] w fun e w' => e = .returned (.bool r) ∧ Drawn0 w w' := by
 have H : (if a0 ≥ 0 then (some (decide (a0 ≤ 511))) else (some false)) = some r := h
 clear h
 by_cases c2 : a0 ≥ 0
 ·rw [if_pos c2] at H
  have c2b0 : decide (0 ≤ a0) = true := decide_eq_true c2
  clear c2
  obtain rfl := Option.some.inj H
  go_enter Tryd.func49, Tryd.ntmps49
  go_wp2
  go_ret
  exact ⟨by first | rfl | (simp; done) | (simp [*]; done), by repeat (first | exact Drawn0.refl _ | apply Drawn0.step)⟩
 ·rw [if_neg c2] at H
  have c2b0 : decide (0 ≤ a0) = false := decide_eq_false c2
  clear c2
  obtain rfl := Option.some.inj H
  go_enter Tryd.func49, Tryd.ntmps49
  go_wp2
  go_ret
  exact ⟨by first | rfl | (simp; done) | (simp [*]; done), by repeat (first | exact Drawn0.refl _ | apply Drawn0.step)⟩
end Go.Proofs.YtafjlibcdlihcaaDoor.G
end
section
namespace Go.Proofs.YtafjlibcdlihcaaDoor.G
open Go.RowKit Go.Proofs.YtafjlibcdlihcaaDoorW.PrintWords Go.Proofs.YtafjlibcdlihcaaDoorW.PrintLast Go.Proofs.YtafjlibcdlihcaaDoorW.PrintMore
attribute [local go_sem] max2_int min2_int max_two min_two max_three min_three max_four min_four   -- for this text's walks alone
set_option linter.unusedVariables false
set_option linter.unusedSimpArgs false
mutual
def tree_Right.l0 : Nat → List (S56) → List ByteArray → List (S56) → Int → Int → Option (Int)
 | 0, _, _, _, _, _ => none
 | k + 1, x0, x3, x9, x10, x11 => if x11 < x10 then (if 0 ≤ x11 then (if x11 < (x9.length : Int) then (if x3.length < 8796093022208 then (tree_Right.l0 k x0 (x3 ++ [(rd_T56 x9 x11).f0]) x9 x10 (wrap64 (x11 + 1))) else (none)) else (none)) else (none)) else ((tree_paths.f k x3).bind fun t355 => (if t355 = 0 then (tree_Right.l1 k x0 (x0.length : Int) 0) else (some t355)))
def tree_Right.l1 : Nat → List (S56) → Int → Int → Option (Int)
 | 0, _, _, _ => none
 | k + 1, x26, x27, x28 => if x28 < x27 then (if 0 ≤ x28 then (if x28 < (x26.length : Int) then ((tree_mode.f ((rd_T56 x26 x28).f1)).bind fun t358 => (if t358 = true then (if ((rd_T56 x26 x28).f2) < 0 then (tree_Right.j2 k x26 x27 x28 true ((rd_T56 x26 x28).f0) ((rd_T56 x26 x28).f1) ((rd_T56 x26 x28).f2) ((rd_T56 x26 x28).f3)) else (tree_Right.j2 k x26 x27 x28 (decide (((rd_T56 x26 x28).f2) > 65536)) ((rd_T56 x26 x28).f0) ((rd_T56 x26 x28).f1) ((rd_T56 x26 x28).f2) ((rd_T56 x26 x28).f3))) else (some 11))) else (none)) else (none)) else (some 0)
def tree_Right.j2 : Nat → List (S56) → Int → Int → Bool → ByteArray → Int → Int → ByteArray → Option (Int)
 | 0, _, _, _, _, _, _, _, _ => none
 | k + 1, x26, x27, x28, x37, x358000, x358001, x358002, x358003 => if x37 = true then (some 4) else (if (x358003.size : Int) = 32 then (tree_Right.l1 k x26 x27 (wrap64 (x28 + 1))) else (some 5))
end
def tree_Right.f (k : Nat) (l0 : List (S56)) : Option (Int) := tree_Right.l0 k l0 ([] : List ByteArray) l0 (l0.length : Int) 0
theorem tree_Right.mono_l : ∀ k, (∀ y0 y1 y2 y3 y4, LeO (tree_Right.l0 k y0 y1 y2 y3 y4) (tree_Right.l0 (k + 1) y0 y1 y2 y3 y4)) ∧ (∀ y0 y1 y2, LeO (tree_Right.l1 k y0 y1 y2) (tree_Right.l1 (k + 1) y0 y1 y2)) ∧ (∀ y0 y1 y2 y3 y4 y5 y6 y7, LeO (tree_Right.j2 k y0 y1 y2 y3 y4 y5 y6 y7) (tree_Right.j2 (k + 1) y0 y1 y2 y3 y4 y5 y6 y7))
 | 0 => ⟨fun _ _ _ _ _ r h => by simp [tree_Right.l0] at h, fun _ _ _ r h => by simp [tree_Right.l1] at h, fun _ _ _ _ _ _ _ _ r h => by simp [tree_Right.j2] at h⟩
 | k + 1 => by
  obtain ⟨ih0, ih1, ih2⟩ := tree_Right.mono_l k
  refine ⟨?_, ?_, ?_⟩
  ·intro y0 y1 y2 y3 y4
   unfold tree_Right.l0
   repeat' first
   | (with_reducible exact ih0 _ _ _ _ _)
   | (with_reducible exact ih1 _ _ _)
   | (with_reducible exact ih2 _ _ _ _ _ _ _ _)
   | (with_reducible exact tree_paths.mono _ _)
   | (with_reducible exact LeO.refl _)
   | (with_reducible exact LeO.none _)
   | (with_reducible refine LeO.ite ?_ ?_)
   | (with_reducible refine LeO.bind ?_ (fun _ => ?_))
   | exact ih0 _ _ _ _ _
   | exact ih1 _ _ _
   | exact ih2 _ _ _ _ _ _ _ _
   | exact tree_paths.mono _ _
   | exact LeO.none _
   | refine LeO.ite ?_ ?_
   | refine LeO.bind ?_ (fun _ => ?_)
  ·intro y0 y1 y2
   unfold tree_Right.l1
   repeat' first
   | (with_reducible exact ih0 _ _ _ _ _)
   | (with_reducible exact ih1 _ _ _)
   | (with_reducible exact ih2 _ _ _ _ _ _ _ _)
   | (with_reducible exact tree_paths.mono _ _)
   | (with_reducible exact LeO.refl _)
   | (with_reducible exact LeO.none _)
   | (with_reducible refine LeO.ite ?_ ?_)
   | (with_reducible refine LeO.bind ?_ (fun _ => ?_))
   | exact ih0 _ _ _ _ _
   | exact ih1 _ _ _
   | exact ih2 _ _ _ _ _ _ _ _
   | exact tree_paths.mono _ _
   | exact LeO.none _
   | refine LeO.ite ?_ ?_
   | refine LeO.bind ?_ (fun _ => ?_)
  ·intro y0 y1 y2 y3 y4 y5 y6 y7
   unfold tree_Right.j2
   repeat' first
   | (with_reducible exact ih0 _ _ _ _ _)
   | (with_reducible exact ih1 _ _ _)
   | (with_reducible exact ih2 _ _ _ _ _ _ _ _)
   | (with_reducible exact tree_paths.mono _ _)
   | (with_reducible exact LeO.refl _)
   | (with_reducible exact LeO.none _)
   | (with_reducible refine LeO.ite ?_ ?_)
   | (with_reducible refine LeO.bind ?_ (fun _ => ?_))
   | exact ih0 _ _ _ _ _
   | exact ih1 _ _ _
   | exact ih2 _ _ _ _ _ _ _ _
   | exact tree_paths.mono _ _
   | exact LeO.none _
   | refine LeO.ite ?_ ?_
   | refine LeO.bind ?_ (fun _ => ?_)
theorem tree_Right.mono : ∀ a0 k, LeO (tree_Right.f k a0) (tree_Right.f (k + 1) a0) := by
 intro a0 k
 obtain ⟨ih0, ih1, ih2⟩ := tree_Right.mono_l k
 unfold tree_Right.f
 repeat' first
   | (with_reducible exact ih0 _ _ _ _ _)
   | (with_reducible exact ih1 _ _ _)
   | (with_reducible exact ih2 _ _ _ _ _ _ _ _)
   | (with_reducible exact tree_paths.mono _ _)
   | (with_reducible exact LeO.refl _)
   | (with_reducible exact LeO.none _)
   | (with_reducible refine LeO.ite ?_ ?_)
   | (with_reducible refine LeO.bind ?_ (fun _ => ?_))
   | exact ih0 _ _ _ _ _
   | exact ih1 _ _ _
   | exact ih2 _ _ _ _ _ _ _ _
   | exact tree_paths.mono _ _
   | exact LeO.none _
   | refine LeO.ite ?_ ?_
   | refine LeO.bind ?_ (fun _ => ?_)
set_option maxHeartbeats 8000000 in
set_option maxRecDepth 100000 in
theorem tree_Right.calls (k : Nat) (A0 : Option Addr) (c0 : Nat) (l0 : List (S56)) (r : Int) (w : World) (hr0 : Kd.C k56 w A0 l0.length l0) (hc0 : l0.length ≤ c0) (h : tree_Right.f k l0 = some r) :
  Calls Tryd.prog 34 #[.slice A0 l0.length c0] w fun e w' => e = .returned (.int .i64 r) ∧ Below w.heap.size w w' := by
 have hu56 := Tryd.underlying56
 have HR0 := Aside0.mk hr0
 have HC0 := Aside0.mk hc0
 clear hr0 hc0
 have HB := Aside0.mk (Below.refl w.heap.size w)
 have H : (tree_Right.l0 k l0 ([] : List ByteArray) l0 (l0.length : Int) 0) = some r := h
 clear h
 have H' := Aside0.mk H
 clear H
 go_enter Tryd.func34, Tryd.ntmps34
 go_wp2
 go_loopg [3, 11] k (fun kq v3 v11 w' => ∃ (x3_1 : List ByteArray) (x11_1 : Int), v11 = .int .i64 x11_1 ∧ Aside0 (tree_Right.l0 kq l0 x3_1 l0 (l0.length : Int) x11_1 = some r) ∧ Aside0 (kq ≤ k) ∧ Aside0 (Kd.R Kd.string 9 w' w.heap.size (fun _ => True) v3 x3_1) ∧ Aside0 (Below w.heap.size w w'))
 case atStart => exact ⟨(([] : List ByteArray)), (0), (by first | rfl | (simp; done) | (simp [*]; done)), H', ⟨Nat.le_refl _⟩, ⟨by first | exact Kd.R_nil _ _ _ _ _ | exact Kd.N_nil _ _ _ _ _ | exact Kd.V_nil _ _ _ _ _ | exact Kd.Q_nil _ _ _ _ _ | exact Kd.S_nil _ _ _ _ _⟩, ⟨by repeat (first | (with_reducible first | exact HB.out | apply below_alloc | apply pw_below_drewN | apply below_drew1) | exact HB.out)⟩⟩
 case round =>
  clear H'
  obtain ⟨x3_1, x11_1, rfl, HA, HK1, HO_3, HB⟩ := hrel
  cases gk with
  | zero => exact absurd HA.out (by simp [tree_Right.l0])
  | succ k1 =>
   have H := HA.out
   clear HA
   simp only [tree_Right.l0] at H
   by_cases c2 : x11_1 < (l0.length : Int)
   ·rw [if_pos c2] at H
    have c2b0 : decide (x11_1 < (l0.length : Int)) = true := decide_eq_true c2
    clear c2
    by_cases c3 : 0 ≤ x11_1
    ·rw [if_pos c3] at H
     have c3b0 : decide (0 ≤ x11_1) = true := decide_eq_true c3
     clear c3
     by_cases c4 : x11_1 < (l0.length : Int)
     ·rw [if_pos c4] at H
      have c4b0 : decide (x11_1 < (l0.length : Int)) = true := decide_eq_true c4
      clear c4
      by_cases c5 : x3_1.length < 8796093022208
      ·rw [if_pos c5] at H
       have LMc5 := Aside0.mk c5
       clear c5
       obtain ⟨y352, hy352⟩ : ∃ y_ : List ByteArray, y_ = (x3_1 ++ [(rd_T56 l0 x11_1).f0]) := ⟨_, rfl⟩
       replace H : (tree_Right.l0 k1 l0 y352 l0 (l0.length : Int) (wrap64 (x11_1 + 1))) = some r := by first | (rw [hy352]; with_reducible exact H) | (have H2_ := (Option.bind_some _ _).symm.trans H; rw [hy352]; with_reducible exact H2_) | (have H2_ := (Option.bind_some _ _).symm.trans H; with_reducible exact H2_) | with_reducible exact H | (rw [hy352]; exact H) | exact H
       have Ny352 := Aside0.mk hy352
       clear hy352
       have H' := Aside0.mk H
       clear H
       have p350 : 0 ≤ (x11_1 : Int) := of_decide_eq_true (by first | (with_reducible assumption) | assumption)
       have q350 : x11_1 < (l0.length : Int) := of_decide_eq_true (by first | (with_reducible assumption) | assumption)
       obtain ⟨ad350, e350, hx350_0, hx350_1, hx350_2, hx350_3⟩ := at_T56 HR0.out x11_1 p350 q350
       cases e350
       replace hx350_0 := (HB.out.cell (World.block_lt_of_cell? w _ hx350_0)).trans hx350_0
       replace hx350_1 := (HB.out.cell (World.block_lt_of_cell? w _ hx350_1)).trans hx350_1
       replace hx350_2 := (HB.out.cell (World.block_lt_of_cell? w _ hx350_2)).trans hx350_2
       replace hx350_3 := (HB.out.cell (World.block_lt_of_cell? w _ hx350_3)).trans hx350_3
       replace p350 := eq_true p350
       replace q350 := eq_true q350
       go_wp2_with (first | ((with_reducible refine gate_dst (N := 5) rfl ?_); refine box_event ?hg (N := 5) ?hd (cs := #[.string (⟨#[]⟩ : ByteArray), .int .i64 0, .int .i64 0, .string (⟨#[]⟩ : ByteArray)]) (t := 56) ?hr ?_; (case hd => rfl); (case hg => rfl); (case hr => first | (go_simp; done) | (go_simp; rfl)); intro gb351 hg w6 hbox hb; have n0_ := Aside0.mk (Kd.R_below (by (with_reducible repeat (first | apply Kd.R_alloc | apply Kd.R_drewN | apply Kd.R_drew)); exact HO_3.out) hb); have n1_ := Aside0.mk (below_step (by repeat (first | (with_reducible first | exact HB.out | apply below_alloc | apply pw_below_drewN | apply below_drew1) | exact HB.out)) hb); have n2_ := Aside0.mk (hbox); have n3_ := Aside0.mk ((by rw [hg]; exact (below_size (by repeat (first | (with_reducible first | exact HB.out | apply below_alloc | apply pw_below_drewN | apply below_drew1) | exact HB.out))) : w.heap.size ≤ gb351)); have n4_ := Aside0.mk ((by rw [hg]; exact (below_size (by repeat (first | (with_reducible first | exact HB.out | apply below_alloc | apply pw_below_drewN | apply below_drew1) | exact HB.out))) : w.heap.size ≤ gb351)); clear HO_3; clear HB; have HO_3 := n0_; have HB := n1_; have BK351 := n2_; have GW351 := n3_; have GE351 := n4_; clear n0_ n1_ n2_ n3_ n4_; clear hb hbox hg; have hcz7_0 : w6.cell? ⟨gb351, 0, none⟩ = some (.string (⟨#[]⟩ : ByteArray)) := (blk_cell BK351.out 0).trans rfl; have hcz7_1 : w6.cell? ⟨gb351, 1, none⟩ = some (.int .i64 0) := (blk_cell BK351.out 1).trans rfl; have hcz7_2 : w6.cell? ⟨gb351, 2, none⟩ = some (.int .i64 0) := (blk_cell BK351.out 2).trans rfl; have hcz7_3 : w6.cell? ⟨gb351, 3, none⟩ = some (.string (⟨#[]⟩ : ByteArray)) := (blk_cell BK351.out 3).trans rfl; have hfz7_0 := blk_frozen BK351.out 0; have hfz7_1 := blk_frozen BK351.out 1; have hfz7_2 := blk_frozen BK351.out 2; have hfz7_3 := blk_frozen BK351.out 3) | ((with_reducible refine gate_builtin (b := .append) (xs := #[.tmp 15, .tmp 18]) rfl ?_); at_builtin; refine Kd.R_append Kd.string (w0 := w) w.heap.size rfl (.tmp 15) (.tmp 18) 33 9 (.string ⟨#[]⟩) 16 rfl Tryd.underlying33 info9 rfl (by decide) (by omega) u3 x3_1 ((rd_T56 l0 x11_1).f0) [.string ((rd_T56 l0 x11_1).f0)] (fun _ => True) (fun _ => False) rfl (by first | (go_simp; done) | (go_simp; rfl)) ?aP (fun _ hk => hk.elim) ?aF ?aO ?aB ?aS ?aL ?_; (case aP => exact rfl); (case aB => exact (by repeat (first | (with_reducible first | exact HB.out | apply below_alloc | apply pw_below_drewN | apply below_drew1 | refine below_set ?_ GE351.out) | exact HB.out))); (case aF => exact (fun _ _ => trivial)); (case aO => exact (by (with_reducible repeat (first | apply Kd.R_alloc | apply Kd.R_drewN | apply Kd.R_drew)); exact Kd.R_mono (Kd.R_far (p := ⟨gb351, 3, none⟩) (Kd.R_far (p := ⟨gb351, 2, none⟩) (Kd.R_far (p := ⟨gb351, 1, none⟩) (Kd.R_far (p := ⟨gb351, 0, none⟩) (Kd.R_types HO_3.out BK351.out (by decide)) (fun _ hk => hk.2) (.string ((rd_T56 l0 x11_1).f0))) (fun _ hk => hk.2) (.int .i64 ((rd_T56 l0 x11_1).f1))) (fun _ hk => hk.2) (.int .i64 ((rd_T56 l0 x11_1).f2))) (fun _ hk => hk.2) (.string ((rd_T56 l0 x11_1).f3))) (fun _ hk => trivial))); (case aS => exact (below_size (by repeat (first | (with_reducible first | exact HB.out | apply below_alloc | apply pw_below_drewN | apply below_drew1 | refine below_set ?_ GE351.out) | exact HB.out)))); (case aL => have := LMc5.out; omega); intro v353 w8 ho hb hg hat; rw [← Ny352.out] at ho; have n0_ := Aside0.mk (blk_grown (g := gb351) (o := .cells #[.string ((rd_T56 l0 x11_1).f0), .int .i64 ((rd_T56 l0 x11_1).f1), .int .i64 ((rd_T56 l0 x11_1).f2), .string ((rd_T56 l0 x11_1).f3)] 56 (0, 0)) (by (with_reducible repeat (first | refine blk_drewN ?_ _ | refine blk_drew ?_ | refine blk_alloc ?_ _)); refine blk_put (cs := #[.string ((rd_T56 l0 x11_1).f0), .int .i64 ((rd_T56 l0 x11_1).f1), .int .i64 ((rd_T56 l0 x11_1).f2), .string (⟨#[]⟩ : ByteArray)]) ?_ 3 _ rfl; (with_reducible repeat (first | refine blk_drewN ?_ _ | refine blk_drew ?_ | refine blk_alloc ?_ _)); refine blk_put (cs := #[.string ((rd_T56 l0 x11_1).f0), .int .i64 ((rd_T56 l0 x11_1).f1), .int .i64 0, .string (⟨#[]⟩ : ByteArray)]) ?_ 2 _ rfl; (with_reducible repeat (first | refine blk_drewN ?_ _ | refine blk_drew ?_ | refine blk_alloc ?_ _)); refine blk_put (cs := #[.string ((rd_T56 l0 x11_1).f0), .int .i64 0, .int .i64 0, .string (⟨#[]⟩ : ByteArray)]) ?_ 1 _ rfl; (with_reducible repeat (first | refine blk_drewN ?_ _ | refine blk_drew ?_ | refine blk_alloc ?_ _)); refine blk_put (cs := #[.string (⟨#[]⟩ : ByteArray), .int .i64 0, .int .i64 0, .string (⟨#[]⟩ : ByteArray)]) ?_ 0 _ rfl; (with_reducible repeat (first | refine blk_drewN ?_ _ | refine blk_drew ?_ | refine blk_alloc ?_ _)); exact BK351.out) hg (Kd.R_ne HO_3.out BK351.out (by decide))); have n1_ := Aside0.mk (hb); have n2_ := Aside0.mk (ho); clear BK351; clear HB; clear HO_3; have BK351 := n0_; have HB := n1_; have HO354 := n2_; clear n0_ n1_ n2_; clear ho hb hg hat))
       go_roundg k1
       case measure => have := HK1.out; omega
       case rel => exact ⟨(y352), (wrap64 (x11_1 + 1)), (by first | rfl | (simp; done) | (simp [*]; done)), H', ⟨by have := HK1.out; omega⟩, ⟨by (with_reducible repeat (first | apply Kd.R_alloc | apply Kd.R_drewN | apply Kd.R_drew)); exact HO354.out⟩, ⟨by repeat (first | (with_reducible first | exact HB.out | apply below_alloc | apply pw_below_drewN | apply below_drew1 | refine below_set ?_ GE351.out) | exact HB.out)⟩⟩
      ·rw [if_neg c5] at H
       exact absurd H (by simp)
     ·rw [if_neg c4] at H
      exact absurd H (by simp)
    ·rw [if_neg c3] at H
     exact absurd H (by simp)
   ·rw [if_neg c2] at H
    have c2b0 : decide (x11_1 < (l0.length : Int)) = false := decide_eq_false c2
    clear c2
    replace H := Option.bind_eq_some_iff.mp H
    obtain ⟨t355, A90, H⟩ := H
    replace H : (if t355 = 0 then (tree_Right.l1 k1 l0 (l0.length : Int) 0) else (some t355)) = some r := H
    have A9 := Aside0.mk A90
    clear A90
    by_cases c10 : t355 = 0
    ·rw [if_pos c10] at H
     have c10b0 : (t355 == 0) = true := beq_iff_eq.mpr c10
     have c10b1 : (t355 != 0) = false := bne_eq_false_iff_eq.mpr c10
     clear c10
     have H' := Aside0.mk H
     clear H
     obtain ⟨Ao11, co11, eo11⟩ := Kd.R_slice HO_3.out
     subst eo11
     go_wp2_with (first | ((with_reducible refine gate_callee (f := 48) rfl ?_); refine goesL_ (some 22) rfl rfl Tryd.func48 (by kernel_rfl) rfl #[.slice Ao11 x3_1.length co11] rfl (by (try simp only [List.map_toArray, List.map_cons, List.map_nil]); first | done | rfl | (simp only [List.length_drop, List.length_take]; rfl)) ?_; (with_reducible refine (tree_paths.calls k1 _ _ x3_1 t355 _ ?side1 ?side2 A9.out).mono ?_); (case side1 => repeat (first | exact (Kd.R_reads' HO_3.out).2.2 | (with_reducible refine Kd.C_alloc ?_ _) | (with_reducible refine Kd.C_drewN ?_ _) | (with_reducible refine Kd.C_drew ?_))); (case side2 => exact (Kd.R_reads' HO_3.out).2.1); rintro e w12 ⟨rfl, hb⟩; refine ⟨_, rfl, ?_⟩; have n0_ := Aside0.mk (Kd.R_below (by (with_reducible repeat (first | apply Kd.R_alloc | apply Kd.R_drewN | apply Kd.R_drew)); exact HO_3.out) hb); have n1_ := Aside0.mk (below_step (by repeat (first | (with_reducible first | exact HB.out | apply below_alloc | apply pw_below_drewN | apply below_drew1) | exact HB.out)) hb); clear HO_3; clear HB; have HO_3 := n0_; have HB := n1_; clear n0_ n1_; (try clear hb); (try clear hb2); (try clear hk); (try clear hi)))
     go_loopg [28] k1 (fun kq v28 w' => ∃ (x28_2 : Int), v28 = .int .i64 x28_2 ∧ Aside0 (tree_Right.l1 kq l0 (l0.length : Int) x28_2 = some r) ∧ Aside0 (kq ≤ k1) ∧ Aside0 (Below w.heap.size w w'))
     case atStart => exact ⟨(0), (by first | rfl | (simp; done) | (simp [*]; done)), H', ⟨Nat.le_refl _⟩, ⟨by repeat (first | (with_reducible first | exact HB.out | apply below_alloc | apply pw_below_drewN | apply below_drew1) | exact HB.out)⟩⟩
     case round =>
      clear H'
      try clear c1
      try clear c2
      try clear c2b0
      try clear p2
      try clear c3
      try clear c3b0
      try clear p3
      try clear q3
      try clear hx3
      try clear c4
      try clear c4b0
      try clear c5
      try clear p6
      try clear c10
      try clear c10b0
      try clear c10b1
      try clear hcz7_0
      try clear hcz7_1
      try clear hcz7_2
      try clear hcz7_3
      try clear hfz7_0
      try clear hfz7_1
      try clear hfz7_2
      try clear hfz7_3
      try clear hx350_0
      try clear hx350_1
      try clear hx350_2
      try clear hx350_3
      try clear p350
      try clear q350
      obtain ⟨x28_2, rfl, HA, HK2, HB⟩ := hrel
      cases gk with
      | zero => exact absurd HA.out (by simp [tree_Right.l1])
      | succ k2 =>
       have H := HA.out
       clear HA
       simp only [tree_Right.l1] at H
       by_cases c13 : x28_2 < (l0.length : Int)
       ·rw [if_pos c13] at H
        have c13b0 : decide (x28_2 < (l0.length : Int)) = true := decide_eq_true c13
        clear c13
        by_cases c14 : 0 ≤ x28_2
        ·rw [if_pos c14] at H
         have c14b0 : decide (0 ≤ x28_2) = true := decide_eq_true c14
         clear c14
         by_cases c15 : x28_2 < (l0.length : Int)
         ·rw [if_pos c15] at H
          have c15b0 : decide (x28_2 < (l0.length : Int)) = true := decide_eq_true c15
          clear c15
          replace H := Option.bind_eq_some_iff.mp H
          obtain ⟨t358, A160, H⟩ := H
          replace H : (if t358 = true then (if ((rd_T56 l0 x28_2).f2) < 0 then (tree_Right.j2 k2 l0 (l0.length : Int) x28_2 true ((rd_T56 l0 x28_2).f0) ((rd_T56 l0 x28_2).f1) ((rd_T56 l0 x28_2).f2) ((rd_T56 l0 x28_2).f3)) else (tree_Right.j2 k2 l0 (l0.length : Int) x28_2 (decide (((rd_T56 l0 x28_2).f2) > 65536)) ((rd_T56 l0 x28_2).f0) ((rd_T56 l0 x28_2).f1) ((rd_T56 l0 x28_2).f2) ((rd_T56 l0 x28_2).f3))) else (some 11)) = some r := H
          have A16 := Aside0.mk A160
          clear A160
          by_cases c17 : t358 = true
          ·subst c17
           have H1 : (if ((rd_T56 l0 x28_2).f2) < 0 then (tree_Right.j2 k2 l0 (l0.length : Int) x28_2 true ((rd_T56 l0 x28_2).f0) ((rd_T56 l0 x28_2).f1) ((rd_T56 l0 x28_2).f2) ((rd_T56 l0 x28_2).f3)) else (tree_Right.j2 k2 l0 (l0.length : Int) x28_2 (decide (((rd_T56 l0 x28_2).f2) > 65536)) ((rd_T56 l0 x28_2).f0) ((rd_T56 l0 x28_2).f1) ((rd_T56 l0 x28_2).f2) ((rd_T56 l0 x28_2).f3))) = some r := by rw [if_pos rfl] at H; exact H
           clear H
           have H := H1
           clear H1
           have HC18 := Aside0.mk H
           clear H
           have p356 : 0 ≤ (x28_2 : Int) := of_decide_eq_true (by first | (with_reducible assumption) | assumption)
           have q356 : x28_2 < (l0.length : Int) := of_decide_eq_true (by first | (with_reducible assumption) | assumption)
           obtain ⟨ad356, e356, hx356_0, hx356_1, hx356_2, hx356_3⟩ := at_T56 HR0.out x28_2 p356 q356
           cases e356
           replace hx356_0 := (HB.out.cell (World.block_lt_of_cell? w _ hx356_0)).trans hx356_0
           replace hx356_1 := (HB.out.cell (World.block_lt_of_cell? w _ hx356_1)).trans hx356_1
           replace hx356_2 := (HB.out.cell (World.block_lt_of_cell? w _ hx356_2)).trans hx356_2
           replace hx356_3 := (HB.out.cell (World.block_lt_of_cell? w _ hx356_3)).trans hx356_3
           replace p356 := eq_true p356
           replace q356 := eq_true q356
           go_upto_region 15 with (first | ((with_reducible refine gate_dst (N := 8) rfl ?_); refine box_event ?hg (N := 8) ?hd (cs := #[.string (⟨#[]⟩ : ByteArray), .int .i64 0, .int .i64 0, .string (⟨#[]⟩ : ByteArray)]) (t := 56) ?hr ?_; (case hd => rfl); (case hg => rfl); (case hr => first | (go_simp; done) | (go_simp; rfl)); intro gb357 hg w19 hbox hb; have n0_ := Aside0.mk (below_step (by repeat (first | (with_reducible first | exact HB.out | apply below_alloc | apply pw_below_drewN | apply below_drew1) | exact HB.out)) hb); have n1_ := Aside0.mk (hbox); have n2_ := Aside0.mk ((by rw [hg]; exact (below_size (by repeat (first | (with_reducible first | exact HB.out | apply below_alloc | apply pw_below_drewN | apply below_drew1) | exact HB.out))) : w.heap.size ≤ gb357)); have n3_ := Aside0.mk ((by rw [hg]; exact (below_size (by repeat (first | (with_reducible first | exact HB.out | apply below_alloc | apply pw_below_drewN | apply below_drew1) | exact HB.out))) : w.heap.size ≤ gb357)); clear HB; have HB := n0_; have BK357 := n1_; have GW357 := n2_; have GE357 := n3_; clear n0_ n1_ n2_ n3_; clear hb hbox hg; have hcz20_0 : w19.cell? ⟨gb357, 0, none⟩ = some (.string (⟨#[]⟩ : ByteArray)) := (blk_cell BK357.out 0).trans rfl; have hcz20_1 : w19.cell? ⟨gb357, 1, none⟩ = some (.int .i64 0) := (blk_cell BK357.out 1).trans rfl; have hcz20_2 : w19.cell? ⟨gb357, 2, none⟩ = some (.int .i64 0) := (blk_cell BK357.out 2).trans rfl; have hcz20_3 : w19.cell? ⟨gb357, 3, none⟩ = some (.string (⟨#[]⟩ : ByteArray)) := (blk_cell BK357.out 3).trans rfl; have hfz20_0 := blk_frozen BK357.out 0; have hfz20_1 := blk_frozen BK357.out 1; have hfz20_2 := blk_frozen BK357.out 2; have hfz20_3 := blk_frozen BK357.out 3) | ((with_reducible refine gate_callee (f := 49) rfl ?_); refine goesL_ (some 35) rfl rfl Tryd.func49 (by kernel_rfl) rfl #[.int .i64 ((rd_T56 l0 x28_2).f1)] rfl (by (try simp only [List.map_toArray, List.map_cons, List.map_nil]); first | done | rfl | (simp only [List.length_drop, List.length_take]; rfl)) ?_; (with_reducible refine (tree_mode.calls ((rd_T56 l0 x28_2).f1) true _ A16.out).mono ?_); rintro e w' ⟨rfl, ⟨nd, rfl⟩⟩; refine ⟨_, rfl, ?_⟩))
           (try simp only [Act.put, List.setIfInBounds_toArray, List.set_cons_zero, List.set_cons_succ])
           go_cut [37] (fun v37 wc => ∃ (kq : Nat) (x37_17 : Bool), v37 = .bool x37_17 ∧ Aside0 (tree_Right.j2 kq l0 (l0.length : Int) x28_2 x37_17 ((rd_T56 l0 x28_2).f0) ((rd_T56 l0 x28_2).f1) ((rd_T56 l0 x28_2).f2) ((rd_T56 l0 x28_2).f3) = some r) ∧ Aside0 (kq ≤ k2) ∧ Aside0 (wc.heap[gb357]? = some (.cells #[.string ((rd_T56 l0 x28_2).f0), .int .i64 ((rd_T56 l0 x28_2).f1), .int .i64 ((rd_T56 l0 x28_2).f2), .string ((rd_T56 l0 x28_2).f3)] 56 (0, 0))) ∧ Aside0 (Below w.heap.size w wc))
           case first =>
            have H := HC18.out
            clear HC18
            by_cases c21 : ((rd_T56 l0 x28_2).f2) < 0
            ·rw [if_pos c21] at H
             have c21b0 : decide (((rd_T56 l0 x28_2).f2) < 0) = true := decide_eq_true c21
             clear c21
             (first | rw [c21b0] | (simp only [i64_w, i32_w]; rw [c21b0]) | skip)
             have H' := Aside0.mk H
             clear H
             have hcz22_0 : w19.cell? ⟨gb357, 0, none⟩ = some (.string (⟨#[]⟩ : ByteArray)) := (blk_cell BK357.out 0).trans rfl
             have hcz22_1 : w19.cell? ⟨gb357, 1, none⟩ = some (.int .i64 0) := (blk_cell BK357.out 1).trans rfl
             have hcz22_2 : w19.cell? ⟨gb357, 2, none⟩ = some (.int .i64 0) := (blk_cell BK357.out 2).trans rfl
             have hcz22_3 : w19.cell? ⟨gb357, 3, none⟩ = some (.string (⟨#[]⟩ : ByteArray)) := (blk_cell BK357.out 3).trans rfl
             have hfz22_0 := blk_frozen BK357.out 0
             have hfz22_1 := blk_frozen BK357.out 1
             have hfz22_2 := blk_frozen BK357.out 2
             have hfz22_3 := blk_frozen BK357.out 3
             go_wp2
             go_meet
             case rel => exact ⟨_, (true), (by first | rfl | (simp; done) | (simp [*]; done)), H', ⟨by have := HK1.out; have := HK2.out; first | omega | exact Nat.le_refl _⟩, ⟨by (with_reducible repeat (first | refine blk_drewN ?_ _ | refine blk_drew ?_ | refine blk_alloc ?_ _)); refine blk_put (cs := #[.string ((rd_T56 l0 x28_2).f0), .int .i64 ((rd_T56 l0 x28_2).f1), .int .i64 ((rd_T56 l0 x28_2).f2), .string (⟨#[]⟩ : ByteArray)]) ?_ 3 _ rfl; (with_reducible repeat (first | refine blk_drewN ?_ _ | refine blk_drew ?_ | refine blk_alloc ?_ _)); refine blk_put (cs := #[.string ((rd_T56 l0 x28_2).f0), .int .i64 ((rd_T56 l0 x28_2).f1), .int .i64 0, .string (⟨#[]⟩ : ByteArray)]) ?_ 2 _ rfl; (with_reducible repeat (first | refine blk_drewN ?_ _ | refine blk_drew ?_ | refine blk_alloc ?_ _)); refine blk_put (cs := #[.string ((rd_T56 l0 x28_2).f0), .int .i64 0, .int .i64 0, .string (⟨#[]⟩ : ByteArray)]) ?_ 1 _ rfl; (with_reducible repeat (first | refine blk_drewN ?_ _ | refine blk_drew ?_ | refine blk_alloc ?_ _)); refine blk_put (cs := #[.string (⟨#[]⟩ : ByteArray), .int .i64 0, .int .i64 0, .string (⟨#[]⟩ : ByteArray)]) ?_ 0 _ rfl; (with_reducible repeat (first | refine blk_drewN ?_ _ | refine blk_drew ?_ | refine blk_alloc ?_ _)); exact BK357.out⟩, ⟨by repeat (first | (with_reducible first | exact HB.out | apply below_alloc | apply pw_below_drewN | apply below_drew1 | refine below_set ?_ GE357.out) | exact HB.out)⟩⟩
            ·rw [if_neg c21] at H
             have c21b0 : decide (((rd_T56 l0 x28_2).f2) < 0) = false := decide_eq_false c21
             clear c21
             (first | rw [c21b0] | (simp only [i64_w, i32_w]; rw [c21b0]) | skip)
             have H' := Aside0.mk H
             clear H
             have hcz23_0 : w19.cell? ⟨gb357, 0, none⟩ = some (.string (⟨#[]⟩ : ByteArray)) := (blk_cell BK357.out 0).trans rfl
             have hcz23_1 : w19.cell? ⟨gb357, 1, none⟩ = some (.int .i64 0) := (blk_cell BK357.out 1).trans rfl
             have hcz23_2 : w19.cell? ⟨gb357, 2, none⟩ = some (.int .i64 0) := (blk_cell BK357.out 2).trans rfl
             have hcz23_3 : w19.cell? ⟨gb357, 3, none⟩ = some (.string (⟨#[]⟩ : ByteArray)) := (blk_cell BK357.out 3).trans rfl
             have hfz23_0 := blk_frozen BK357.out 0
             have hfz23_1 := blk_frozen BK357.out 1
             have hfz23_2 := blk_frozen BK357.out 2
             have hfz23_3 := blk_frozen BK357.out 3
             go_wp2
             go_meet
             case rel => exact ⟨_, (decide (((rd_T56 l0 x28_2).f2) > 65536)), (by first | rfl | (simp; done) | (simp [*]; done)), H', ⟨by have := HK1.out; have := HK2.out; first | omega | exact Nat.le_refl _⟩, ⟨by (with_reducible repeat (first | refine blk_drewN ?_ _ | refine blk_drew ?_ | refine blk_alloc ?_ _)); refine blk_put (cs := #[.string ((rd_T56 l0 x28_2).f0), .int .i64 ((rd_T56 l0 x28_2).f1), .int .i64 ((rd_T56 l0 x28_2).f2), .string (⟨#[]⟩ : ByteArray)]) ?_ 3 _ rfl; (with_reducible repeat (first | refine blk_drewN ?_ _ | refine blk_drew ?_ | refine blk_alloc ?_ _)); refine blk_put (cs := #[.string ((rd_T56 l0 x28_2).f0), .int .i64 ((rd_T56 l0 x28_2).f1), .int .i64 0, .string (⟨#[]⟩ : ByteArray)]) ?_ 2 _ rfl; (with_reducible repeat (first | refine blk_drewN ?_ _ | refine blk_drew ?_ | refine blk_alloc ?_ _)); refine blk_put (cs := #[.string ((rd_T56 l0 x28_2).f0), .int .i64 0, .int .i64 0, .string (⟨#[]⟩ : ByteArray)]) ?_ 1 _ rfl; (with_reducible repeat (first | refine blk_drewN ?_ _ | refine blk_drew ?_ | refine blk_alloc ?_ _)); refine blk_put (cs := #[.string (⟨#[]⟩ : ByteArray), .int .i64 0, .int .i64 0, .string (⟨#[]⟩ : ByteArray)]) ?_ 0 _ rfl; (with_reducible repeat (first | refine blk_drewN ?_ _ | refine blk_drew ?_ | refine blk_alloc ?_ _)); exact BK357.out⟩, ⟨by repeat (first | (with_reducible first | exact HB.out | apply below_alloc | apply pw_below_drewN | apply below_drew1 | refine below_set ?_ GE357.out) | exact HB.out)⟩⟩
           case rest =>
            clear HC18
            try clear c1
            try clear c2
            try clear c2b0
            try clear p2
            try clear c3
            try clear c3b0
            try clear p3
            try clear q3
            try clear hx3
            try clear c4
            try clear c4b0
            try clear c5
            try clear p6
            try clear c10
            try clear c10b0
            try clear c10b1
            try clear c13
            try clear c13b0
            try clear c14
            try clear c14b0
            try clear c15
            try clear c15b0
            try clear c17
            try clear c21
            try clear c21b0
            try clear hcz20_0
            try clear hcz20_1
            try clear hcz20_2
            try clear hcz20_3
            try clear hcz22_0
            try clear hcz22_1
            try clear hcz22_2
            try clear hcz22_3
            try clear hcz23_0
            try clear hcz23_1
            try clear hcz23_2
            try clear hcz23_3
            try clear hcz7_0
            try clear hcz7_1
            try clear hcz7_2
            try clear hcz7_3
            try clear hfz20_0
            try clear hfz20_1
            try clear hfz20_2
            try clear hfz20_3
            try clear hfz22_0
            try clear hfz22_1
            try clear hfz22_2
            try clear hfz22_3
            try clear hfz23_0
            try clear hfz23_1
            try clear hfz23_2
            try clear hfz23_3
            try clear hfz7_0
            try clear hfz7_1
            try clear hfz7_2
            try clear hfz7_3
            try clear hx350_0
            try clear hx350_1
            try clear hx350_2
            try clear hx350_3
            try clear hx356_0
            try clear hx356_1
            try clear hx356_2
            try clear hx356_3
            try clear p2
            try clear p3
            try clear p350
            try clear p356
            try clear p6
            try clear q3
            try clear q350
            try clear q356
            obtain ⟨kq, x37_17, rfl, HA, HJ17, BK357, HB⟩ := hcut
            cases kq with
            | zero => exact absurd HA.out (by simp [tree_Right.j2])
            | succ kj17 =>
             have H := HA.out
             clear HA
             simp only [tree_Right.j2] at H
             by_cases c24 : x37_17 = true
             ·subst c24
              have H1 : (some 4) = some r := by rw [if_pos rfl] at H; exact H
              clear H
              have H := H1
              clear H1
              obtain rfl := Option.some.inj H
              go_wp2
              go_ret
              exact ⟨by first | rfl | (simp [errW_none, errW_some] <;> rfl) | (simp [*, errW_none, errW_some] <;> rfl), by repeat (first | (with_reducible first | exact HB.out | apply below_alloc | apply pw_below_drewN | apply below_drew1 | refine below_set ?_ GE357.out) | exact HB.out)⟩
             ·replace c24 := Bool.eq_false_iff.mpr c24
              subst c24
              have H1 : (if (((rd_T56 l0 x28_2).f3).size : Int) = 32 then (tree_Right.l1 kj17 l0 (l0.length : Int) (wrap64 (x28_2 + 1))) else (some 5)) = some r := by rw [if_neg (show ¬ (false = true) by decide)] at H; exact H
              clear H
              have H := H1
              clear H1
              by_cases c25 : (((rd_T56 l0 x28_2).f3).size : Int) = 32
              ·rw [if_pos c25] at H
               have c25b0 : ((((rd_T56 l0 x28_2).f3).size : Int) == 32) = true := beq_iff_eq.mpr c25
               have c25b1 : ((((rd_T56 l0 x28_2).f3).size : Int) != 32) = false := bne_eq_false_iff_eq.mpr c25
               clear c25
               have H' := Aside0.mk H
               clear H
               have hcz26_0 : wc.cell? ⟨gb357, 0, none⟩ = some (.string ((rd_T56 l0 x28_2).f0)) := (blk_cell BK357.out 0).trans rfl
               have hcz26_1 : wc.cell? ⟨gb357, 1, none⟩ = some (.int .i64 ((rd_T56 l0 x28_2).f1)) := (blk_cell BK357.out 1).trans rfl
               have hcz26_2 : wc.cell? ⟨gb357, 2, none⟩ = some (.int .i64 ((rd_T56 l0 x28_2).f2)) := (blk_cell BK357.out 2).trans rfl
               have hcz26_3 : wc.cell? ⟨gb357, 3, none⟩ = some (.string ((rd_T56 l0 x28_2).f3)) := (blk_cell BK357.out 3).trans rfl
               have hfz26_0 := blk_frozen BK357.out 0
               have hfz26_1 := blk_frozen BK357.out 1
               have hfz26_2 := blk_frozen BK357.out 2
               have hfz26_3 := blk_frozen BK357.out 3
               go_wp2
               go_roundg kj17
               case measure => have := HK1.out; have := HK2.out; have := HJ17.out; omega
               case rel => exact ⟨(wrap64 (x28_2 + 1)), (by first | rfl | (simp; done) | (simp [*]; done)), H', ⟨by have := HK1.out; have := HK2.out; have := HJ17.out; omega⟩, ⟨by repeat (first | (with_reducible first | exact HB.out | apply below_alloc | apply pw_below_drewN | apply below_drew1 | refine below_set ?_ GE357.out) | exact HB.out)⟩⟩
              ·rw [if_neg c25] at H
               have c25b0 : ((((rd_T56 l0 x28_2).f3).size : Int) == 32) = false := beq_eq_false_iff_ne.mpr c25
               have c25b1 : ((((rd_T56 l0 x28_2).f3).size : Int) != 32) = true := bne_iff_ne.mpr c25
               obtain rfl := Option.some.inj H
               have hcz27_0 : wc.cell? ⟨gb357, 0, none⟩ = some (.string ((rd_T56 l0 x28_2).f0)) := (blk_cell BK357.out 0).trans rfl
               have hcz27_1 : wc.cell? ⟨gb357, 1, none⟩ = some (.int .i64 ((rd_T56 l0 x28_2).f1)) := (blk_cell BK357.out 1).trans rfl
               have hcz27_2 : wc.cell? ⟨gb357, 2, none⟩ = some (.int .i64 ((rd_T56 l0 x28_2).f2)) := (blk_cell BK357.out 2).trans rfl
               have hcz27_3 : wc.cell? ⟨gb357, 3, none⟩ = some (.string ((rd_T56 l0 x28_2).f3)) := (blk_cell BK357.out 3).trans rfl
               have hfz27_0 := blk_frozen BK357.out 0
               have hfz27_1 := blk_frozen BK357.out 1
               have hfz27_2 := blk_frozen BK357.out 2
               have hfz27_3 := blk_frozen BK357.out 3
               go_wp2
               go_ret
               exact ⟨by first | rfl | (simp [errW_none, errW_some] <;> rfl) | (simp [*, errW_none, errW_some] <;> rfl), by repeat (first | (with_reducible first | exact HB.out | apply below_alloc | apply pw_below_drewN | apply below_drew1 | refine below_set ?_ GE357.out) | exact HB.out)⟩
          ·replace c17 := Bool.eq_false_iff.mpr c17
           subst c17
           have H1 : (some 11) = some r := by rw [if_neg (show ¬ (false = true) by decide)] at H; exact H
           clear H
           have H := H1
           clear H1
           obtain rfl := Option.some.inj H
           have p356 : 0 ≤ (x28_2 : Int) := of_decide_eq_true (by first | (with_reducible assumption) | assumption)
           have q356 : x28_2 < (l0.length : Int) := of_decide_eq_true (by first | (with_reducible assumption) | assumption)
           obtain ⟨ad356, e356, hx356_0, hx356_1, hx356_2, hx356_3⟩ := at_T56 HR0.out x28_2 p356 q356
           cases e356
           replace hx356_0 := (HB.out.cell (World.block_lt_of_cell? w _ hx356_0)).trans hx356_0
           replace hx356_1 := (HB.out.cell (World.block_lt_of_cell? w _ hx356_1)).trans hx356_1
           replace hx356_2 := (HB.out.cell (World.block_lt_of_cell? w _ hx356_2)).trans hx356_2
           replace hx356_3 := (HB.out.cell (World.block_lt_of_cell? w _ hx356_3)).trans hx356_3
           replace p356 := eq_true p356
           replace q356 := eq_true q356
           go_wp2_with (first | ((with_reducible refine gate_dst (N := 8) rfl ?_); refine box_event ?hg (N := 8) ?hd (cs := #[.string (⟨#[]⟩ : ByteArray), .int .i64 0, .int .i64 0, .string (⟨#[]⟩ : ByteArray)]) (t := 56) ?hr ?_; (case hd => rfl); (case hg => rfl); (case hr => first | (go_simp; done) | (go_simp; rfl)); intro gb357 hg w28 hbox hb; have n0_ := Aside0.mk (below_step (by repeat (first | (with_reducible first | exact HB.out | apply below_alloc | apply pw_below_drewN | apply below_drew1) | exact HB.out)) hb); have n1_ := Aside0.mk (hbox); have n2_ := Aside0.mk ((by rw [hg]; exact (below_size (by repeat (first | (with_reducible first | exact HB.out | apply below_alloc | apply pw_below_drewN | apply below_drew1) | exact HB.out))) : w.heap.size ≤ gb357)); have n3_ := Aside0.mk ((by rw [hg]; exact (below_size (by repeat (first | (with_reducible first | exact HB.out | apply below_alloc | apply pw_below_drewN | apply below_drew1) | exact HB.out))) : w.heap.size ≤ gb357)); clear HB; have HB := n0_; have BK357 := n1_; have GW357 := n2_; have GE357 := n3_; clear n0_ n1_ n2_ n3_; clear hb hbox hg; have hcz29_0 : w28.cell? ⟨gb357, 0, none⟩ = some (.string (⟨#[]⟩ : ByteArray)) := (blk_cell BK357.out 0).trans rfl; have hcz29_1 : w28.cell? ⟨gb357, 1, none⟩ = some (.int .i64 0) := (blk_cell BK357.out 1).trans rfl; have hcz29_2 : w28.cell? ⟨gb357, 2, none⟩ = some (.int .i64 0) := (blk_cell BK357.out 2).trans rfl; have hcz29_3 : w28.cell? ⟨gb357, 3, none⟩ = some (.string (⟨#[]⟩ : ByteArray)) := (blk_cell BK357.out 3).trans rfl; have hfz29_0 := blk_frozen BK357.out 0; have hfz29_1 := blk_frozen BK357.out 1; have hfz29_2 := blk_frozen BK357.out 2; have hfz29_3 := blk_frozen BK357.out 3) | ((with_reducible refine gate_callee (f := 49) rfl ?_); refine goesL_ (some 35) rfl rfl Tryd.func49 (by kernel_rfl) rfl #[.int .i64 ((rd_T56 l0 x28_2).f1)] rfl (by (try simp only [List.map_toArray, List.map_cons, List.map_nil]); first | done | rfl | (simp only [List.length_drop, List.length_take]; rfl)) ?_; (with_reducible refine (tree_mode.calls ((rd_T56 l0 x28_2).f1) false _ A16.out).mono ?_); rintro e w' ⟨rfl, ⟨nd, rfl⟩⟩; refine ⟨_, rfl, ?_⟩))
           go_ret
           exact ⟨by first | rfl | (simp [errW_none, errW_some] <;> rfl) | (simp [*, errW_none, errW_some] <;> rfl), by repeat (first | (with_reducible first | exact HB.out | apply below_alloc | apply pw_below_drewN | apply below_drew1 | refine below_set ?_ GE357.out) | exact HB.out)⟩
         ·rw [if_neg c15] at H
          exact absurd H (by simp)
        ·rw [if_neg c14] at H
         exact absurd H (by simp)
       ·rw [if_neg c13] at H
        have c13b0 : decide (x28_2 < (l0.length : Int)) = false := decide_eq_false c13
        clear c13
        obtain rfl := Option.some.inj H
        go_wp2
        go_ret
        exact ⟨by first | rfl | (simp [errW_none, errW_some] <;> rfl) | (simp [*, errW_none, errW_some] <;> rfl), by repeat (first | (with_reducible first | exact HB.out | apply below_alloc | apply pw_below_drewN | apply below_drew1) | exact HB.out)⟩
    ·rw [if_neg c10] at H
     have c10b0 : (t355 == 0) = false := beq_eq_false_iff_ne.mpr c10
     have c10b1 : (t355 != 0) = true := bne_iff_ne.mpr c10
     obtain rfl := Option.some.inj H
     obtain ⟨Ao30, co30, eo30⟩ := Kd.R_slice HO_3.out
     subst eo30
     go_wp2_with (first | ((with_reducible refine gate_callee (f := 48) rfl ?_); refine goesL_ (some 22) rfl rfl Tryd.func48 (by kernel_rfl) rfl #[.slice Ao30 x3_1.length co30] rfl (by (try simp only [List.map_toArray, List.map_cons, List.map_nil]); first | done | rfl | (simp only [List.length_drop, List.length_take]; rfl)) ?_; (with_reducible refine (tree_paths.calls k1 _ _ x3_1 t355 _ ?side1 ?side2 A9.out).mono ?_); (case side1 => repeat (first | exact (Kd.R_reads' HO_3.out).2.2 | (with_reducible refine Kd.C_alloc ?_ _) | (with_reducible refine Kd.C_drewN ?_ _) | (with_reducible refine Kd.C_drew ?_))); (case side2 => exact (Kd.R_reads' HO_3.out).2.1); rintro e w31 ⟨rfl, hb⟩; refine ⟨_, rfl, ?_⟩; have n0_ := Aside0.mk (Kd.R_below (by (with_reducible repeat (first | apply Kd.R_alloc | apply Kd.R_drewN | apply Kd.R_drew)); exact HO_3.out) hb); have n1_ := Aside0.mk (below_step (by repeat (first | (with_reducible first | exact HB.out | apply below_alloc | apply pw_below_drewN | apply below_drew1) | exact HB.out)) hb); clear HO_3; clear HB; have HO_3 := n0_; have HB := n1_; clear n0_ n1_; (try clear hb); (try clear hb2); (try clear hk); (try clear hi)))
     go_ret
     exact ⟨by first | rfl | (simp [errW_none, errW_some] <;> rfl) | (simp [*, errW_none, errW_some] <;> rfl), by repeat (first | (with_reducible first | exact HB.out | apply below_alloc | apply pw_below_drewN | apply below_drew1) | exact HB.out)⟩
end Go.Proofs.YtafjlibcdlihcaaDoor.G
end
section
namespace Go.Proofs.YtafjlibcdlihcaaDoor.G
open Go.RowKit Go.Proofs.YtafjlibcdlihcaaDoorW.PrintWords Go.Proofs.YtafjlibcdlihcaaDoorW.PrintLast Go.Proofs.YtafjlibcdlihcaaDoorW.PrintMore
attribute [local go_sem] max2_int min2_int max_two min_two max_three min_three max_four min_four   -- for this text's walks alone
set_option linter.unusedVariables false
set_option linter.unusedSimpArgs false
mutual
def barqueref09_Right.l0 : Nat → List (S56) → List ByteArray → Int → Option (Int)
 | 0, _, _, _ => none
 | k + 1, x0, x3, x4 => if x4 < (x0.length : Int) then (if 0 ≤ x4 then (if x3.length < 8796093022208 then (barqueref09_Right.l0 k x0 (x3 ++ [(rd_T56 x0 x4).f0]) (wrap64 (x4 + 1))) else (none)) else (none)) else ((barqueref09_together.f k x3).bind fun t430 => (if t430 = 0 then (barqueref09_Right.l1 k x0 0) else (some t430)))
def barqueref09_Right.l1 : Nat → List (S56) → Int → Option (Int)
 | 0, _, _ => none
 | k + 1, x0, x6 => if x6 < (x0.length : Int) then (if 0 ≤ x6 then (if ((rd_T56 x0 x6).f1) < 0 then (barqueref09_Right.j2 k x0 x6 true) else (barqueref09_Right.j2 k x0 x6 (decide (((rd_T56 x0 x6).f1) > 511)))) else (none)) else (some 0)
def barqueref09_Right.j2 : Nat → List (S56) → Int → Bool → Option (Int)
 | 0, _, _, _ => none
 | k + 1, x0, x6, x45 => if x45 = true then (some 11) else (if 0 ≤ x6 then (if x6 < (x0.length : Int) then (if ((rd_T56 x0 x6).f2) < 0 then (barqueref09_Right.j3 k x0 x6 true) else (barqueref09_Right.j3 k x0 x6 (decide (((rd_T56 x0 x6).f2) > 65536)))) else (none)) else (none))
def barqueref09_Right.j3 : Nat → List (S56) → Int → Bool → Option (Int)
 | 0, _, _, _ => none
 | k + 1, x0, x6, x59 => if x59 = true then (some 4) else (if 0 ≤ x6 then (if x6 < (x0.length : Int) then (if (((rd_T56 x0 x6).f3).size : Int) = 32 then (barqueref09_Right.l1 k x0 (wrap64 (x6 + 1))) else (some 5)) else (none)) else (none))
end
def barqueref09_Right.f (k : Nat) (l0 : List (S56)) : Option (Int) := barqueref09_Right.l0 k l0 ([] : List ByteArray) 0
theorem barqueref09_Right.mono_l : ∀ k, (∀ y0 y1 y2, LeO (barqueref09_Right.l0 k y0 y1 y2) (barqueref09_Right.l0 (k + 1) y0 y1 y2)) ∧ (∀ y0 y1, LeO (barqueref09_Right.l1 k y0 y1) (barqueref09_Right.l1 (k + 1) y0 y1)) ∧ (∀ y0 y1 y2, LeO (barqueref09_Right.j2 k y0 y1 y2) (barqueref09_Right.j2 (k + 1) y0 y1 y2)) ∧ (∀ y0 y1 y2, LeO (barqueref09_Right.j3 k y0 y1 y2) (barqueref09_Right.j3 (k + 1) y0 y1 y2))
 | 0 => ⟨fun _ _ _ r h => by simp [barqueref09_Right.l0] at h, fun _ _ r h => by simp [barqueref09_Right.l1] at h, fun _ _ _ r h => by simp [barqueref09_Right.j2] at h, fun _ _ _ r h => by simp [barqueref09_Right.j3] at h⟩
 | k + 1 => by
  obtain ⟨ih0, ih1, ih2, ih3⟩ := barqueref09_Right.mono_l k
  refine ⟨?_, ?_, ?_, ?_⟩
  ·intro y0 y1 y2
   unfold barqueref09_Right.l0
   repeat' first
   | (with_reducible exact ih0 _ _ _)
   | (with_reducible exact ih1 _ _)
   | (with_reducible exact ih2 _ _ _)
   | (with_reducible exact ih3 _ _ _)
   | (with_reducible exact barqueref09_together.mono _ _)
   | (with_reducible exact LeO.refl _)
   | (with_reducible exact LeO.none _)
   | (with_reducible refine LeO.ite ?_ ?_)
   | (with_reducible refine LeO.bind ?_ (fun _ => ?_))
   | exact ih0 _ _ _
   | exact ih1 _ _
   | exact ih2 _ _ _
   | exact ih3 _ _ _
   | exact barqueref09_together.mono _ _
   | exact LeO.none _
   | refine LeO.ite ?_ ?_
   | refine LeO.bind ?_ (fun _ => ?_)
  ·intro y0 y1
   unfold barqueref09_Right.l1
   repeat' first
   | (with_reducible exact ih0 _ _ _)
   | (with_reducible exact ih1 _ _)
   | (with_reducible exact ih2 _ _ _)
   | (with_reducible exact ih3 _ _ _)
   | (with_reducible exact barqueref09_together.mono _ _)
   | (with_reducible exact LeO.refl _)
   | (with_reducible exact LeO.none _)
   | (with_reducible refine LeO.ite ?_ ?_)
   | (with_reducible refine LeO.bind ?_ (fun _ => ?_))
   | exact ih0 _ _ _
   | exact ih1 _ _
   | exact ih2 _ _ _
   | exact ih3 _ _ _
   | exact barqueref09_together.mono _ _
   | exact LeO.none _
   | refine LeO.ite ?_ ?_
   | refine LeO.bind ?_ (fun _ => ?_)
  ·intro y0 y1 y2
   unfold barqueref09_Right.j2
   repeat' first
   | (with_reducible exact ih0 _ _ _)
   | (with_reducible exact ih1 _ _)
   | (with_reducible exact ih2 _ _ _)
   | (with_reducible exact ih3 _ _ _)
   | (with_reducible exact barqueref09_together.mono _ _)
   | (with_reducible exact LeO.refl _)
   | (with_reducible exact LeO.none _)
   | (with_reducible refine LeO.ite ?_ ?_)
   | (with_reducible refine LeO.bind ?_ (fun _ => ?_))
   | exact ih0 _ _ _
   | exact ih1 _ _
   | exact ih2 _ _ _
   | exact ih3 _ _ _
   | exact barqueref09_together.mono _ _
   | exact LeO.none _
   | refine LeO.ite ?_ ?_
   | refine LeO.bind ?_ (fun _ => ?_)
  ·intro y0 y1 y2
   unfold barqueref09_Right.j3
   repeat' first
   | (with_reducible exact ih0 _ _ _)
   | (with_reducible exact ih1 _ _)
   | (with_reducible exact ih2 _ _ _)
   | (with_reducible exact ih3 _ _ _)
   | (with_reducible exact barqueref09_together.mono _ _)
   | (with_reducible exact LeO.refl _)
   | (with_reducible exact LeO.none _)
   | (with_reducible refine LeO.ite ?_ ?_)
   | (with_reducible refine LeO.bind ?_ (fun _ => ?_))
   | exact ih0 _ _ _
   | exact ih1 _ _
   | exact ih2 _ _ _
   | exact ih3 _ _ _
   | exact barqueref09_together.mono _ _
   | exact LeO.none _
   | refine LeO.ite ?_ ?_
   | refine LeO.bind ?_ (fun _ => ?_)
theorem barqueref09_Right.mono : ∀ a0 k, LeO (barqueref09_Right.f k a0) (barqueref09_Right.f (k + 1) a0) := by
 intro a0 k
 obtain ⟨ih0, ih1, ih2, ih3⟩ := barqueref09_Right.mono_l k
 unfold barqueref09_Right.f
 repeat' first
   | (with_reducible exact ih0 _ _ _)
   | (with_reducible exact ih1 _ _)
   | (with_reducible exact ih2 _ _ _)
   | (with_reducible exact ih3 _ _ _)
   | (with_reducible exact barqueref09_together.mono _ _)
   | (with_reducible exact LeO.refl _)
   | (with_reducible exact LeO.none _)
   | (with_reducible refine LeO.ite ?_ ?_)
   | (with_reducible refine LeO.bind ?_ (fun _ => ?_))
   | exact ih0 _ _ _
   | exact ih1 _ _
   | exact ih2 _ _ _
   | exact ih3 _ _ _
   | exact barqueref09_together.mono _ _
   | exact LeO.none _
   | refine LeO.ite ?_ ?_
   | refine LeO.bind ?_ (fun _ => ?_)
set_option maxHeartbeats 8000000 in
set_option maxRecDepth 100000 in
theorem barqueref09_Right.calls (k : Nat) (A0 : Option Addr) (c0 : Nat) (l0 : List (S56)) (r : Int) (w : World) (hr0 : Kd.C k56 w A0 l0.length l0) (hc0 : l0.length ≤ c0) (h : barqueref09_Right.f k l0 = some r) :
  Calls Tryd.prog 35 #[.slice A0 l0.length c0] w fun e w' => e = .returned (.int .i64 r) ∧ Below w.heap.size w w' := by
 have HR0 := Aside0.mk hr0
 have HC0 := Aside0.mk hc0
 clear hr0 hc0
 have HB := Aside0.mk (Below.refl w.heap.size w)
 have H : (barqueref09_Right.l0 k l0 ([] : List ByteArray) 0) = some r := h
 clear h
 have H' := Aside0.mk H
 clear H
 go_enter Tryd.func35, Tryd.ntmps35
 go_wp2
 go_loopg [3, 4] k (fun kq v3 v4 w' => ∃ (x3_1 : List ByteArray) (x4_1 : Int), v4 = .int .i64 x4_1 ∧ Aside0 (barqueref09_Right.l0 kq l0 x3_1 x4_1 = some r) ∧ Aside0 (kq ≤ k) ∧ Aside0 (Kd.R Kd.string 9 w' w.heap.size (fun _ => True) v3 x3_1) ∧ Aside0 (Below w.heap.size w w'))
 case atStart => exact ⟨(([] : List ByteArray)), (0), (by first | rfl | (simp; done) | (simp [*]; done)), H', ⟨Nat.le_refl _⟩, ⟨by first | exact Kd.R_nil _ _ _ _ _ | exact Kd.N_nil _ _ _ _ _ | exact Kd.V_nil _ _ _ _ _ | exact Kd.Q_nil _ _ _ _ _ | exact Kd.S_nil _ _ _ _ _⟩, ⟨by repeat (first | (with_reducible first | exact HB.out | apply below_alloc | apply pw_below_drewN | apply below_drew1) | exact HB.out)⟩⟩
 case round =>
  clear H'
  obtain ⟨x3_1, x4_1, rfl, HA, HK1, HO_3, HB⟩ := hrel
  cases gk with
  | zero => exact absurd HA.out (by simp [barqueref09_Right.l0])
  | succ k1 =>
   have H := HA.out
   clear HA
   simp only [barqueref09_Right.l0] at H
   by_cases c2 : x4_1 < (l0.length : Int)
   ·rw [if_pos c2] at H
    have c2b0 : decide (x4_1 < (l0.length : Int)) = true := decide_eq_true c2
    clear c2
    by_cases c3 : 0 ≤ x4_1
    ·rw [if_pos c3] at H
     have c3b0 : decide (0 ≤ x4_1) = true := decide_eq_true c3
     clear c3
     by_cases c4 : x3_1.length < 8796093022208
     ·rw [if_pos c4] at H
      have LMc4 := Aside0.mk c4
      clear c4
      obtain ⟨y427, hy427⟩ : ∃ y_ : List ByteArray, y_ = (x3_1 ++ [(rd_T56 l0 x4_1).f0]) := ⟨_, rfl⟩
      replace H : (barqueref09_Right.l0 k1 l0 y427 (wrap64 (x4_1 + 1))) = some r := by first | (rw [hy427]; with_reducible exact H) | (have H2_ := (Option.bind_some _ _).symm.trans H; rw [hy427]; with_reducible exact H2_) | (have H2_ := (Option.bind_some _ _).symm.trans H; with_reducible exact H2_) | with_reducible exact H | (rw [hy427]; exact H) | exact H
      have Ny427 := Aside0.mk hy427
      clear hy427
      have H' := Aside0.mk H
      clear H
      have p426 : 0 ≤ (x4_1 : Int) := of_decide_eq_true (by first | (with_reducible assumption) | assumption)
      have q426 : x4_1 < (l0.length : Int) := of_decide_eq_true (by first | (with_reducible assumption) | assumption)
      obtain ⟨ad426, e426, hx426_0, hx426_1, hx426_2, hx426_3⟩ := at_T56 HR0.out x4_1 p426 q426
      cases e426
      replace hx426_0 := (HB.out.cell (World.block_lt_of_cell? w _ hx426_0)).trans hx426_0
      replace hx426_1 := (HB.out.cell (World.block_lt_of_cell? w _ hx426_1)).trans hx426_1
      replace hx426_2 := (HB.out.cell (World.block_lt_of_cell? w _ hx426_2)).trans hx426_2
      replace hx426_3 := (HB.out.cell (World.block_lt_of_cell? w _ hx426_3)).trans hx426_3
      replace p426 := eq_true p426
      replace q426 := eq_true q426
      go_wp2_with (first | ((with_reducible refine gate_builtin (b := .append) (xs := #[.tmp 13, .tmp 19]) rfl ?_); at_builtin; refine Kd.R_append Kd.string (w0 := w) w.heap.size rfl (.tmp 13) (.tmp 19) 33 9 (.string ⟨#[]⟩) 16 rfl Tryd.underlying33 info9 rfl (by decide) (by omega) u3 x3_1 ((rd_T56 l0 x4_1).f0) [.string ((rd_T56 l0 x4_1).f0)] (fun _ => True) (fun _ => False) rfl rfl ?aP (fun _ hk => hk.elim) ?aF ?aO ?aB ?aS ?aL ?_; (case aP => exact rfl); (case aB => exact (by repeat (first | (with_reducible first | exact HB.out | apply below_alloc | apply pw_below_drewN | apply below_drew1) | exact HB.out))); (case aF => exact (fun _ _ => trivial)); (case aO => exact (by (with_reducible repeat (first | apply Kd.R_alloc | apply Kd.R_drewN | apply Kd.R_drew)); exact HO_3.out)); (case aS => exact (below_size (by repeat (first | (with_reducible first | exact HB.out | apply below_alloc | apply pw_below_drewN | apply below_drew1) | exact HB.out)))); (case aL => have := LMc4.out; omega); intro v428 w5 ho hb hg hat; rw [← Ny427.out] at ho; have n0_ := Aside0.mk (hb); have n1_ := Aside0.mk (ho); clear HB; clear HO_3; have HB := n0_; have HO429 := n1_; clear n0_ n1_; clear ho hb hg hat))
      go_roundg k1
      case measure => have := HK1.out; omega
      case rel => exact ⟨(y427), (wrap64 (x4_1 + 1)), (by first | rfl | (simp; done) | (simp [*]; done)), H', ⟨by have := HK1.out; omega⟩, ⟨by (with_reducible repeat (first | apply Kd.R_alloc | apply Kd.R_drewN | apply Kd.R_drew)); exact HO429.out⟩, ⟨by repeat (first | (with_reducible first | exact HB.out | apply below_alloc | apply pw_below_drewN | apply below_drew1) | exact HB.out)⟩⟩
     ·rw [if_neg c4] at H
      exact absurd H (by simp)
    ·rw [if_neg c3] at H
     exact absurd H (by simp)
   ·rw [if_neg c2] at H
    have c2b0 : decide (x4_1 < (l0.length : Int)) = false := decide_eq_false c2
    clear c2
    replace H := Option.bind_eq_some_iff.mp H
    obtain ⟨t430, A60, H⟩ := H
    replace H : (if t430 = 0 then (barqueref09_Right.l1 k1 l0 0) else (some t430)) = some r := H
    have A6 := Aside0.mk A60
    clear A60
    by_cases c7 : t430 = 0
    ·rw [if_pos c7] at H
     have c7b0 : (t430 == 0) = true := beq_iff_eq.mpr c7
     have c7b1 : (t430 != 0) = false := bne_eq_false_iff_eq.mpr c7
     clear c7
     have H' := Aside0.mk H
     clear H
     obtain ⟨Ao8, co8, eo8⟩ := Kd.R_slice HO_3.out
     subst eo8
     go_wp2_with (first | ((with_reducible refine gate_callee (f := 50) rfl ?_); refine goesL_ (some 22) rfl rfl Tryd.func50 (by kernel_rfl) rfl #[.slice Ao8 x3_1.length co8] rfl (by (try simp only [List.map_toArray, List.map_cons, List.map_nil]); first | done | rfl | (simp only [List.length_drop, List.length_take]; rfl)) ?_; (with_reducible refine (barqueref09_together.calls k1 _ _ x3_1 t430 _ ?side1 ?side2 A6.out).mono ?_); (case side1 => repeat (first | exact (Kd.R_reads' HO_3.out).2.2 | (with_reducible refine Kd.C_alloc ?_ _) | (with_reducible refine Kd.C_drewN ?_ _) | (with_reducible refine Kd.C_drew ?_))); (case side2 => exact (Kd.R_reads' HO_3.out).2.1); rintro e w9 ⟨rfl, hb⟩; refine ⟨_, rfl, ?_⟩; have n0_ := Aside0.mk (Kd.R_below (by (with_reducible repeat (first | apply Kd.R_alloc | apply Kd.R_drewN | apply Kd.R_drew)); exact HO_3.out) hb); have n1_ := Aside0.mk (below_step (by repeat (first | (with_reducible first | exact HB.out | apply below_alloc | apply pw_below_drewN | apply below_drew1) | exact HB.out)) hb); clear HO_3; clear HB; have HO_3 := n0_; have HB := n1_; clear n0_ n1_; (try clear hb); (try clear hb2); (try clear hk); (try clear hi)))
     go_loopg [6] k1 (fun kq v6 w' => ∃ (x6_2 : Int), v6 = .int .i64 x6_2 ∧ Aside0 (barqueref09_Right.l1 kq l0 x6_2 = some r) ∧ Aside0 (kq ≤ k1) ∧ Aside0 (Below w.heap.size w w'))
     case atStart => exact ⟨(0), (by first | rfl | (simp; done) | (simp [*]; done)), H', ⟨Nat.le_refl _⟩, ⟨by repeat (first | (with_reducible first | exact HB.out | apply below_alloc | apply pw_below_drewN | apply below_drew1) | exact HB.out)⟩⟩
     case round =>
      clear H'
      try clear c2
      try clear c2b0
      try clear p2
      try clear c3
      try clear c3b0
      try clear c4
      try clear p4
      try clear q4
      try clear hx4
      try clear c5
      try clear p6
      try clear c7
      try clear c7b0
      try clear c7b1
      try clear hx426_0
      try clear hx426_1
      try clear hx426_2
      try clear hx426_3
      try clear p426
      try clear q426
      obtain ⟨x6_2, rfl, HA, HK2, HB⟩ := hrel
      cases gk with
      | zero => exact absurd HA.out (by simp [barqueref09_Right.l1])
      | succ k2 =>
       have H := HA.out
       clear HA
       simp only [barqueref09_Right.l1] at H
       by_cases c10 : x6_2 < (l0.length : Int)
       ·rw [if_pos c10] at H
        have c10b0 : decide (x6_2 < (l0.length : Int)) = true := decide_eq_true c10
        clear c10
        have HC11 := Aside0.mk H
        clear H
        go_upto_region 12 with (fail)
        go_cut [45] (fun v45 wc => ∃ (kq : Nat) (x45_10 : Bool), v45 = .bool x45_10 ∧ Aside0 (barqueref09_Right.j2 kq l0 x6_2 x45_10 = some r) ∧ Aside0 (kq ≤ k2) ∧ Aside0 (Below w.heap.size w wc))
        case first =>
         have H := HC11.out
         clear HC11
         by_cases c12 : 0 ≤ x6_2
         ·rw [if_pos c12] at H
          have c12b0 : decide (0 ≤ x6_2) = true := decide_eq_true c12
          clear c12
          (first | rw [c12b0] | (simp only [i64_w, i32_w]; rw [c12b0]) | skip)
          by_cases c13 : ((rd_T56 l0 x6_2).f1) < 0
          ·rw [if_pos c13] at H
           have c13b0 : decide (((rd_T56 l0 x6_2).f1) < 0) = true := decide_eq_true c13
           clear c13
           have H' := Aside0.mk H
           clear H
           have p431 : 0 ≤ (x6_2 : Int) := of_decide_eq_true (by first | (with_reducible assumption) | assumption)
           have q431 : x6_2 < (l0.length : Int) := of_decide_eq_true (by first | (with_reducible assumption) | assumption)
           obtain ⟨ad431, e431, hx431_0, hx431_1, hx431_2, hx431_3⟩ := at_T56 HR0.out x6_2 p431 q431
           cases e431
           replace hx431_0 := (HB.out.cell (World.block_lt_of_cell? w _ hx431_0)).trans hx431_0
           replace hx431_1 := (HB.out.cell (World.block_lt_of_cell? w _ hx431_1)).trans hx431_1
           replace hx431_2 := (HB.out.cell (World.block_lt_of_cell? w _ hx431_2)).trans hx431_2
           replace hx431_3 := (HB.out.cell (World.block_lt_of_cell? w _ hx431_3)).trans hx431_3
           replace p431 := eq_true p431
           replace q431 := eq_true q431
           go_wp2
           go_meet
           case rel => exact ⟨_, (true), (by first | rfl | (simp; done) | (simp [*]; done)), H', ⟨by have := HK1.out; have := HK2.out; first | omega | exact Nat.le_refl _⟩, ⟨by repeat (first | (with_reducible first | exact HB.out | apply below_alloc | apply pw_below_drewN | apply below_drew1) | exact HB.out)⟩⟩
          ·rw [if_neg c13] at H
           have c13b0 : decide (((rd_T56 l0 x6_2).f1) < 0) = false := decide_eq_false c13
           clear c13
           have H' := Aside0.mk H
           clear H
           have p431 : 0 ≤ (x6_2 : Int) := of_decide_eq_true (by first | (with_reducible assumption) | assumption)
           have q431 : x6_2 < (l0.length : Int) := of_decide_eq_true (by first | (with_reducible assumption) | assumption)
           obtain ⟨ad431, e431, hx431_0, hx431_1, hx431_2, hx431_3⟩ := at_T56 HR0.out x6_2 p431 q431
           cases e431
           replace hx431_0 := (HB.out.cell (World.block_lt_of_cell? w _ hx431_0)).trans hx431_0
           replace hx431_1 := (HB.out.cell (World.block_lt_of_cell? w _ hx431_1)).trans hx431_1
           replace hx431_2 := (HB.out.cell (World.block_lt_of_cell? w _ hx431_2)).trans hx431_2
           replace hx431_3 := (HB.out.cell (World.block_lt_of_cell? w _ hx431_3)).trans hx431_3
           replace p431 := eq_true p431
           replace q431 := eq_true q431
           have p432 : 0 ≤ (x6_2 : Int) := of_decide_eq_true (by first | (with_reducible assumption) | assumption)
           have q432 : x6_2 < (l0.length : Int) := of_decide_eq_true (by first | (with_reducible assumption) | assumption)
           obtain ⟨ad432, e432, hx432_0, hx432_1, hx432_2, hx432_3⟩ := at_T56 HR0.out x6_2 p432 q432
           obtain rfl : ad431 = ad432 := (by injection e432)
           replace hx432_0 := (HB.out.cell (World.block_lt_of_cell? w _ hx432_0)).trans hx432_0
           replace hx432_1 := (HB.out.cell (World.block_lt_of_cell? w _ hx432_1)).trans hx432_1
           replace hx432_2 := (HB.out.cell (World.block_lt_of_cell? w _ hx432_2)).trans hx432_2
           replace hx432_3 := (HB.out.cell (World.block_lt_of_cell? w _ hx432_3)).trans hx432_3
           replace p432 := eq_true p432
           replace q432 := eq_true q432
           go_wp2
           go_meet
           case rel => exact ⟨_, (decide (((rd_T56 l0 x6_2).f1) > 511)), (by first | rfl | (simp; done) | (simp [*]; done)), H', ⟨by have := HK1.out; have := HK2.out; first | omega | exact Nat.le_refl _⟩, ⟨by repeat (first | (with_reducible first | exact HB.out | apply below_alloc | apply pw_below_drewN | apply below_drew1) | exact HB.out)⟩⟩
         ·rw [if_neg c12] at H
          exact absurd H (by simp)
        case rest =>
         clear HC11
         try clear c1
         try clear c2
         try clear c2b0
         try clear p2
         try clear c3
         try clear c3b0
         try clear c4
         try clear p4
         try clear q4
         try clear hx4
         try clear c5
         try clear p6
         try clear c7
         try clear c7b0
         try clear c7b1
         try clear c10
         try clear c10b0
         try clear c12
         try clear c12b0
         try clear c13
         try clear c13b0
         try clear hx426_0
         try clear hx426_1
         try clear hx426_2
         try clear hx426_3
         try clear hx431_0
         try clear hx431_1
         try clear hx431_2
         try clear hx431_3
         try clear hx432_0
         try clear hx432_1
         try clear hx432_2
         try clear hx432_3
         try clear p2
         try clear p4
         try clear p426
         try clear p431
         try clear p432
         try clear p6
         try clear q4
         try clear q426
         try clear q431
         try clear q432
         obtain ⟨kq, x45_10, rfl, HA, HJ10, HB⟩ := hcut
         cases kq with
         | zero => exact absurd HA.out (by simp [barqueref09_Right.j2])
         | succ kj10 =>
          have H := HA.out
          clear HA
          simp only [barqueref09_Right.j2] at H
          by_cases c14 : x45_10 = true
          ·subst c14
           have H1 : (some 11) = some r := by rw [if_pos rfl] at H; exact H
           clear H
           have H := H1
           clear H1
           obtain rfl := Option.some.inj H
           go_wp2
           go_ret
           exact ⟨by first | rfl | (simp [errW_none, errW_some] <;> rfl) | (simp [*, errW_none, errW_some] <;> rfl), by repeat (first | (with_reducible first | exact HB.out | apply below_alloc | apply pw_below_drewN | apply below_drew1) | exact HB.out)⟩
          ·replace c14 := Bool.eq_false_iff.mpr c14
           subst c14
           have H1 : (if 0 ≤ x6_2 then (if x6_2 < (l0.length : Int) then (if ((rd_T56 l0 x6_2).f2) < 0 then (barqueref09_Right.j3 kj10 l0 x6_2 true) else (barqueref09_Right.j3 kj10 l0 x6_2 (decide (((rd_T56 l0 x6_2).f2) > 65536)))) else (none)) else (none)) = some r := by rw [if_neg (show ¬ (false = true) by decide)] at H; exact H
           clear H
           have H := H1
           clear H1
           have HC15 := Aside0.mk H
           clear H
           go_upto_region 14 with (fail)
           go_cut [59] (fun v59 wc => ∃ (kq : Nat) (x59_14 : Bool), v59 = .bool x59_14 ∧ Aside0 (barqueref09_Right.j3 kq l0 x6_2 x59_14 = some r) ∧ Aside0 (kq ≤ kj10) ∧ Aside0 (Below w.heap.size w wc))
           case first =>
            have H := HC15.out
            clear HC15
            by_cases c16 : 0 ≤ x6_2
            ·rw [if_pos c16] at H
             have c16b0 : decide (0 ≤ x6_2) = true := decide_eq_true c16
             clear c16
             (first | rw [c16b0] | (simp only [i64_w, i32_w]; rw [c16b0]) | skip)
             by_cases c17 : x6_2 < (l0.length : Int)
             ·rw [if_pos c17] at H
              have c17b0 : decide (x6_2 < (l0.length : Int)) = true := decide_eq_true c17
              clear c17
              by_cases c18 : ((rd_T56 l0 x6_2).f2) < 0
              ·rw [if_pos c18] at H
               have c18b0 : decide (((rd_T56 l0 x6_2).f2) < 0) = true := decide_eq_true c18
               clear c18
               have H' := Aside0.mk H
               clear H
               have p433 : 0 ≤ (x6_2 : Int) := of_decide_eq_true (by first | (with_reducible assumption) | assumption)
               have q433 : x6_2 < (l0.length : Int) := of_decide_eq_true (by first | (with_reducible assumption) | assumption)
               obtain ⟨ad433, e433, hx433_0, hx433_1, hx433_2, hx433_3⟩ := at_T56 HR0.out x6_2 p433 q433
               cases e433
               replace hx433_0 := (HB.out.cell (World.block_lt_of_cell? w _ hx433_0)).trans hx433_0
               replace hx433_1 := (HB.out.cell (World.block_lt_of_cell? w _ hx433_1)).trans hx433_1
               replace hx433_2 := (HB.out.cell (World.block_lt_of_cell? w _ hx433_2)).trans hx433_2
               replace hx433_3 := (HB.out.cell (World.block_lt_of_cell? w _ hx433_3)).trans hx433_3
               replace p433 := eq_true p433
               replace q433 := eq_true q433
               go_wp2
               go_meet
               case rel => exact ⟨_, (true), (by first | rfl | (simp; done) | (simp [*]; done)), H', ⟨by have := HK1.out; have := HK2.out; have := HJ10.out; first | omega | exact Nat.le_refl _⟩, ⟨by repeat (first | (with_reducible first | exact HB.out | apply below_alloc | apply pw_below_drewN | apply below_drew1) | exact HB.out)⟩⟩
              ·rw [if_neg c18] at H
               have c18b0 : decide (((rd_T56 l0 x6_2).f2) < 0) = false := decide_eq_false c18
               clear c18
               have H' := Aside0.mk H
               clear H
               have p433 : 0 ≤ (x6_2 : Int) := of_decide_eq_true (by first | (with_reducible assumption) | assumption)
               have q433 : x6_2 < (l0.length : Int) := of_decide_eq_true (by first | (with_reducible assumption) | assumption)
               obtain ⟨ad433, e433, hx433_0, hx433_1, hx433_2, hx433_3⟩ := at_T56 HR0.out x6_2 p433 q433
               cases e433
               replace hx433_0 := (HB.out.cell (World.block_lt_of_cell? w _ hx433_0)).trans hx433_0
               replace hx433_1 := (HB.out.cell (World.block_lt_of_cell? w _ hx433_1)).trans hx433_1
               replace hx433_2 := (HB.out.cell (World.block_lt_of_cell? w _ hx433_2)).trans hx433_2
               replace hx433_3 := (HB.out.cell (World.block_lt_of_cell? w _ hx433_3)).trans hx433_3
               replace p433 := eq_true p433
               replace q433 := eq_true q433
               have p434 : 0 ≤ (x6_2 : Int) := of_decide_eq_true (by first | (with_reducible assumption) | assumption)
               have q434 : x6_2 < (l0.length : Int) := of_decide_eq_true (by first | (with_reducible assumption) | assumption)
               obtain ⟨ad434, e434, hx434_0, hx434_1, hx434_2, hx434_3⟩ := at_T56 HR0.out x6_2 p434 q434
               obtain rfl : ad433 = ad434 := (by injection e434)
               replace hx434_0 := (HB.out.cell (World.block_lt_of_cell? w _ hx434_0)).trans hx434_0
               replace hx434_1 := (HB.out.cell (World.block_lt_of_cell? w _ hx434_1)).trans hx434_1
               replace hx434_2 := (HB.out.cell (World.block_lt_of_cell? w _ hx434_2)).trans hx434_2
               replace hx434_3 := (HB.out.cell (World.block_lt_of_cell? w _ hx434_3)).trans hx434_3
               replace p434 := eq_true p434
               replace q434 := eq_true q434
               go_wp2
               go_meet
               case rel => exact ⟨_, (decide (((rd_T56 l0 x6_2).f2) > 65536)), (by first | rfl | (simp; done) | (simp [*]; done)), H', ⟨by have := HK1.out; have := HK2.out; have := HJ10.out; first | omega | exact Nat.le_refl _⟩, ⟨by repeat (first | (with_reducible first | exact HB.out | apply below_alloc | apply pw_below_drewN | apply below_drew1) | exact HB.out)⟩⟩
             ·rw [if_neg c17] at H
              exact absurd H (by simp)
            ·rw [if_neg c16] at H
             exact absurd H (by simp)
           case rest =>
            clear HC15
            try clear c1
            try clear c2
            try clear c2b0
            try clear p2
            try clear c3
            try clear c3b0
            try clear c4
            try clear p4
            try clear q4
            try clear hx4
            try clear c5
            try clear p6
            try clear c7
            try clear c7b0
            try clear c7b1
            try clear c10
            try clear c10b0
            try clear c12
            try clear c12b0
            try clear c13
            try clear c13b0
            try clear c14
            try clear c16
            try clear c16b0
            try clear c17
            try clear c17b0
            try clear c18
            try clear c18b0
            try clear hx426_0
            try clear hx426_1
            try clear hx426_2
            try clear hx426_3
            try clear hx431_0
            try clear hx431_1
            try clear hx431_2
            try clear hx431_3
            try clear hx432_0
            try clear hx432_1
            try clear hx432_2
            try clear hx432_3
            try clear hx433_0
            try clear hx433_1
            try clear hx433_2
            try clear hx433_3
            try clear hx434_0
            try clear hx434_1
            try clear hx434_2
            try clear hx434_3
            try clear p2
            try clear p4
            try clear p426
            try clear p431
            try clear p432
            try clear p433
            try clear p434
            try clear p6
            try clear q4
            try clear q426
            try clear q431
            try clear q432
            try clear q433
            try clear q434
            obtain ⟨kq, x59_14, rfl, HA, HJ14, HB⟩ := hcut
            cases kq with
            | zero => exact absurd HA.out (by simp [barqueref09_Right.j3])
            | succ kj14 =>
             have H := HA.out
             clear HA
             simp only [barqueref09_Right.j3] at H
             by_cases c19 : x59_14 = true
             ·subst c19
              have H1 : (some 4) = some r := by rw [if_pos rfl] at H; exact H
              clear H
              have H := H1
              clear H1
              obtain rfl := Option.some.inj H
              go_wp2
              go_ret
              exact ⟨by first | rfl | (simp [errW_none, errW_some] <;> rfl) | (simp [*, errW_none, errW_some] <;> rfl), by repeat (first | (with_reducible first | exact HB.out | apply below_alloc | apply pw_below_drewN | apply below_drew1) | exact HB.out)⟩
             ·replace c19 := Bool.eq_false_iff.mpr c19
              subst c19
              have H1 : (if 0 ≤ x6_2 then (if x6_2 < (l0.length : Int) then (if (((rd_T56 l0 x6_2).f3).size : Int) = 32 then (barqueref09_Right.l1 kj14 l0 (wrap64 (x6_2 + 1))) else (some 5)) else (none)) else (none)) = some r := by rw [if_neg (show ¬ (false = true) by decide)] at H; exact H
              clear H
              have H := H1
              clear H1
              by_cases c20 : 0 ≤ x6_2
              ·rw [if_pos c20] at H
               have c20b0 : decide (0 ≤ x6_2) = true := decide_eq_true c20
               clear c20
               by_cases c21 : x6_2 < (l0.length : Int)
               ·rw [if_pos c21] at H
                have c21b0 : decide (x6_2 < (l0.length : Int)) = true := decide_eq_true c21
                clear c21
                by_cases c22 : (((rd_T56 l0 x6_2).f3).size : Int) = 32
                ·rw [if_pos c22] at H
                 have c22b0 : ((((rd_T56 l0 x6_2).f3).size : Int) == 32) = true := beq_iff_eq.mpr c22
                 have c22b1 : ((((rd_T56 l0 x6_2).f3).size : Int) != 32) = false := bne_eq_false_iff_eq.mpr c22
                 clear c22
                 have H' := Aside0.mk H
                 clear H
                 have p435 : 0 ≤ (x6_2 : Int) := of_decide_eq_true (by first | (with_reducible assumption) | assumption)
                 have q435 : x6_2 < (l0.length : Int) := of_decide_eq_true (by first | (with_reducible assumption) | assumption)
                 obtain ⟨ad435, e435, hx435_0, hx435_1, hx435_2, hx435_3⟩ := at_T56 HR0.out x6_2 p435 q435
                 cases e435
                 replace hx435_0 := (HB.out.cell (World.block_lt_of_cell? w _ hx435_0)).trans hx435_0
                 replace hx435_1 := (HB.out.cell (World.block_lt_of_cell? w _ hx435_1)).trans hx435_1
                 replace hx435_2 := (HB.out.cell (World.block_lt_of_cell? w _ hx435_2)).trans hx435_2
                 replace hx435_3 := (HB.out.cell (World.block_lt_of_cell? w _ hx435_3)).trans hx435_3
                 replace p435 := eq_true p435
                 replace q435 := eq_true q435
                 go_wp2
                 go_roundg kj14
                 case measure => have := HK1.out; have := HK2.out; have := HJ10.out; have := HJ14.out; omega
                 case rel => exact ⟨(wrap64 (x6_2 + 1)), (by first | rfl | (simp; done) | (simp [*]; done)), H', ⟨by have := HK1.out; have := HK2.out; have := HJ10.out; have := HJ14.out; omega⟩, ⟨by repeat (first | (with_reducible first | exact HB.out | apply below_alloc | apply pw_below_drewN | apply below_drew1) | exact HB.out)⟩⟩
                ·rw [if_neg c22] at H
                 have c22b0 : ((((rd_T56 l0 x6_2).f3).size : Int) == 32) = false := beq_eq_false_iff_ne.mpr c22
                 have c22b1 : ((((rd_T56 l0 x6_2).f3).size : Int) != 32) = true := bne_iff_ne.mpr c22
                 obtain rfl := Option.some.inj H
                 have p435 : 0 ≤ (x6_2 : Int) := of_decide_eq_true (by first | (with_reducible assumption) | assumption)
                 have q435 : x6_2 < (l0.length : Int) := of_decide_eq_true (by first | (with_reducible assumption) | assumption)
                 obtain ⟨ad435, e435, hx435_0, hx435_1, hx435_2, hx435_3⟩ := at_T56 HR0.out x6_2 p435 q435
                 cases e435
                 replace hx435_0 := (HB.out.cell (World.block_lt_of_cell? w _ hx435_0)).trans hx435_0
                 replace hx435_1 := (HB.out.cell (World.block_lt_of_cell? w _ hx435_1)).trans hx435_1
                 replace hx435_2 := (HB.out.cell (World.block_lt_of_cell? w _ hx435_2)).trans hx435_2
                 replace hx435_3 := (HB.out.cell (World.block_lt_of_cell? w _ hx435_3)).trans hx435_3
                 replace p435 := eq_true p435
                 replace q435 := eq_true q435
                 go_wp2
                 go_ret
                 exact ⟨by first | rfl | (simp [errW_none, errW_some] <;> rfl) | (simp [*, errW_none, errW_some] <;> rfl), by repeat (first | (with_reducible first | exact HB.out | apply below_alloc | apply pw_below_drewN | apply below_drew1) | exact HB.out)⟩
               ·rw [if_neg c21] at H
                exact absurd H (by simp)
              ·rw [if_neg c20] at H
               exact absurd H (by simp)
       ·rw [if_neg c10] at H
        have c10b0 : decide (x6_2 < (l0.length : Int)) = false := decide_eq_false c10
        clear c10
        obtain rfl := Option.some.inj H
        go_wp2
        go_ret
        exact ⟨by first | rfl | (simp [errW_none, errW_some] <;> rfl) | (simp [*, errW_none, errW_some] <;> rfl), by repeat (first | (with_reducible first | exact HB.out | apply below_alloc | apply pw_below_drewN | apply below_drew1) | exact HB.out)⟩
    ·rw [if_neg c7] at H
     have c7b0 : (t430 == 0) = false := beq_eq_false_iff_ne.mpr c7
     have c7b1 : (t430 != 0) = true := bne_iff_ne.mpr c7
     obtain rfl := Option.some.inj H
     obtain ⟨Ao23, co23, eo23⟩ := Kd.R_slice HO_3.out
     subst eo23
     go_wp2_with (first | ((with_reducible refine gate_callee (f := 50) rfl ?_); refine goesL_ (some 22) rfl rfl Tryd.func50 (by kernel_rfl) rfl #[.slice Ao23 x3_1.length co23] rfl (by (try simp only [List.map_toArray, List.map_cons, List.map_nil]); first | done | rfl | (simp only [List.length_drop, List.length_take]; rfl)) ?_; (with_reducible refine (barqueref09_together.calls k1 _ _ x3_1 t430 _ ?side1 ?side2 A6.out).mono ?_); (case side1 => repeat (first | exact (Kd.R_reads' HO_3.out).2.2 | (with_reducible refine Kd.C_alloc ?_ _) | (with_reducible refine Kd.C_drewN ?_ _) | (with_reducible refine Kd.C_drew ?_))); (case side2 => exact (Kd.R_reads' HO_3.out).2.1); rintro e w24 ⟨rfl, hb⟩; refine ⟨_, rfl, ?_⟩; have n0_ := Aside0.mk (Kd.R_below (by (with_reducible repeat (first | apply Kd.R_alloc | apply Kd.R_drewN | apply Kd.R_drew)); exact HO_3.out) hb); have n1_ := Aside0.mk (below_step (by repeat (first | (with_reducible first | exact HB.out | apply below_alloc | apply pw_below_drewN | apply below_drew1) | exact HB.out)) hb); clear HO_3; clear HB; have HO_3 := n0_; have HB := n1_; clear n0_ n1_; (try clear hb); (try clear hb2); (try clear hk); (try clear hi)))
     go_ret
     exact ⟨by first | rfl | (simp [errW_none, errW_some] <;> rfl) | (simp [*, errW_none, errW_some] <;> rfl), by repeat (first | (with_reducible first | exact HB.out | apply below_alloc | apply pw_below_drewN | apply below_drew1) | exact HB.out)⟩
end Go.Proofs.YtafjlibcdlihcaaDoor.G
end
section
namespace Go.Proofs.YtafjlibcdlihcaaDoor.G
open Go.RowKit Go.Proofs.YtafjlibcdlihcaaDoorW.PrintWords Go.Proofs.YtafjlibcdlihcaaDoorW.PrintLast Go.Proofs.YtafjlibcdlihcaaDoorW.PrintMore
set_option linter.unusedVariables false
set_option linter.unusedSimpArgs false
theorem rdM_nat (l : List S56) (i : Nat) (h : i < l.length) : rd_T56 l (i : Int) = l[i] := by
 simp [rd_T56, List.getD_eq_getElem?_getD, h]
def modesI : List S56 → Int
 | [] => 0
 | x :: l => if x.f1 < 0 ∨ 511 < x.f1 then 11 else if x.f2 < 0 ∨ 65536 < x.f2 then 4 else if x.f3.size = 32 then modesI l else 5
def rightE (l : List S56) : Int := if pathsE (l.map (·.f0)) = 0 then modesI l else pathsE (l.map (·.f0))
theorem right_l1 (l : List S56) (hl : l.length ≤ 4294967296) : ∀ (d i : Nat), l.length - i = d → i ≤ l.length →
  Ev (fun k => tree_Right.l1 k l l.length i) (modesI (l.drop i)) := by
 intro d
 induction d with
 | zero =>
  intro i hd hi
  have e : i = l.length := by omega
  subst e
  apply Ev.step
  ·intro k; rw [tree_Right.l1]
  have c1 : ¬ ((l.length : Int) < (l.length : Int)) := by omega
  simp only [c1, ↓reduceIte]
  rw [List.drop_eq_nil_of_le (Nat.le_refl _)]
  exact Ev.now _
 | succ d ih =>
  intro i hd hi
  have hlt : i < l.length := by omega
  apply Ev.step
  ·intro k; rw [tree_Right.l1]
  have c1 : ((i : Int) < (l.length : Int)) := by omega
  have c2 : (0 : Int) ≤ (i : Int) := by omega
  have hw : wrap64 ((i : Int) + 1) = ((i + 1 : Nat) : Int) := by rw [w64_ (by omega) (by omega)]; omega
  simp only [c1, c2, ↓reduceIte, rdM_nat l i hlt, hw, tree_mode.f]
  rw [List.drop_eq_getElem_cons hlt, modesI]
  obtain ⟨x, hx⟩ : ∃ x, l[i]'hlt = x := ⟨_, rfl⟩
  rw [hx]
  have hj : ∀ b : Bool, b = decide (x.f2 < 0 ∨ 65536 < x.f2) → Ev (fun k => tree_Right.j2 k l l.length i b x.f0 x.f1 x.f2 x.f3) (if x.f2 < 0 ∨ 65536 < x.f2 then 4 else if x.f3.size = 32 then modesI (l.drop (i + 1)) else 5) := by
   intro b hb
   apply Ev.step
   ·intro k; rw [tree_Right.j2]
   cases b with
   | true =>
    have h1 : x.f2 < 0 ∨ 65536 < x.f2 := of_decide_eq_true hb.symm
    simp only [h1, ↓reduceIte]
    exact Ev.now _
   | false =>
    have h1 : ¬ (x.f2 < 0 ∨ 65536 < x.f2) := of_decide_eq_false hb.symm
    simp only [h1, Bool.false_eq_true, ↓reduceIte, hw]
    by_cases h3 : x.f3.size = 32
    ·have g3 : (x.f3.size : Int) = 32 := by omega
     simp only [g3, h3, ↓reduceIte]
     exact ih (i + 1) (by omega) (by omega)
    ·have g3 : ¬ (x.f3.size : Int) = 32 := by omega
     simp only [g3, h3, ↓reduceIte]
     exact Ev.now _
  by_cases h1 : x.f1 < 0
  ·have g1 : ¬ x.f1 ≥ 0 := by omega
   simp only [g1, h1, true_or, ↓reduceIte, Option.bind_some, Bool.false_eq_true]
   exact Ev.now _
  ·have g1 : x.f1 ≥ 0 := by omega
   by_cases h2 : 511 < x.f1
   ·have g2 : decide (x.f1 ≤ 511) = false := by simp; omega
    simp only [g1, g2, h1, h2, or_true, ↓reduceIte, Option.bind_some, Bool.false_eq_true]
    exact Ev.now _
   ·have g2 : decide (x.f1 ≤ 511) = true := by simp; omega
    simp only [g1, g2, h1, h2, or_self, ↓reduceIte, Option.bind_some]
    by_cases h3 : x.f2 < 0
    ·have := hj true (by simp [h3])
     simp only [h3, ↓reduceIte] at this ⊢
     exact this
    ·have := hj (decide (x.f2 > 65536)) (by simp [h3])
     simp only [h3, ↓reduceIte] at this ⊢
     exact this
theorem right_l0 (l : List S56) (hl : l.length ≤ 4294967296) : ∀ (d i : Nat) (acc : List ByteArray), l.length - i = d → i ≤ l.length → acc = (l.take i).map (·.f0) →
  Ev (fun k => tree_Right.l0 k l acc l l.length i) (rightE l) := by
 intro d
 induction d with
 | zero =>
  intro i acc hd hi ha
  have e : i = l.length := by omega
  subst e
  apply Ev.step
  ·intro k; rw [tree_Right.l0]
  have c1 : ¬ ((l.length : Int) < (l.length : Int)) := by omega
  simp only [c1, ↓reduceIte]
  rw [List.take_length] at ha
  subst ha
  refine Ev.bind (paths_ev _ (by rw [List.length_map]; exact hl)) ?_
  unfold rightE
  by_cases h : pathsE (l.map (·.f0)) = 0
  ·simp only [h, ↓reduceIte]
   have h1 := right_l1 l hl l.length 0 (by omega) (by omega)
   simpa using h1
  ·simp only [h, ↓reduceIte]
   exact Ev.now _
 | succ d ih =>
  intro i acc hd hi ha
  have hlt : i < l.length := by omega
  apply Ev.step
  ·intro k; rw [tree_Right.l0]
  have c1 : ((i : Int) < (l.length : Int)) := by omega
  have c2 : (0 : Int) ≤ (i : Int) := by omega
  have c3 : acc.length < 8796093022208 := by rw [ha, List.length_map, List.length_take]; omega
  have hw : wrap64 ((i : Int) + 1) = ((i + 1 : Nat) : Int) := by rw [w64_ (by omega) (by omega)]; omega
  simp only [c1, c2, c3, ↓reduceIte, rdM_nat l i hlt, hw]
  refine ih (i + 1) _ (by omega) (by omega) ?_
  rw [ha, List.take_succ_eq_append_getElem hlt, List.map_append]
  rfl
theorem right_ev (l : List S56) (hl : l.length ≤ 4294967296) : Ev (fun k => tree_Right.f k l) (rightE l) := by
 unfold tree_Right.f
 have h := right_l0 l hl l.length 0 [] (by omega) (by omega) rfl
 simpa using h
theorem refright_l1 (l : List S56) (hl : l.length ≤ 4294967296) : ∀ (d i : Nat), l.length - i = d → i ≤ l.length →
  Ev (fun k => barqueref09_Right.l1 k l i) (modesI (l.drop i)) := by
 intro d
 induction d with
 | zero =>
  intro i hd hi
  have e : i = l.length := by omega
  subst e
  apply Ev.step
  ·intro k; rw [barqueref09_Right.l1]
  have c1 : ¬ ((l.length : Int) < (l.length : Int)) := by omega
  simp only [c1, ↓reduceIte]
  rw [List.drop_eq_nil_of_le (Nat.le_refl _)]
  exact Ev.now _
 | succ d ih =>
  intro i hd hi
  have hlt : i < l.length := by omega
  apply Ev.step
  ·intro k; rw [barqueref09_Right.l1]
  have c1 : ((i : Int) < (l.length : Int)) := by omega
  have c2 : (0 : Int) ≤ (i : Int) := by omega
  have hw : wrap64 ((i : Int) + 1) = ((i + 1 : Nat) : Int) := by rw [w64_ (by omega) (by omega)]; omega
  have hj3 : ∀ b : Bool, b = decide ((l[i]'hlt).f2 < 0 ∨ 65536 < (l[i]'hlt).f2) → Ev (fun k => barqueref09_Right.j3 k l i b) (if (l[i]'hlt).f2 < 0 ∨ 65536 < (l[i]'hlt).f2 then 4 else if (l[i]'hlt).f3.size = 32 then modesI (l.drop (i + 1)) else 5) := by
   intro b hb
   apply Ev.step
   ·intro k; rw [barqueref09_Right.j3]
   simp only [c1, c2, hw, ↓reduceIte, rdM_nat l i hlt]
   cases b with
   | true =>
    have h1 : (l[i]'hlt).f2 < 0 ∨ 65536 < (l[i]'hlt).f2 := of_decide_eq_true hb.symm
    simp only [h1, ↓reduceIte]
    exact Ev.now _
   | false =>
    have h1 : ¬ ((l[i]'hlt).f2 < 0 ∨ 65536 < (l[i]'hlt).f2) := of_decide_eq_false hb.symm
    simp only [h1, Bool.false_eq_true, ↓reduceIte]
    by_cases h3 : (l[i]'hlt).f3.size = 32
    ·have g3 : ((l[i]'hlt).f3.size : Int) = 32 := by omega
     simp only [g3, h3, ↓reduceIte]
     exact ih (i + 1) (by omega) (by omega)
    ·have g3 : ¬ ((l[i]'hlt).f3.size : Int) = 32 := by omega
     simp only [g3, h3, ↓reduceIte]
     exact Ev.now _
  have hj : ∀ b : Bool, b = decide ((l[i]'hlt).f1 < 0 ∨ 511 < (l[i]'hlt).f1) → Ev (fun k => barqueref09_Right.j2 k l i b) (modesI (l.drop i)) := by
   intro b hb
   apply Ev.step
   ·intro k; rw [barqueref09_Right.j2]
   rw [List.drop_eq_getElem_cons hlt, modesI]
   simp only [c1, c2, hw, ↓reduceIte, rdM_nat l i hlt]
   cases b with
   | true =>
    have h1 : (l[i]'hlt).f1 < 0 ∨ 511 < (l[i]'hlt).f1 := of_decide_eq_true hb.symm
    simp only [h1, ↓reduceIte]
    exact Ev.now _
   | false =>
    have h1 : ¬ ((l[i]'hlt).f1 < 0 ∨ 511 < (l[i]'hlt).f1) := of_decide_eq_false hb.symm
    simp only [h1, Bool.false_eq_true, ↓reduceIte]
    by_cases h3 : (l[i]'hlt).f2 < 0
    ·have := hj3 true (by simp [h3])
     simp only [h3, ↓reduceIte] at this ⊢
     exact this
    ·have := hj3 (decide ((l[i]'hlt).f2 > 65536)) (by simp [h3])
     simp only [h3, ↓reduceIte] at this ⊢
     exact this
  simp only [c1, c2, ↓reduceIte, rdM_nat l i hlt]
  by_cases h1 : (l[i]'hlt).f1 < 0
  ·simp only [h1, ↓reduceIte]
   exact hj true (by simp [h1])
  ·simp only [h1, ↓reduceIte]
   exact hj _ (by simp [h1])
theorem refright_l0 (l : List S56) (hl : l.length ≤ 4294967296) : ∀ (d i : Nat) (acc : List ByteArray), l.length - i = d → i ≤ l.length → acc = (l.take i).map (·.f0) →
  Ev (fun k => barqueref09_Right.l0 k l acc i) (rightE l) := by
 intro d
 induction d with
 | zero =>
  intro i acc hd hi ha
  have e : i = l.length := by omega
  subst e
  apply Ev.step
  ·intro k; rw [barqueref09_Right.l0]
  have c1 : ¬ ((l.length : Int) < (l.length : Int)) := by omega
  simp only [c1, ↓reduceIte]
  rw [List.take_length] at ha
  subst ha
  refine Ev.bind (together_ev _ (by rw [List.length_map]; exact hl)) ?_
  unfold rightE
  by_cases h : pathsE (l.map (·.f0)) = 0
  ·simp only [h, ↓reduceIte]
   have h1 := refright_l1 l hl l.length 0 (by omega) (by omega)
   simpa using h1
  ·simp only [h, ↓reduceIte]
   exact Ev.now _
 | succ d ih =>
  intro i acc hd hi ha
  have hlt : i < l.length := by omega
  apply Ev.step
  ·intro k; rw [barqueref09_Right.l0]
  have c1 : ((i : Int) < (l.length : Int)) := by omega
  have c2 : (0 : Int) ≤ (i : Int) := by omega
  have c3 : acc.length < 8796093022208 := by rw [ha, List.length_map, List.length_take]; omega
  have hw : wrap64 ((i : Int) + 1) = ((i + 1 : Nat) : Int) := by rw [w64_ (by omega) (by omega)]; omega
  simp only [c1, c2, c3, ↓reduceIte, rdM_nat l i hlt, hw]
  refine ih (i + 1) _ (by omega) (by omega) ?_
  rw [ha, List.take_succ_eq_append_getElem hlt, List.map_append]
  rfl
theorem refright_ev (l : List S56) (hl : l.length ≤ 4294967296) : Ev (fun k => barqueref09_Right.f k l) (rightE l) := by
 unfold barqueref09_Right.f
 have h := refright_l0 l hl l.length 0 [] (by omega) (by omega) rfl
 simpa using h
end Go.Proofs.YtafjlibcdlihcaaDoor.G
end
section
namespace Go.Proofs.YtafjlibcdlihcaaDoor.G
open Go.RowKit Go.Proofs.YtafjlibcdlihcaaDoorW.PrintWords Go.Proofs.YtafjlibcdlihcaaDoorW.PrintLast Go.Proofs.YtafjlibcdlihcaaDoorW.PrintMore
attribute [local go_sem] max2_int min2_int max_two min_two max_three min_three max_four min_four   -- for this text's walks alone
set_option linter.unusedVariables false
set_option linter.unusedSimpArgs false
def tree_shared.l0 : Nat → ByteArray → ByteArray → Int → Option (Int)
 | 0, _, _, _ => none
 | k + 1, x0, x1, x5 => if x5 < (mn (x0.size : Int) (x1.size : Int)) then (if 0 ≤ x5 then (if x5 < (x0.size : Int) then (if x5 < (x1.size : Int) then (if (bt x0 x5) = (bt x1 x5) then (tree_shared.l0 k x0 x1 (wrap64 (x5 + 1))) else (some x5)) else (none)) else (none)) else (none)) else (some x5)
def tree_shared.f (k : Nat) (a0 : ByteArray) (a1 : ByteArray) : Option (Int) := tree_shared.l0 k a0 a1 0
theorem tree_shared.mono_l : ∀ k, (∀ y0 y1 y2, LeO (tree_shared.l0 k y0 y1 y2) (tree_shared.l0 (k + 1) y0 y1 y2))
 | 0 => fun _ _ _ r h => by simp [tree_shared.l0] at h
 | k + 1 => by
  have ih0 := tree_shared.mono_l k
  ·intro y0 y1 y2
   unfold tree_shared.l0
   repeat' first
   | (with_reducible exact ih0 _ _ _)
   | (with_reducible exact LeO.refl _)
   | (with_reducible exact LeO.none _)
   | (with_reducible refine LeO.ite ?_ ?_)
   | (with_reducible refine LeO.bind ?_ (fun _ => ?_))
   | exact ih0 _ _ _
   | exact LeO.none _
   | refine LeO.ite ?_ ?_
   | refine LeO.bind ?_ (fun _ => ?_)
theorem tree_shared.mono : ∀ a0 a1 k, LeO (tree_shared.f k a0 a1) (tree_shared.f (k + 1) a0 a1) := by
 intro a0 a1 k
 have ih0 := tree_shared.mono_l k
 unfold tree_shared.f
 repeat' first
   | (with_reducible exact ih0 _ _ _)
   | (with_reducible exact LeO.refl _)
   | (with_reducible exact LeO.none _)
   | (with_reducible refine LeO.ite ?_ ?_)
   | (with_reducible refine LeO.bind ?_ (fun _ => ?_))
   | exact ih0 _ _ _
   | exact LeO.none _
   | refine LeO.ite ?_ ?_
   | refine LeO.bind ?_ (fun _ => ?_)
set_option maxHeartbeats 8000000 in
set_option maxRecDepth 100000 in
theorem tree_shared.calls (k : Nat) (a0 : ByteArray) (a1 : ByteArray) (r : Int) (w : World) (h : tree_shared.f k a0 a1 = some r) :
  Calls Tryd.prog 60 #[.string a0, .string a1] w fun e w' => e = .returned (.int .i64 r) ∧ Below w.heap.size w w' := by
 have HB := Aside0.mk (Below.refl w.heap.size w)
 have H : (tree_shared.l0 k a0 a1 0) = some r := h
 clear h
 have H' := Aside0.mk H
 clear H
 go_enter Tryd.func60, Tryd.ntmps60
 go_wp2
 repeat (go_quiet (fail); try go_wp2)
 go_loopg [5] k (fun kq v5 w' => ∃ (x5_1 : Int), v5 = .int .i64 x5_1 ∧ Aside0 (tree_shared.l0 kq a0 a1 x5_1 = some r) ∧ Aside0 (kq ≤ k) ∧ Aside0 (Below w.heap.size w w'))
 case atStart => exact ⟨(0), (by first | rfl | (simp; done) | (simp [*]; done)), H', ⟨Nat.le_refl _⟩, ⟨by repeat (first | (with_reducible first | exact HB.out | apply below_alloc | apply pw_below_drewN | apply below_drew1) | exact HB.out)⟩⟩
 case round =>
  clear H'
  try clear p2
  obtain ⟨x5_1, rfl, HA, HK1, HB⟩ := hrel
  cases gk with
  | zero => exact absurd HA.out (by simp [tree_shared.l0])
  | succ k1 =>
   have H := HA.out
   clear HA
   simp only [tree_shared.l0] at H
   obtain ⟨ji3, hji3⟩ : ∃ j_ : Int, (mn (a0.size : Int) (a1.size : Int)) = j_ := ⟨_, rfl⟩
   replace H : (if x5_1 < (ji3) then (if 0 ≤ x5_1 then (if x5_1 < (a0.size : Int) then (if x5_1 < (a1.size : Int) then (if (bt a0 x5_1) = (bt a1 x5_1) then (tree_shared.l0 k1 a0 a1 (wrap64 (x5_1 + 1))) else (some x5_1)) else (none)) else (none)) else (none)) else (some x5_1)) = some r := by first | (rw [hji3] at H; exact H) | (simp only [hji3] at H ⊢; exact H)
   (try (have hji3l : 0 ≤ ji3 := by (rw [← hji3]; unfold mn; (repeat' split) <;> omega)))
   (try (have hji3m : 0 ≤ ji3 := by omega))
   have hji3_ : (if (a1.size : Int) < (a0.size : Int) then (a1.size : Int) else (a0.size : Int)) = ji3 := hji3
   have hji3n : (if a1.size < a0.size then (a1.size : Int) else (a0.size : Int)) = ji3 := by rw [← hji3]; unfold mn; simp only [Int.ofNat_lt]
   by_cases c4 : x5_1 < (ji3)
   ·rw [if_pos c4] at H
    have c4b0 : decide (x5_1 < (ji3)) = true := decide_eq_true c4
    clear c4
    by_cases c5 : 0 ≤ x5_1
    ·rw [if_pos c5] at H
     have c5b0 : decide (0 ≤ x5_1) = true := decide_eq_true c5
     clear c5
     by_cases c6 : x5_1 < (a0.size : Int)
     ·rw [if_pos c6] at H
      have c6b0 : decide (x5_1 < (a0.size : Int)) = true := decide_eq_true c6
      clear c6
      by_cases c8 : x5_1 < (a1.size : Int)
      ·rw [if_pos c8] at H
       have c8b0 : decide (x5_1 < (a1.size : Int)) = true := decide_eq_true c8
       clear c8
       by_cases c10 : (bt a0 x5_1) = (bt a1 x5_1)
       ·rw [if_pos c10] at H
        have c10b0 : ((bt a0 x5_1) == (bt a1 x5_1)) = true := beq_iff_eq.mpr c10
        have c10b1 : ((bt a0 x5_1) != (bt a1 x5_1)) = false := bne_eq_false_iff_eq.mpr c10
        clear c10
        have H' := Aside0.mk H
        clear H
        have p7 : 0 ≤ (x5_1 : Int) := of_decide_eq_true (by first | (with_reducible assumption) | assumption)
        have q7 : x5_1 < (a0.size : Int) := of_decide_eq_true (by first | (with_reducible assumption) | assumption)
        have hx7 := bt_at a0 x5_1
        replace p7 := eq_true p7
        replace q7 := eq_true q7
        have p9 : 0 ≤ (x5_1 : Int) := of_decide_eq_true (by first | (with_reducible assumption) | assumption)
        have q9 : x5_1 < (a1.size : Int) := of_decide_eq_true (by first | (with_reducible assumption) | assumption)
        have hx9 := bt_at a1 x5_1
        replace p9 := eq_true p9
        replace q9 := eq_true q9
        go_wp2
        repeat (go_quiet (fail); try go_wp2)
        go_roundg k1
        case measure => have := HK1.out; omega
        case rel => exact ⟨(wrap64 (x5_1 + 1)), (by first | rfl | (simp; done) | (simp [*]; done)), H', ⟨by have := HK1.out; omega⟩, ⟨by repeat (first | (with_reducible first | exact HB.out | apply below_alloc | apply pw_below_drewN | apply below_drew1) | exact HB.out)⟩⟩
       ·rw [if_neg c10] at H
        have c10b0 : ((bt a0 x5_1) == (bt a1 x5_1)) = false := beq_eq_false_iff_ne.mpr c10
        have c10b1 : ((bt a0 x5_1) != (bt a1 x5_1)) = true := bne_iff_ne.mpr c10
        obtain rfl := Option.some.inj H
        have p7 : 0 ≤ (x5_1 : Int) := of_decide_eq_true (by first | (with_reducible assumption) | assumption)
        have q7 : x5_1 < (a0.size : Int) := of_decide_eq_true (by first | (with_reducible assumption) | assumption)
        have hx7 := bt_at a0 x5_1
        replace p7 := eq_true p7
        replace q7 := eq_true q7
        have p9 : 0 ≤ (x5_1 : Int) := of_decide_eq_true (by first | (with_reducible assumption) | assumption)
        have q9 : x5_1 < (a1.size : Int) := of_decide_eq_true (by first | (with_reducible assumption) | assumption)
        have hx9 := bt_at a1 x5_1
        replace p9 := eq_true p9
        replace q9 := eq_true q9
        go_wp2
        repeat (go_quiet (fail); try go_wp2)
        go_ret
        exact ⟨by first | rfl | (simp [errW_none, errW_some] <;> rfl) | (simp only [← hji3]; first | rfl | (simp [errW_none, errW_some] <;> rfl)) | (simp [*, errW_none, errW_some] <;> rfl), by repeat (first | (with_reducible first | exact HB.out | apply below_alloc | apply pw_below_drewN | apply below_drew1) | exact HB.out)⟩
      ·rw [if_neg c8] at H
       exact absurd H (by simp)
     ·rw [if_neg c6] at H
      exact absurd H (by simp)
    ·rw [if_neg c5] at H
     exact absurd H (by simp)
   ·rw [if_neg c4] at H
    have c4b0 : decide (x5_1 < (ji3)) = false := decide_eq_false c4
    clear c4
    obtain rfl := Option.some.inj H
    go_wp2
    repeat (go_quiet (fail); try go_wp2)
    go_ret
    exact ⟨by first | rfl | (simp [errW_none, errW_some] <;> rfl) | (simp only [← hji3]; first | rfl | (simp [errW_none, errW_some] <;> rfl)) | (simp [*, errW_none, errW_some] <;> rfl), by repeat (first | (with_reducible first | exact HB.out | apply below_alloc | apply pw_below_drewN | apply below_drew1) | exact HB.out)⟩
end Go.Proofs.YtafjlibcdlihcaaDoor.G
end
section
namespace Go.Proofs.YtafjlibcdlihcaaDoor.Bld
open Go.RowKit Go.Proofs.YtafjlibcdlihcaaDoorW.PrintWords
set_option linter.unusedVariables false
theorem infoByte : (Tryd.prog.info? 5).map (fun i => (i.zero, i.size, i.bytes)) = some (some (.int .u8 0), 1, 1) := by kernel_rfl
theorem sizeBuilder : (Tryd.prog.info? 72).map (fun i => i.size) = some 2 := by kernel_rfl
theorem liesBuilder : liesAt Tryd.prog Tryd.prog.depth 72 (2 / Tryd.prog.cellsOf 72) 0 72 1 = true := by kernel_rfl
set_option maxHeartbeats 1000000 in
set_option maxRecDepth 100000 in
theorem copyCheck_used (b : Nat) (w : World) (h0 : w.cell? ⟨b, 0, none⟩ = some (.pointer (some ⟨b, 0, none⟩))) :
  Calls Tryd.prog 88 #[.pointer (some ⟨b, 0, none⟩)] w fun e w' => e = .returned (.tuple #[]) ∧ w' = w := by
 obtain ⟨j, hj, _⟩ := Option.map_eq_some_iff.1 sizeBuilder
 go_enter Tryd.func88, Tryd.ntmps88
 go_wp2
 rw [Lib.run_neq_ptr_same w _ Tryd.underlying70 hj]
 go_wp2
 go_end0
 exact ⟨rfl, rfl⟩
set_option maxHeartbeats 1000000 in
set_option maxRecDepth 100000 in
theorem copyCheck_fresh (b : Nat) (w : World) (h0 : w.cell? ⟨b, 0, none⟩ = some (.pointer none)) (hsh : w.shape? b = some (72, 2)) (hfz : w.frozen? ⟨b, 0, none⟩ = false) :
  Calls Tryd.prog 88 #[.pointer (some ⟨b, 0, none⟩)] w fun e w' => e = .returned (.tuple #[]) ∧ w' = w.setCell ⟨b, 0, none⟩ (.pointer (some ⟨b, 0, none⟩)) := by
 obtain ⟨j, hj, hjs⟩ := Option.map_eq_some_iff.1 sizeBuilder
 go_enter Tryd.func88, Tryd.ntmps88
 go_wp2
 rw [Lib.run_to_unsafe w ⟨b, 0, none⟩ Tryd.underlying70 Tryd.underlying109 hj (by rw [hjs]; decide) hsh (Nat.zero_lt_succ 1)]
 simp only [Result.andThen]
 rw [Oper.upon_value]
 go_wp2
 rw [run_callFunc_extern Tryd.func101 (by kernel_rfl) (by kernel_rfl) (by kernel_rfl) (e := Extern.AbiNoEscape.same) (by kernel_rfl)]
 rw [Lib.run_noEscape]
 simp only [Result.andThen]
 rw [Oper.upon_value]
 go_wp2
 rw [Lib.run_from_unsafe w ⟨b, 0, none⟩ Tryd.underlying109 Tryd.underlying70 hj hsh liesBuilder]
 simp only [Result.andThen]
 rw [Oper.upon_value]
 go_wp2
 go_end0
 exact ⟨rfl, rfl⟩
theorem copyCheck (B b : Nat) (bs : List Value) (w : World) (h : Lib.IsBuilder 72 5 B b bs w) :
  Calls Tryd.prog 88 #[.pointer (some ⟨b, 0, none⟩)] w fun e w' => e = .returned (.tuple #[]) ∧ (Lib.BuilderAt 72 5 B b (.pointer (some ⟨b, 0, none⟩)) bs w' ∧ Below B w w' ∧ Lib.OthersKept 5 (some b) w w') := by
 rcases h with h | h
 ·refine (copyCheck_fresh b w h.cell0 h.shape h.frozen0).mono ?_
  rintro e w' ⟨rfl, rfl⟩
  exact ⟨rfl, h.used _, (Below.refl B w).setCell (p := ⟨b, 0, none⟩) h.1 _, (Lib.OthersKept.refl _ _ w).setCell ⟨b, 0, none⟩ rfl _⟩
 ·refine (copyCheck_used b w h.cell0).mono ?_
  rintro e w' ⟨rfl, rfl⟩
  exact ⟨rfl, h, Below.refl B _, Lib.OthersKept.refl _ _ _⟩
set_option maxHeartbeats 2000000 in
set_option maxRecDepth 100000 in
theorem writeString (B b : Nat) (bs : List Value) (s : ByteArray) (w : World) (h : Lib.IsBuilder 72 5 B b bs w) (hlen : bs.length + s.size ≤ 140737488355328) (hBw : B ≤ w.heap.size) :
  Calls Tryd.prog 59 #[.pointer (some ⟨b, 0, none⟩), .string s] w fun e w' => e = .returned (.tuple #[.int .i64 s.size, .nilIface]) ∧ (Lib.BuilderAt 72 5 B b (.pointer (some ⟨b, 0, none⟩)) (bs ++ Lib.strCells s) w' ∧ Below B w w' ∧ Lib.OthersKept 5 (some b) w w') := by
 obtain ⟨i0, hi, hz0, hz1, hz2⟩ := info_parts infoByte
 go_enter Tryd.func59, Tryd.ntmps59
 go_wp2_with (go_at_call 88; refine (copyCheck B b bs _ h).mono ?_)
 rintro e w1 ⟨rfl, h1, hb1, hk1⟩
 obtain ⟨hB, v, hbk, hown, hne⟩ := h1
 have c0 : w1.cell? ⟨b, 0, none⟩ = some (.pointer (some ⟨b, 0, none⟩)) := by rw [Lib.cell_of_heap hbk]; rfl
 have c1 : w1.cell? ⟨b, 1, none⟩ = some v := by rw [Lib.cell_of_heap hbk]; rfl
 go_wp2_with (at_builtin; refine Lib.wpList_append_own_string _ rfl _ _ 66 9 rfl B 5 i0 Tryd.underlying66 Tryd.underlying9 hi hz0 hz1 hz2 _ _ _ rfl hown s rfl ?c3 ?c4 ?c5 ?_)
 case c3 => unfold maxLen; omega
 case c4 => omega
 case c5 => have := hb1.size; omega
 intro v' w2 hown' hgrow _
 have hlt : b < w1.heap.size := by
  rcases Nat.lt_or_ge b w1.heap.size with h' | h'
  ·exact h'
  ·simp [Array.getElem?_eq_none h'] at hbk
 have hb2 : w2.heap[b]? = some (.cells #[.pointer (some ⟨b, 0, none⟩), v] 72 (0, 0)) := by
  rw [hgrow.block b hlt (fun e => hne e.symm)]
  exact hbk
 have d0 : w2.cell? ⟨b, 0, none⟩ = some (.pointer (some ⟨b, 0, none⟩)) := by rw [Lib.cell_of_heap hb2]; rfl
 have d1 : w2.cell? ⟨b, 1, none⟩ = some v := by rw [Lib.cell_of_heap hb2]; rfl
 have f1 : w2.frozen? ⟨b, 1, none⟩ = false := Lib.frozen_of_heap hb2 1
 obtain ⟨ao, n', cap, rfl⟩ : ∃ ao n' cap, v' = .slice ao n' cap := by
  rcases hown'.2 with ⟨hv, _⟩ | ⟨g, cap, cur, hv, _⟩
  ·exact ⟨_, _, _, hv⟩
  ·exact ⟨_, _, _, hv⟩
 go_wp2
 go_ret2
 refine ⟨rfl, ?_, ?_, (hk1.grown hgrow (Lib.ownsRowF_kind (World.ownsRowF_of hown))).setCell ⟨b, 1, none⟩ rfl _⟩
 ·exact Lib.BuilderAt.put (T := 72) (e := 5) hB hb2 (bs' := bs ++ Lib.strCells s) (by simpa [Lib.strCells_length] using hown') (by decide)
 ·exact (hb1.grown hgrow (by have := hb1.size; omega) (fun k hk => (hown.lt k hk).1)).setCell (p := ⟨b, 1, none⟩) hB _
/-- A call that makes newer blocks alone keeps the others. -/
theorem kept_of_below {e : TypeId} {b : Option Nat} {w w' : World} (h : Below w.heap.size w w') : Lib.OthersKept e b w w' := fun k o hk _ _ => (h.block k (Array.getElem?_eq_some_iff.1 hk).1).trans hk
/-- A builder stays as it is where only newer blocks turn. -/
theorem isB_below {T e : TypeId} {B b : Nat} {bs : List Value} {w w' : World} (h : Lib.IsBuilder T e B b bs w) (hb : Below w.heap.size w w') : Lib.IsBuilder T e B b bs w' := by
 have key : ∀ p, Lib.BuilderAt T e B b p bs w → Lib.BuilderAt T e B b p bs w' := fun p hp => by
  have hlt := hp.lt
  obtain ⟨hB, v, hbk, hown, hne⟩ := hp
  exact ⟨hB, v, (hb.block b hlt).trans hbk, own_move hown (fun k hk => hb.block k (own_lt hown k hk)), hne⟩
 rcases h with h | h
 ·exact .inl (key _ h)
 ·exact .inr (key _ h)
theorem isB_lt {T e : TypeId} {B b : Nat} {bs : List Value} {w : World} (h : Lib.IsBuilder T e B b bs w) : b < w.heap.size := by
 rcases h with h | h
 ·exact h.lt
 ·exact h.lt
theorem keepX {w w' : World} {g gx : Nat} {cs : Array Value} {t : TypeId} (hk : Lib.OthersKept 5 (some g) w w') (hx : w.heap[gx]? = some (.cells cs t (0, 0))) (hne : gx ≠ g) (ht : t ≠ 5) : w'.heap[gx]? = some (.cells cs t (0, 0)) :=
 hk gx _ hx (fun e => hne (Option.some.inj e)) (fun c fz e => by injection e with _ e2 _; exact ht e2)
theorem szl_ (s : ByteArray) : s.data.toList.length = s.size := by simp
theorem szx_ (s : ByteArray) (n : Nat) : (s.extract n s.size).size ≤ s.size := by rw [ByteArray.size_extract]; omega
theorem isB_wrote {T e : TypeId} {B b : Nat} {acc : List UInt8} {s : ByteArray} {w : World} (h : Lib.BuilderAt T e B b (.pointer (some ⟨b, 0, none⟩)) (Lib.byteCells acc ++ Lib.strCells s) w) : Lib.IsBuilder T e B b (Lib.byteCells (acc ++ s.data.toList)) w := by
 have e2 : Lib.byteCells (acc ++ s.data.toList) = Lib.byteCells acc ++ Lib.strCells s := by simp [Lib.byteCells, Lib.strCells]
 rw [e2]
 exact .inr h
end Go.Proofs.YtafjlibcdlihcaaDoor.Bld
end
