/- Texts of this session's claim of TreeBetweens, less what its theorem does not reach. No condition. -/
import Derived.Test.YtafjlibcdlihcaaDoorTW13
import Derived.Test.YtafjlibcdlihcaaDoorTW14
import Derived.Test.YtafjlibcdlihcaaDoorTW15
import Derived.Test.YtafjlibcdlihcaaDoorTW16
section
namespace Go.Proofs.YtafjlibcdlihcaaDoor.G
open Go.RowKit Go.Proofs.YtafjlibcdlihcaaDoorW.PrintWords Go.Proofs.YtafjlibcdlihcaaDoorW.PrintLast Go.Proofs.YtafjlibcdlihcaaDoorW.PrintMore
attribute [local go_sem] max2_int min2_int max_two min_two max_three min_three max_four min_four   -- for this text's walks alone
set_option linter.unusedVariables false
set_option linter.unusedSimpArgs false
mutual
def barqueref09_Between.j0 : Nat → List (S56) → List (S56) → Int → Option ((List (S44)) × Int)
  | 0, _, _, _ => none
  | k + 1, x0, x1, x6 => if x6 = 0 then (barqueref09_Between.l0 k x0 x1 ([] : List (S58)) 0) else (some (([] : List (S44)), x6))
def barqueref09_Between.l0 : Nat → List (S56) → List (S56) → List (S58) → Int → Option ((List (S44)) × Int)
  | 0, _, _, _, _ => none
  | k + 1, x0, x1, x7, x8 => if x8 < (x0.length : Int) then (if 0 ≤ x8 then (if x7.length < 3518437208883 then (barqueref09_Between.l0 k x0 x1 (x7 ++ [(⟨(rd_T56 x0 x8).f0, 0, (⟨#[]⟩ : ByteArray)⟩ : S58)]) (wrap64 (x8 + 1))) else (none)) else (none)) else (barqueref09_Between.l1 k x0 x1 x7 0)
def barqueref09_Between.l1 : Nat → List (S56) → List (S56) → List (S58) → Int → Option ((List (S44)) × Int)
  | 0, _, _, _, _ => none
  | k + 1, x0, x1, x7, x9 => if x9 < (x1.length : Int) then (if 0 ≤ x9 then ((barqueref09_place.f k x0 ((rd_T56 x1 x9).f0)).bind fun t467 => (if t467 < 0 then (if x7.length < 3518437208883 then (barqueref09_Between.l1 k x0 x1 (x7 ++ [(⟨(rd_T56 x1 x9).f0, 0, (⟨#[]⟩ : ByteArray)⟩ : S58)]) (wrap64 (x9 + 1))) else (none)) else (barqueref09_Between.l1 k x0 x1 x7 (wrap64 (x9 + 1))))) else (none)) else ((barqueref09_Sort.f k x7).bind fun t472 => (barqueref09_Between.l2 k x0 x1 t472 ([] : List (S44)) 0))
def barqueref09_Between.l2 : Nat → List (S56) → List (S56) → List (S58) → List (S44) → Int → Option ((List (S44)) × Int)
  | 0, _, _, _, _, _ => none
  | k + 1, x0, x1, x7, x10, x11 => if x11 < (x7.length : Int) then (if 0 ≤ x11 then ((barqueref09_place.f k x0 ((rd_T58 x7 x11).f0)).bind fun t476 => ((barqueref09_place.f k x1 ((rd_T58 x7 x11).f0)).bind fun t477 => (if t477 < 0 then (if 1 > 0 then (if x10.length < 5864062014805 then (barqueref09_Between.l2 k x0 x1 x7 (x10 ++ [(⟨1, (rd_T58 x7 x11).f0⟩ : S44)]) (wrap64 (x11 + 1))) else (none)) else (barqueref09_Between.l2 k x0 x1 x7 x10 (wrap64 (x11 + 1)))) else (if t476 < 0 then (if 2 > 0 then (if x10.length < 5864062014805 then (barqueref09_Between.l2 k x0 x1 x7 (x10 ++ [(⟨2, (rd_T58 x7 x11).f0⟩ : S44)]) (wrap64 (x11 + 1))) else (none)) else (barqueref09_Between.l2 k x0 x1 x7 x10 (wrap64 (x11 + 1)))) else (if 0 ≤ t476 then (if t476 < (x0.length : Int) then (if 0 ≤ t477 then (if t477 < (x1.length : Int) then (if ((rd_T56 x0 t476).f2) = ((rd_T56 x1 t477).f2) then (barqueref09_Between.j4 k x0 x1 x7 x10 x11 ((rd_T58 x7 x11).f0) t476 t477 0 (((rd_T56 x0 t476).f3).toList != ((rd_T56 x1 t477).f3).toList)) else (barqueref09_Between.j4 k x0 x1 x7 x10 x11 ((rd_T58 x7 x11).f0) t476 t477 0 true)) else (none)) else (none)) else (none)) else (none)))))) else (none)) else (some (x10, 0))
def barqueref09_Between.j4 : Nat → List (S56) → List (S56) → List (S58) → List (S44) → Int → ByteArray → Int → Int → Int → Bool → Option ((List (S44)) × Int)
  | 0, _, _, _, _, _, _, _, _, _, _ => none
  | k + 1, x0, x1, x7, x10, x11, x12, x13, x14, x15, x109 => if x109 = true then (if 3 > 0 then (if x10.length < 5864062014805 then (barqueref09_Between.l2 k x0 x1 x7 (x10 ++ [(⟨3, x12⟩ : S44)]) (wrap64 (x11 + 1))) else (none)) else (barqueref09_Between.l2 k x0 x1 x7 x10 (wrap64 (x11 + 1)))) else (if 0 ≤ x13 then (if x13 < (x0.length : Int) then (if 0 ≤ x14 then (if x14 < (x1.length : Int) then (if ((rd_T56 x0 x13).f1) = ((rd_T56 x1 x14).f1) then (if x15 > 0 then (if x10.length < 5864062014805 then (barqueref09_Between.l2 k x0 x1 x7 (x10 ++ [(⟨x15, x12⟩ : S44)]) (wrap64 (x11 + 1))) else (none)) else (barqueref09_Between.l2 k x0 x1 x7 x10 (wrap64 (x11 + 1)))) else (if 4 > 0 then (if x10.length < 5864062014805 then (barqueref09_Between.l2 k x0 x1 x7 (x10 ++ [(⟨4, x12⟩ : S44)]) (wrap64 (x11 + 1))) else (none)) else (barqueref09_Between.l2 k x0 x1 x7 x10 (wrap64 (x11 + 1))))) else (none)) else (none)) else (none)) else (none))
end
def barqueref09_Between.f (k : Nat) (l0 : List (S56)) (l1 : List (S56)) : Option ((List (S44)) × Int) := (barqueref09_Right.f k l0).bind fun t460 => (if t460 = 0 then ((barqueref09_Right.f k l1).bind fun t461 => (barqueref09_Between.j0 k l0 l1 t461)) else (barqueref09_Between.j0 k l0 l1 t460))
theorem barqueref09_Between.mono_l : ∀ k, (∀ y0 y1 y2, LeO (barqueref09_Between.j0 k y0 y1 y2) (barqueref09_Between.j0 (k + 1) y0 y1 y2)) ∧ (∀ y0 y1 y2 y3, LeO (barqueref09_Between.l0 k y0 y1 y2 y3) (barqueref09_Between.l0 (k + 1) y0 y1 y2 y3)) ∧ (∀ y0 y1 y2 y3, LeO (barqueref09_Between.l1 k y0 y1 y2 y3) (barqueref09_Between.l1 (k + 1) y0 y1 y2 y3)) ∧ (∀ y0 y1 y2 y3 y4, LeO (barqueref09_Between.l2 k y0 y1 y2 y3 y4) (barqueref09_Between.l2 (k + 1) y0 y1 y2 y3 y4)) ∧ (∀ y0 y1 y2 y3 y4 y5 y6 y7 y8 y9, LeO (barqueref09_Between.j4 k y0 y1 y2 y3 y4 y5 y6 y7 y8 y9) (barqueref09_Between.j4 (k + 1) y0 y1 y2 y3 y4 y5 y6 y7 y8 y9))
  | 0 => ⟨fun _ _ _ r h => by simp [barqueref09_Between.j0] at h, fun _ _ _ _ r h => by simp [barqueref09_Between.l0] at h, fun _ _ _ _ r h => by simp [barqueref09_Between.l1] at h, fun _ _ _ _ _ r h => by simp [barqueref09_Between.l2] at h, fun _ _ _ _ _ _ _ _ _ _ r h => by simp [barqueref09_Between.j4] at h⟩
  | k + 1 => by
    obtain ⟨ih0, ih1, ih2, ih3, ih4⟩ := barqueref09_Between.mono_l k
    refine ⟨?_, ?_, ?_, ?_, ?_⟩
    · intro y0 y1 y2
      unfold barqueref09_Between.j0
      repeat' first
      | (with_reducible exact ih0 _ _ _)
      | (with_reducible exact ih1 _ _ _ _)
      | (with_reducible exact ih2 _ _ _ _)
      | (with_reducible exact ih3 _ _ _ _ _)
      | (with_reducible exact ih4 _ _ _ _ _ _ _ _ _ _)
      | (with_reducible exact barqueref09_Right.mono _ _)
      | (with_reducible exact barqueref09_Sort.mono _ _)
      | (with_reducible exact barqueref09_place.mono _ _ _)
      | (with_reducible exact LeO.refl _)
      | (with_reducible exact LeO.none _)
      | (with_reducible refine LeO.ite ?_ ?_)
      | (with_reducible refine LeO.bind ?_ (fun _ => ?_))
      | exact ih0 _ _ _
      | exact ih1 _ _ _ _
      | exact ih2 _ _ _ _
      | exact ih3 _ _ _ _ _
      | exact ih4 _ _ _ _ _ _ _ _ _ _
      | exact barqueref09_Right.mono _ _
      | exact barqueref09_Sort.mono _ _
      | exact barqueref09_place.mono _ _ _
      | exact LeO.none _
      | refine LeO.ite ?_ ?_
      | refine LeO.bind ?_ (fun _ => ?_)
    · intro y0 y1 y2 y3
      unfold barqueref09_Between.l0
      repeat' first
      | (with_reducible exact ih0 _ _ _)
      | (with_reducible exact ih1 _ _ _ _)
      | (with_reducible exact ih2 _ _ _ _)
      | (with_reducible exact ih3 _ _ _ _ _)
      | (with_reducible exact ih4 _ _ _ _ _ _ _ _ _ _)
      | (with_reducible exact barqueref09_Right.mono _ _)
      | (with_reducible exact barqueref09_Sort.mono _ _)
      | (with_reducible exact barqueref09_place.mono _ _ _)
      | (with_reducible exact LeO.refl _)
      | (with_reducible exact LeO.none _)
      | (with_reducible refine LeO.ite ?_ ?_)
      | (with_reducible refine LeO.bind ?_ (fun _ => ?_))
      | exact ih0 _ _ _
      | exact ih1 _ _ _ _
      | exact ih2 _ _ _ _
      | exact ih3 _ _ _ _ _
      | exact ih4 _ _ _ _ _ _ _ _ _ _
      | exact barqueref09_Right.mono _ _
      | exact barqueref09_Sort.mono _ _
      | exact barqueref09_place.mono _ _ _
      | exact LeO.none _
      | refine LeO.ite ?_ ?_
      | refine LeO.bind ?_ (fun _ => ?_)
    · intro y0 y1 y2 y3
      unfold barqueref09_Between.l1
      repeat' first
      | (with_reducible exact ih0 _ _ _)
      | (with_reducible exact ih1 _ _ _ _)
      | (with_reducible exact ih2 _ _ _ _)
      | (with_reducible exact ih3 _ _ _ _ _)
      | (with_reducible exact ih4 _ _ _ _ _ _ _ _ _ _)
      | (with_reducible exact barqueref09_Right.mono _ _)
      | (with_reducible exact barqueref09_Sort.mono _ _)
      | (with_reducible exact barqueref09_place.mono _ _ _)
      | (with_reducible exact LeO.refl _)
      | (with_reducible exact LeO.none _)
      | (with_reducible refine LeO.ite ?_ ?_)
      | (with_reducible refine LeO.bind ?_ (fun _ => ?_))
      | exact ih0 _ _ _
      | exact ih1 _ _ _ _
      | exact ih2 _ _ _ _
      | exact ih3 _ _ _ _ _
      | exact ih4 _ _ _ _ _ _ _ _ _ _
      | exact barqueref09_Right.mono _ _
      | exact barqueref09_Sort.mono _ _
      | exact barqueref09_place.mono _ _ _
      | exact LeO.none _
      | refine LeO.ite ?_ ?_
      | refine LeO.bind ?_ (fun _ => ?_)
    · intro y0 y1 y2 y3 y4
      unfold barqueref09_Between.l2
      repeat' first
      | (with_reducible exact ih0 _ _ _)
      | (with_reducible exact ih1 _ _ _ _)
      | (with_reducible exact ih2 _ _ _ _)
      | (with_reducible exact ih3 _ _ _ _ _)
      | (with_reducible exact ih4 _ _ _ _ _ _ _ _ _ _)
      | (with_reducible exact barqueref09_Right.mono _ _)
      | (with_reducible exact barqueref09_Sort.mono _ _)
      | (with_reducible exact barqueref09_place.mono _ _ _)
      | (with_reducible exact LeO.refl _)
      | (with_reducible exact LeO.none _)
      | (with_reducible refine LeO.ite ?_ ?_)
      | (with_reducible refine LeO.bind ?_ (fun _ => ?_))
      | exact ih0 _ _ _
      | exact ih1 _ _ _ _
      | exact ih2 _ _ _ _
      | exact ih3 _ _ _ _ _
      | exact ih4 _ _ _ _ _ _ _ _ _ _
      | exact barqueref09_Right.mono _ _
      | exact barqueref09_Sort.mono _ _
      | exact barqueref09_place.mono _ _ _
      | exact LeO.none _
      | refine LeO.ite ?_ ?_
      | refine LeO.bind ?_ (fun _ => ?_)
    · intro y0 y1 y2 y3 y4 y5 y6 y7 y8 y9
      unfold barqueref09_Between.j4
      repeat' first
      | (with_reducible exact ih0 _ _ _)
      | (with_reducible exact ih1 _ _ _ _)
      | (with_reducible exact ih2 _ _ _ _)
      | (with_reducible exact ih3 _ _ _ _ _)
      | (with_reducible exact ih4 _ _ _ _ _ _ _ _ _ _)
      | (with_reducible exact barqueref09_Right.mono _ _)
      | (with_reducible exact barqueref09_Sort.mono _ _)
      | (with_reducible exact barqueref09_place.mono _ _ _)
      | (with_reducible exact LeO.refl _)
      | (with_reducible exact LeO.none _)
      | (with_reducible refine LeO.ite ?_ ?_)
      | (with_reducible refine LeO.bind ?_ (fun _ => ?_))
      | exact ih0 _ _ _
      | exact ih1 _ _ _ _
      | exact ih2 _ _ _ _
      | exact ih3 _ _ _ _ _
      | exact ih4 _ _ _ _ _ _ _ _ _ _
      | exact barqueref09_Right.mono _ _
      | exact barqueref09_Sort.mono _ _
      | exact barqueref09_place.mono _ _ _
      | exact LeO.none _
      | refine LeO.ite ?_ ?_
      | refine LeO.bind ?_ (fun _ => ?_)
theorem barqueref09_Between.mono : ∀ a0 a1 k, LeO (barqueref09_Between.f k a0 a1) (barqueref09_Between.f (k + 1) a0 a1) := by
  intro a0 a1 k
  obtain ⟨ih0, ih1, ih2, ih3, ih4⟩ := barqueref09_Between.mono_l k
  unfold barqueref09_Between.f
  repeat' first
      | (with_reducible exact ih0 _ _ _)
      | (with_reducible exact ih1 _ _ _ _)
      | (with_reducible exact ih2 _ _ _ _)
      | (with_reducible exact ih3 _ _ _ _ _)
      | (with_reducible exact ih4 _ _ _ _ _ _ _ _ _ _)
      | (with_reducible exact barqueref09_Right.mono _ _)
      | (with_reducible exact barqueref09_Sort.mono _ _)
      | (with_reducible exact barqueref09_place.mono _ _ _)
      | (with_reducible exact LeO.refl _)
      | (with_reducible exact LeO.none _)
      | (with_reducible refine LeO.ite ?_ ?_)
      | (with_reducible refine LeO.bind ?_ (fun _ => ?_))
      | exact ih0 _ _ _
      | exact ih1 _ _ _ _
      | exact ih2 _ _ _ _
      | exact ih3 _ _ _ _ _
      | exact ih4 _ _ _ _ _ _ _ _ _ _
      | exact barqueref09_Right.mono _ _
      | exact barqueref09_Sort.mono _ _
      | exact barqueref09_place.mono _ _ _
      | exact LeO.none _
      | refine LeO.ite ?_ ?_
      | refine LeO.bind ?_ (fun _ => ?_)
set_option maxHeartbeats 8000000 in
set_option maxRecDepth 100000 in
theorem barqueref09_Between.calls (k : Nat) (A0 : Option Addr) (c0 : Nat) (l0 : List (S56)) (A1 : Option Addr) (c1 : Nat) (l1 : List (S56)) (r1 : List (S44)) (r2 : Int) (w : World) (hr0 : Kd.C k56 w A0 l0.length l0) (hc0 : l0.length ≤ c0) (hr1 : Kd.C k56 w A1 l1.length l1) (hc1 : l1.length ≤ c1) (h : barqueref09_Between.f k l0 l1 = some (r1, r2)) :
    Calls Tryd.prog 30 #[.slice A0 l0.length c0, .slice A1 l1.length c1] w fun e w' => ∃ v0_ : Value, e = .returned (.tuple #[v0_, .int .i64 r2]) ∧ Kd.R k44 44 w' w.heap.size (fun _ => True) v0_ r1 ∧ Below w.heap.size w w' := by
  have hu58 := Tryd.underlying58
  have hu44 := Tryd.underlying44
  have HR0 := Aside0.mk hr0
  have HC0 := Aside0.mk hc0
  clear hr0 hc0
  have HR1 := Aside0.mk hr1
  have HC1 := Aside0.mk hc1
  clear hr1 hc1
  have HB := Aside0.mk (Below.refl w.heap.size w)
  have H : ((barqueref09_Right.f k l0).bind fun t460 => (if t460 = 0 then ((barqueref09_Right.f k l1).bind fun t461 => (barqueref09_Between.j0 k l0 l1 t461)) else (barqueref09_Between.j0 k l0 l1 t460))) = some (r1, r2) := h
  clear h
  replace H := Option.bind_eq_some_iff.mp H
  obtain ⟨t460, A30, H⟩ := H
  replace H : (if t460 = 0 then ((barqueref09_Right.f k l1).bind fun t461 => (barqueref09_Between.j0 k l0 l1 t461)) else (barqueref09_Between.j0 k l0 l1 t460)) = some (r1, r2) := H
  have A3 := Aside0.mk A30
  clear A30
  have HC4 := Aside0.mk H
  clear H
  go_enter Tryd.func30, Tryd.ntmps30
  go_upto_if 19 with (first | (go_at_call 35; (with_reducible refine (barqueref09_Right.calls k _ _ l0 t460 _ ?side1 ?side2 A3.out).mono ?_); (case side1 => repeat (first | exact HR0.out | (with_reducible refine Kd.C_alloc ?_ _) | (with_reducible refine Kd.C_drewN ?_ _) | (with_reducible refine Kd.C_drew ?_))); (case side2 => exact HC0.out); rintro e w5 ⟨rfl, hb⟩; have n0_ := Aside0.mk (below_step (by repeat (first | (with_reducible first | exact HB.out | apply below_alloc | apply pw_below_drewN | apply below_drew1) | exact HB.out)) hb); clear HB; have HB := n0_; clear n0_; (try clear hb); (try clear hb2); (try clear hk); (try clear hi)))
  repeat (go_quiet (first | (go_at_call 35; (with_reducible refine (barqueref09_Right.calls k _ _ l0 t460 _ ?side1 ?side2 A3.out).mono ?_); (case side1 => repeat (first | exact HR0.out | (with_reducible refine Kd.C_alloc ?_ _) | (with_reducible refine Kd.C_drewN ?_ _) | (with_reducible refine Kd.C_drew ?_))); (case side2 => exact HC0.out); rintro e w5 ⟨rfl, hb⟩; have n0_ := Aside0.mk (below_step (by repeat (first | (with_reducible first | exact HB.out | apply below_alloc | apply pw_below_drewN | apply below_drew1) | exact HB.out)) hb); clear HB; have HB := n0_; clear n0_; (try clear hb); (try clear hb2); (try clear hk); (try clear hi))); go_upto_if 19 with (first | (go_at_call 35; (with_reducible refine (barqueref09_Right.calls k _ _ l0 t460 _ ?side1 ?side2 A3.out).mono ?_); (case side1 => repeat (first | exact HR0.out | (with_reducible refine Kd.C_alloc ?_ _) | (with_reducible refine Kd.C_drewN ?_ _) | (with_reducible refine Kd.C_drew ?_))); (case side2 => exact HC0.out); rintro e w5 ⟨rfl, hb⟩; have n0_ := Aside0.mk (below_step (by repeat (first | (with_reducible first | exact HB.out | apply below_alloc | apply pw_below_drewN | apply below_drew1) | exact HB.out)) hb); clear HB; have HB := n0_; clear n0_; (try clear hb); (try clear hb2); (try clear hk); (try clear hi))))
  (try simp only [Act.put, List.setIfInBounds_toArray, List.set_cons_zero, List.set_cons_succ])
  go_cut [6] (fun v6 wc => ∃ (kq : Nat) (x6_3 : Int), v6 = .int .i64 x6_3 ∧ Aside0 (barqueref09_Between.j0 kq l0 l1 x6_3 = some (r1, r2)) ∧ Aside0 (kq ≤ k) ∧ Aside0 (Below w.heap.size w wc))
  case first =>
    have H := HC4.out
    clear HC4
    by_cases c6 : t460 = 0
    · rw [if_pos c6] at H
      have c6b0 : (t460 == 0) = true := beq_iff_eq.mpr c6
      have c6b1 : (t460 != 0) = false := bne_eq_false_iff_eq.mpr c6
      clear c6
      (first | rw [c6b0] | (simp only [i64_w, i32_w]; rw [c6b0]) | skip)
      replace H := Option.bind_eq_some_iff.mp H
      obtain ⟨t461, A70, H⟩ := H
      replace H : (barqueref09_Between.j0 k l0 l1 t461) = some (r1, r2) := H
      have A7 := Aside0.mk A70
      clear A70
      have H' := Aside0.mk H
      clear H
      go_wp2_with (first | (go_at_call 35; (with_reducible refine (barqueref09_Right.calls k _ _ l1 t461 _ ?side1 ?side2 A7.out).mono ?_); (case side1 => repeat (first | exact (Kd.C_below HR1.out HB.out) | (with_reducible refine Kd.C_alloc ?_ _) | (with_reducible refine Kd.C_drewN ?_ _) | (with_reducible refine Kd.C_drew ?_))); (case side2 => exact HC1.out); rintro e w8 ⟨rfl, hb⟩; have n0_ := Aside0.mk (below_step (by repeat (first | (with_reducible first | exact HB.out | apply below_alloc | apply pw_below_drewN | apply below_drew1) | exact HB.out)) hb); clear HB; have HB := n0_; clear n0_; (try clear hb); (try clear hb2); (try clear hk); (try clear hi)))
      repeat (go_quiet (first | (go_at_call 35; (with_reducible refine (barqueref09_Right.calls k _ _ l1 t461 _ ?side1 ?side2 A7.out).mono ?_); (case side1 => repeat (first | exact (Kd.C_below HR1.out HB.out) | (with_reducible refine Kd.C_alloc ?_ _) | (with_reducible refine Kd.C_drewN ?_ _) | (with_reducible refine Kd.C_drew ?_))); (case side2 => exact HC1.out); rintro e w8 ⟨rfl, hb⟩; have n0_ := Aside0.mk (below_step (by repeat (first | (with_reducible first | exact HB.out | apply below_alloc | apply pw_below_drewN | apply below_drew1) | exact HB.out)) hb); clear HB; have HB := n0_; clear n0_; (try clear hb); (try clear hb2); (try clear hk); (try clear hi))); try go_wp2_with (first | (go_at_call 35; (with_reducible refine (barqueref09_Right.calls k _ _ l1 t461 _ ?side1 ?side2 A7.out).mono ?_); (case side1 => repeat (first | exact (Kd.C_below HR1.out HB.out) | (with_reducible refine Kd.C_alloc ?_ _) | (with_reducible refine Kd.C_drewN ?_ _) | (with_reducible refine Kd.C_drew ?_))); (case side2 => exact HC1.out); rintro e w8 ⟨rfl, hb⟩; have n0_ := Aside0.mk (below_step (by repeat (first | (with_reducible first | exact HB.out | apply below_alloc | apply pw_below_drewN | apply below_drew1) | exact HB.out)) hb); clear HB; have HB := n0_; clear n0_; (try clear hb); (try clear hb2); (try clear hk); (try clear hi))))
      go_meet
      case rel => exact ⟨_, (t461), (by first | rfl | (simp; done) | (simp [*]; done)), H', ⟨by first | omega | exact Nat.le_refl _⟩, ⟨by repeat (first | (with_reducible first | exact HB.out | apply below_alloc | apply pw_below_drewN | apply below_drew1) | exact HB.out)⟩⟩
    · rw [if_neg c6] at H
      have c6b0 : (t460 == 0) = false := beq_eq_false_iff_ne.mpr c6
      have c6b1 : (t460 != 0) = true := bne_iff_ne.mpr c6
      (first | rw [c6b0] | (simp only [i64_w, i32_w]; rw [c6b0]) | skip)
      have H' := Aside0.mk H
      clear H
      go_wp2
      repeat (go_quiet (fail); try go_wp2)
      go_meet
      case rel => exact ⟨_, (t460), (by first | rfl | (simp; done) | (simp [*]; done)), H', ⟨by first | omega | exact Nat.le_refl _⟩, ⟨by repeat (first | (with_reducible first | exact HB.out | apply below_alloc | apply pw_below_drewN | apply below_drew1) | exact HB.out)⟩⟩
  case rest =>
    clear HC4
    try clear c1
    try clear p2
    try clear c3
    try clear c6
    try clear c6b0
    try clear c6b1
    obtain ⟨kq, x6_3, rfl, HA, HJ3, HB⟩ := hcut
    cases kq with
    | zero => exact absurd HA.out (by simp [barqueref09_Between.j0])
    | succ kj3 =>
      have H := HA.out
      clear HA
      simp only [barqueref09_Between.j0] at H
      by_cases c9 : x6_3 = 0
      · rw [if_pos c9] at H
        have c9b0 : (x6_3 == 0) = true := beq_iff_eq.mpr c9
        have c9b1 : (x6_3 != 0) = false := bne_eq_false_iff_eq.mpr c9
        clear c9
        have H' := Aside0.mk H
        clear H
        go_wp2
        repeat (go_quiet (fail); try go_wp2)
        go_loopg [7, 8] kj3 (fun kq v7 v8 w' => ∃ (x7_2 : List (S58)) (x8_2 : Int), v8 = .int .i64 x8_2 ∧ Aside0 (barqueref09_Between.l0 kq l0 l1 x7_2 x8_2 = some (r1, r2)) ∧ Aside0 (kq ≤ kj3) ∧ Aside0 (Kd.R k58 58 w' w.heap.size (fun _ => True) v7 x7_2) ∧ Aside0 (Below w.heap.size w w'))
        case atStart => exact ⟨(([] : List (S58))), (0), (by first | rfl | (simp; done) | (simp [*]; done)), H', ⟨Nat.le_refl _⟩, ⟨by first | exact Kd.R_nil _ _ _ _ _ | exact Kd.N_nil _ _ _ _ _ | exact Kd.V_nil _ _ _ _ _ | exact Kd.Q_nil _ _ _ _ _ | exact Kd.S_nil _ _ _ _ _⟩, ⟨by repeat (first | (with_reducible first | exact HB.out | apply below_alloc | apply pw_below_drewN | apply below_drew1) | exact HB.out)⟩⟩
        case round =>
          clear H'
          try clear c1
          try clear p2
          try clear c3
          try clear c6
          try clear c6b0
          try clear c6b1
          try clear c9
          try clear c9b0
          try clear c9b1
          try clear p2
          obtain ⟨x7_2, x8_2, rfl, HA, HK2, HO_7, HB⟩ := hrel
          cases gk with
          | zero => exact absurd HA.out (by simp [barqueref09_Between.l0])
          | succ k2 =>
            have H := HA.out
            clear HA
            simp only [barqueref09_Between.l0] at H
            by_cases c10 : x8_2 < (l0.length : Int)
            · rw [if_pos c10] at H
              have c10b0 : decide (x8_2 < (l0.length : Int)) = true := decide_eq_true c10
              clear c10
              by_cases c11 : 0 ≤ x8_2
              · rw [if_pos c11] at H
                have c11b0 : decide (0 ≤ x8_2) = true := decide_eq_true c11
                clear c11
                by_cases c12 : x7_2.length < 3518437208883
                · rw [if_pos c12] at H
                  have LMc12 := Aside0.mk c12
                  clear c12
                  obtain ⟨y463, hy463⟩ : ∃ y_ : List (S58), y_ = (x7_2 ++ [(⟨(rd_T56 l0 x8_2).f0, 0, (⟨#[]⟩ : ByteArray)⟩ : S58)]) := ⟨_, rfl⟩
                  replace H : (barqueref09_Between.l0 k2 l0 l1 y463 (wrap64 (x8_2 + 1))) = some (r1, r2) := by first | (rw [hy463]; with_reducible exact H) | (have H2_ := (Option.bind_some _ _).symm.trans H; rw [hy463]; with_reducible exact H2_) | (have H2_ := (Option.bind_some _ _).symm.trans H; with_reducible exact H2_) | with_reducible exact H | (rw [hy463]; exact H) | exact H
                  have Ny463 := Aside0.mk hy463
                  clear hy463
                  have H' := Aside0.mk H
                  clear H
                  have p462 : 0 ≤ (x8_2 : Int) := of_decide_eq_true (by first | (with_reducible assumption) | assumption)
                  have q462 : x8_2 < (l0.length : Int) := of_decide_eq_true (by first | (with_reducible assumption) | assumption)
                  obtain ⟨ad462, e462, hx462_0, hx462_1, hx462_2, hx462_3⟩ := at_T56 HR0.out x8_2 p462 q462
                  cases e462
                  replace hx462_0 := (HB.out.cell (World.block_lt_of_cell? w _ hx462_0)).trans hx462_0
                  replace hx462_1 := (HB.out.cell (World.block_lt_of_cell? w _ hx462_1)).trans hx462_1
                  replace hx462_2 := (HB.out.cell (World.block_lt_of_cell? w _ hx462_2)).trans hx462_2
                  replace hx462_3 := (HB.out.cell (World.block_lt_of_cell? w _ hx462_3)).trans hx462_3
                  replace p462 := eq_true p462
                  replace q462 := eq_true q462
                  go_wp2_with (first | ((with_reducible refine gate_builtin (b := .append) (xs := #[.tmp 31, .tmp 38]) rfl ?_); at_builtin; refine Kd.R_append k58 (w0 := w) w.heap.size rfl (.tmp 31) (.tmp 38) 29 58 (.agg #[(.string ⟨#[]⟩), (.int .i64 0), (.string ⟨#[]⟩)]) 40 rfl Tryd.underlying29 info58 rfl (by decide) (by omega) u7 x7_2 (⟨(rd_T56 l0 x8_2).f0, 0, (⟨#[]⟩ : ByteArray)⟩ : S58) [.string ((rd_T56 l0 x8_2).f0), .int .i64 0, .string (⟨#[]⟩ : ByteArray)] (fun _ => True) (fun _ => False) rfl rfl ?aP (fun _ hk => hk.elim) ?aF ?aO ?aB ?aS ?aL ?_; (case aP => exact k58_mkM _ _ _ (⟨(rd_T56 l0 x8_2).f0, 0, (⟨#[]⟩ : ByteArray)⟩ : S58)); (case aB => exact (by repeat (first | (with_reducible first | exact HB.out | apply below_alloc | apply pw_below_drewN | apply below_drew1) | exact HB.out))); (case aF => exact (fun _ _ => trivial)); (case aO => exact (by (with_reducible repeat (first | apply Kd.R_alloc | apply Kd.R_drewN | apply Kd.R_drew)); exact HO_7.out)); (case aS => exact (below_size (by repeat (first | (with_reducible first | exact HB.out | apply below_alloc | apply pw_below_drewN | apply below_drew1) | exact HB.out)))); (case aL => have := LMc12.out; omega); intro v464 w13 ho hb hg hat; rw [← Ny463.out] at ho; have n0_ := Aside0.mk (hb); have n1_ := Aside0.mk (ho); clear HB; clear HO_7; have HB := n0_; have HO465 := n1_; clear n0_ n1_; clear ho hb hg hat))
                  repeat (go_quiet (first | ((with_reducible refine gate_builtin (b := .append) (xs := #[.tmp 31, .tmp 38]) rfl ?_); at_builtin; refine Kd.R_append k58 (w0 := w) w.heap.size rfl (.tmp 31) (.tmp 38) 29 58 (.agg #[(.string ⟨#[]⟩), (.int .i64 0), (.string ⟨#[]⟩)]) 40 rfl Tryd.underlying29 info58 rfl (by decide) (by omega) u7 x7_2 (⟨(rd_T56 l0 x8_2).f0, 0, (⟨#[]⟩ : ByteArray)⟩ : S58) [.string ((rd_T56 l0 x8_2).f0), .int .i64 0, .string (⟨#[]⟩ : ByteArray)] (fun _ => True) (fun _ => False) rfl rfl ?aP (fun _ hk => hk.elim) ?aF ?aO ?aB ?aS ?aL ?_; (case aP => exact k58_mkM _ _ _ (⟨(rd_T56 l0 x8_2).f0, 0, (⟨#[]⟩ : ByteArray)⟩ : S58)); (case aB => exact (by repeat (first | (with_reducible first | exact HB.out | apply below_alloc | apply pw_below_drewN | apply below_drew1) | exact HB.out))); (case aF => exact (fun _ _ => trivial)); (case aO => exact (by (with_reducible repeat (first | apply Kd.R_alloc | apply Kd.R_drewN | apply Kd.R_drew)); exact HO_7.out)); (case aS => exact (below_size (by repeat (first | (with_reducible first | exact HB.out | apply below_alloc | apply pw_below_drewN | apply below_drew1) | exact HB.out)))); (case aL => have := LMc12.out; omega); intro v464 w13 ho hb hg hat; rw [← Ny463.out] at ho; have n0_ := Aside0.mk (hb); have n1_ := Aside0.mk (ho); clear HB; clear HO_7; have HB := n0_; have HO465 := n1_; clear n0_ n1_; clear ho hb hg hat)); try go_wp2_with (first | ((with_reducible refine gate_builtin (b := .append) (xs := #[.tmp 31, .tmp 38]) rfl ?_); at_builtin; refine Kd.R_append k58 (w0 := w) w.heap.size rfl (.tmp 31) (.tmp 38) 29 58 (.agg #[(.string ⟨#[]⟩), (.int .i64 0), (.string ⟨#[]⟩)]) 40 rfl Tryd.underlying29 info58 rfl (by decide) (by omega) u7 x7_2 (⟨(rd_T56 l0 x8_2).f0, 0, (⟨#[]⟩ : ByteArray)⟩ : S58) [.string ((rd_T56 l0 x8_2).f0), .int .i64 0, .string (⟨#[]⟩ : ByteArray)] (fun _ => True) (fun _ => False) rfl rfl ?aP (fun _ hk => hk.elim) ?aF ?aO ?aB ?aS ?aL ?_; (case aP => exact k58_mkM _ _ _ (⟨(rd_T56 l0 x8_2).f0, 0, (⟨#[]⟩ : ByteArray)⟩ : S58)); (case aB => exact (by repeat (first | (with_reducible first | exact HB.out | apply below_alloc | apply pw_below_drewN | apply below_drew1) | exact HB.out))); (case aF => exact (fun _ _ => trivial)); (case aO => exact (by (with_reducible repeat (first | apply Kd.R_alloc | apply Kd.R_drewN | apply Kd.R_drew)); exact HO_7.out)); (case aS => exact (below_size (by repeat (first | (with_reducible first | exact HB.out | apply below_alloc | apply pw_below_drewN | apply below_drew1) | exact HB.out)))); (case aL => have := LMc12.out; omega); intro v464 w13 ho hb hg hat; rw [← Ny463.out] at ho; have n0_ := Aside0.mk (hb); have n1_ := Aside0.mk (ho); clear HB; clear HO_7; have HB := n0_; have HO465 := n1_; clear n0_ n1_; clear ho hb hg hat)))
                  go_roundg k2
                  case measure => have := HJ3.out; have := HK2.out; omega
                  case rel => exact ⟨(y463), (wrap64 (x8_2 + 1)), (by first | rfl | (simp; done) | (simp [*]; done)), H', ⟨by have := HJ3.out; have := HK2.out; omega⟩, ⟨by (with_reducible repeat (first | apply Kd.R_alloc | apply Kd.R_drewN | apply Kd.R_drew)); exact HO465.out⟩, ⟨by repeat (first | (with_reducible first | exact HB.out | apply below_alloc | apply pw_below_drewN | apply below_drew1) | exact HB.out)⟩⟩
                · rw [if_neg c12] at H
                  exact absurd H (by simp)
              · rw [if_neg c11] at H
                exact absurd H (by simp)
            · rw [if_neg c10] at H
              have c10b0 : decide (x8_2 < (l0.length : Int)) = false := decide_eq_false c10
              clear c10
              have H' := Aside0.mk H
              clear H
              go_wp2
              repeat (go_quiet (fail); try go_wp2)
              go_loopg [7, 9] k2 (fun kq v7 v9 w' => ∃ (x7_3 : List (S58)) (x9_3 : Int), v9 = .int .i64 x9_3 ∧ Aside0 (barqueref09_Between.l1 kq l0 l1 x7_3 x9_3 = some (r1, r2)) ∧ Aside0 (kq ≤ k2) ∧ Aside0 (Kd.R k58 58 w' w.heap.size (fun _ => True) v7 x7_3) ∧ Aside0 (Below w.heap.size w w'))
              case atStart => exact ⟨(x7_2), (0), (by first | rfl | (simp; done) | (simp [*]; done)), H', ⟨Nat.le_refl _⟩, ⟨by (with_reducible repeat (first | apply Kd.R_alloc | apply Kd.R_drewN | apply Kd.R_drew)); exact HO_7.out⟩, ⟨by repeat (first | (with_reducible first | exact HB.out | apply below_alloc | apply pw_below_drewN | apply below_drew1) | exact HB.out)⟩⟩
              case round =>
                clear H'
                try clear c1
                try clear p2
                try clear c3
                try clear p4
                try clear q4
                try clear hx4
                try clear c6
                try clear c6b0
                try clear c6b1
                try clear p6
                try clear c9
                try clear c9b0
                try clear c9b1
                try clear c10
                try clear c10b0
                try clear c11
                try clear c11b0
                try clear c12
                try clear hx462_0
                try clear hx462_1
                try clear hx462_2
                try clear hx462_3
                try clear p2
                try clear p462
                try clear q462
                obtain ⟨x7_3, x9_3, rfl, HA, HK3, HO_7, HB⟩ := hrel
                cases gk with
                | zero => exact absurd HA.out (by simp [barqueref09_Between.l1])
                | succ k3 =>
                  have H := HA.out
                  clear HA
                  simp only [barqueref09_Between.l1] at H
                  by_cases c14 : x9_3 < (l1.length : Int)
                  · rw [if_pos c14] at H
                    have c14b0 : decide (x9_3 < (l1.length : Int)) = true := decide_eq_true c14
                    clear c14
                    by_cases c15 : 0 ≤ x9_3
                    · rw [if_pos c15] at H
                      have c15b0 : decide (0 ≤ x9_3) = true := decide_eq_true c15
                      clear c15
                      replace H := Option.bind_eq_some_iff.mp H
                      obtain ⟨t467, A160, H⟩ := H
                      replace H : (if t467 < 0 then (if x7_3.length < 3518437208883 then (barqueref09_Between.l1 k3 l0 l1 (x7_3 ++ [(⟨(rd_T56 l1 x9_3).f0, 0, (⟨#[]⟩ : ByteArray)⟩ : S58)]) (wrap64 (x9_3 + 1))) else (none)) else (barqueref09_Between.l1 k3 l0 l1 x7_3 (wrap64 (x9_3 + 1)))) = some (r1, r2) := H
                      have A16 := Aside0.mk A160
                      clear A160
                      by_cases c17 : t467 < 0
                      · rw [if_pos c17] at H
                        have c17b0 : decide (t467 < 0) = true := decide_eq_true c17
                        clear c17
                        by_cases c18 : x7_3.length < 3518437208883
                        · rw [if_pos c18] at H
                          have LMc18 := Aside0.mk c18
                          clear c18
                          obtain ⟨y469, hy469⟩ : ∃ y_ : List (S58), y_ = (x7_3 ++ [(⟨(rd_T56 l1 x9_3).f0, 0, (⟨#[]⟩ : ByteArray)⟩ : S58)]) := ⟨_, rfl⟩
                          replace H : (barqueref09_Between.l1 k3 l0 l1 y469 (wrap64 (x9_3 + 1))) = some (r1, r2) := by first | (rw [hy469]; with_reducible exact H) | (have H2_ := (Option.bind_some _ _).symm.trans H; rw [hy469]; with_reducible exact H2_) | (have H2_ := (Option.bind_some _ _).symm.trans H; with_reducible exact H2_) | with_reducible exact H | (rw [hy469]; exact H) | exact H
                          have Ny469 := Aside0.mk hy469
                          clear hy469
                          have H' := Aside0.mk H
                          clear H
                          have p466 : 0 ≤ (x9_3 : Int) := of_decide_eq_true (by first | (with_reducible assumption) | assumption)
                          have q466 : x9_3 < (l1.length : Int) := of_decide_eq_true (by first | (with_reducible assumption) | assumption)
                          obtain ⟨ad466, e466, hx466_0, hx466_1, hx466_2, hx466_3⟩ := at_T56 HR1.out x9_3 p466 q466
                          cases e466
                          replace hx466_0 := (HB.out.cell (World.block_lt_of_cell? w _ hx466_0)).trans hx466_0
                          replace hx466_1 := (HB.out.cell (World.block_lt_of_cell? w _ hx466_1)).trans hx466_1
                          replace hx466_2 := (HB.out.cell (World.block_lt_of_cell? w _ hx466_2)).trans hx466_2
                          replace hx466_3 := (HB.out.cell (World.block_lt_of_cell? w _ hx466_3)).trans hx466_3
                          replace p466 := eq_true p466
                          replace q466 := eq_true q466
                          go_wp2_with (first | (go_at_call 56; (with_reducible refine (barqueref09_place.calls k3 _ _ l0 ((rd_T56 l1 x9_3).f0) t467 _ ?side1 ?side2 A16.out).mono ?_); (case side1 => repeat (first | exact (Kd.C_below HR0.out HB.out) | (with_reducible refine Kd.C_alloc ?_ _) | (with_reducible refine Kd.C_drewN ?_ _) | (with_reducible refine Kd.C_drew ?_))); (case side2 => exact HC0.out); rintro e w' ⟨rfl, ⟨nd, rfl⟩⟩; (try first | exact ⟨rfl, _, World.drewN_drewN _ _ _⟩ | exact ⟨rfl, _, Eq.trans (World.drewN_drewN _ _ _) (congrArg (World.drewN _) (Nat.add_assoc _ _ _))⟩); have p468 : 0 ≤ (x9_3 : Int) := of_decide_eq_true (by first | (with_reducible assumption) | assumption); have q468 : x9_3 < (l1.length : Int) := of_decide_eq_true (by first | (with_reducible assumption) | assumption); obtain ⟨ad468, e468, hx468_0, hx468_1, hx468_2, hx468_3⟩ := at_T56 HR1.out x9_3 p468 q468; obtain rfl : ad466 = ad468 := (by injection e468); replace hx468_0 := (HB.out.cell (World.block_lt_of_cell? w _ hx468_0)).trans hx468_0; replace hx468_1 := (HB.out.cell (World.block_lt_of_cell? w _ hx468_1)).trans hx468_1; replace hx468_2 := (HB.out.cell (World.block_lt_of_cell? w _ hx468_2)).trans hx468_2; replace hx468_3 := (HB.out.cell (World.block_lt_of_cell? w _ hx468_3)).trans hx468_3; replace p468 := eq_true p468; replace q468 := eq_true q468) | ((with_reducible refine gate_builtin (b := .append) (xs := #[.tmp 54, .tmp 61]) rfl ?_); at_builtin; refine Kd.R_append k58 (w0 := w) w.heap.size rfl (.tmp 54) (.tmp 61) 29 58 (.agg #[(.string ⟨#[]⟩), (.int .i64 0), (.string ⟨#[]⟩)]) 40 rfl Tryd.underlying29 info58 rfl (by decide) (by omega) u7 x7_3 (⟨(rd_T56 l1 x9_3).f0, 0, (⟨#[]⟩ : ByteArray)⟩ : S58) [.string ((rd_T56 l1 x9_3).f0), .int .i64 0, .string (⟨#[]⟩ : ByteArray)] (fun _ => True) (fun _ => False) rfl rfl ?aP (fun _ hk => hk.elim) ?aF ?aO ?aB ?aS ?aL ?_; (case aP => exact k58_mkM _ _ _ (⟨(rd_T56 l1 x9_3).f0, 0, (⟨#[]⟩ : ByteArray)⟩ : S58)); (case aB => exact (by repeat (first | (with_reducible first | exact HB.out | apply below_alloc | apply pw_below_drewN | apply below_drew1) | exact HB.out))); (case aF => exact (fun _ _ => trivial)); (case aO => exact (by (with_reducible repeat (first | apply Kd.R_alloc | apply Kd.R_drewN | apply Kd.R_drew)); exact HO_7.out)); (case aS => exact (below_size (by repeat (first | (with_reducible first | exact HB.out | apply below_alloc | apply pw_below_drewN | apply below_drew1) | exact HB.out)))); (case aL => have := LMc18.out; omega); intro v470 w19 ho hb hg hat; rw [← Ny469.out] at ho; have n0_ := Aside0.mk (hb); have n1_ := Aside0.mk (ho); clear HB; clear HO_7; have HB := n0_; have HO471 := n1_; clear n0_ n1_; clear ho hb hg hat))
                          repeat (go_quiet (first | (go_at_call 56; (with_reducible refine (barqueref09_place.calls k3 _ _ l0 ((rd_T56 l1 x9_3).f0) t467 _ ?side1 ?side2 A16.out).mono ?_); (case side1 => repeat (first | exact (Kd.C_below HR0.out HB.out) | (with_reducible refine Kd.C_alloc ?_ _) | (with_reducible refine Kd.C_drewN ?_ _) | (with_reducible refine Kd.C_drew ?_))); (case side2 => exact HC0.out); rintro e w' ⟨rfl, ⟨nd, rfl⟩⟩; (try first | exact ⟨rfl, _, World.drewN_drewN _ _ _⟩ | exact ⟨rfl, _, Eq.trans (World.drewN_drewN _ _ _) (congrArg (World.drewN _) (Nat.add_assoc _ _ _))⟩); have p468 : 0 ≤ (x9_3 : Int) := of_decide_eq_true (by first | (with_reducible assumption) | assumption); have q468 : x9_3 < (l1.length : Int) := of_decide_eq_true (by first | (with_reducible assumption) | assumption); obtain ⟨ad468, e468, hx468_0, hx468_1, hx468_2, hx468_3⟩ := at_T56 HR1.out x9_3 p468 q468; obtain rfl : ad466 = ad468 := (by injection e468); replace hx468_0 := (HB.out.cell (World.block_lt_of_cell? w _ hx468_0)).trans hx468_0; replace hx468_1 := (HB.out.cell (World.block_lt_of_cell? w _ hx468_1)).trans hx468_1; replace hx468_2 := (HB.out.cell (World.block_lt_of_cell? w _ hx468_2)).trans hx468_2; replace hx468_3 := (HB.out.cell (World.block_lt_of_cell? w _ hx468_3)).trans hx468_3; replace p468 := eq_true p468; replace q468 := eq_true q468) | ((with_reducible refine gate_builtin (b := .append) (xs := #[.tmp 54, .tmp 61]) rfl ?_); at_builtin; refine Kd.R_append k58 (w0 := w) w.heap.size rfl (.tmp 54) (.tmp 61) 29 58 (.agg #[(.string ⟨#[]⟩), (.int .i64 0), (.string ⟨#[]⟩)]) 40 rfl Tryd.underlying29 info58 rfl (by decide) (by omega) u7 x7_3 (⟨(rd_T56 l1 x9_3).f0, 0, (⟨#[]⟩ : ByteArray)⟩ : S58) [.string ((rd_T56 l1 x9_3).f0), .int .i64 0, .string (⟨#[]⟩ : ByteArray)] (fun _ => True) (fun _ => False) rfl rfl ?aP (fun _ hk => hk.elim) ?aF ?aO ?aB ?aS ?aL ?_; (case aP => exact k58_mkM _ _ _ (⟨(rd_T56 l1 x9_3).f0, 0, (⟨#[]⟩ : ByteArray)⟩ : S58)); (case aB => exact (by repeat (first | (with_reducible first | exact HB.out | apply below_alloc | apply pw_below_drewN | apply below_drew1) | exact HB.out))); (case aF => exact (fun _ _ => trivial)); (case aO => exact (by (with_reducible repeat (first | apply Kd.R_alloc | apply Kd.R_drewN | apply Kd.R_drew)); exact HO_7.out)); (case aS => exact (below_size (by repeat (first | (with_reducible first | exact HB.out | apply below_alloc | apply pw_below_drewN | apply below_drew1) | exact HB.out)))); (case aL => have := LMc18.out; omega); intro v470 w19 ho hb hg hat; rw [← Ny469.out] at ho; have n0_ := Aside0.mk (hb); have n1_ := Aside0.mk (ho); clear HB; clear HO_7; have HB := n0_; have HO471 := n1_; clear n0_ n1_; clear ho hb hg hat)); try go_wp2_with (first | (go_at_call 56; (with_reducible refine (barqueref09_place.calls k3 _ _ l0 ((rd_T56 l1 x9_3).f0) t467 _ ?side1 ?side2 A16.out).mono ?_); (case side1 => repeat (first | exact (Kd.C_below HR0.out HB.out) | (with_reducible refine Kd.C_alloc ?_ _) | (with_reducible refine Kd.C_drewN ?_ _) | (with_reducible refine Kd.C_drew ?_))); (case side2 => exact HC0.out); rintro e w' ⟨rfl, ⟨nd, rfl⟩⟩; (try first | exact ⟨rfl, _, World.drewN_drewN _ _ _⟩ | exact ⟨rfl, _, Eq.trans (World.drewN_drewN _ _ _) (congrArg (World.drewN _) (Nat.add_assoc _ _ _))⟩); have p468 : 0 ≤ (x9_3 : Int) := of_decide_eq_true (by first | (with_reducible assumption) | assumption); have q468 : x9_3 < (l1.length : Int) := of_decide_eq_true (by first | (with_reducible assumption) | assumption); obtain ⟨ad468, e468, hx468_0, hx468_1, hx468_2, hx468_3⟩ := at_T56 HR1.out x9_3 p468 q468; obtain rfl : ad466 = ad468 := (by injection e468); replace hx468_0 := (HB.out.cell (World.block_lt_of_cell? w _ hx468_0)).trans hx468_0; replace hx468_1 := (HB.out.cell (World.block_lt_of_cell? w _ hx468_1)).trans hx468_1; replace hx468_2 := (HB.out.cell (World.block_lt_of_cell? w _ hx468_2)).trans hx468_2; replace hx468_3 := (HB.out.cell (World.block_lt_of_cell? w _ hx468_3)).trans hx468_3; replace p468 := eq_true p468; replace q468 := eq_true q468) | ((with_reducible refine gate_builtin (b := .append) (xs := #[.tmp 54, .tmp 61]) rfl ?_); at_builtin; refine Kd.R_append k58 (w0 := w) w.heap.size rfl (.tmp 54) (.tmp 61) 29 58 (.agg #[(.string ⟨#[]⟩), (.int .i64 0), (.string ⟨#[]⟩)]) 40 rfl Tryd.underlying29 info58 rfl (by decide) (by omega) u7 x7_3 (⟨(rd_T56 l1 x9_3).f0, 0, (⟨#[]⟩ : ByteArray)⟩ : S58) [.string ((rd_T56 l1 x9_3).f0), .int .i64 0, .string (⟨#[]⟩ : ByteArray)] (fun _ => True) (fun _ => False) rfl rfl ?aP (fun _ hk => hk.elim) ?aF ?aO ?aB ?aS ?aL ?_; (case aP => exact k58_mkM _ _ _ (⟨(rd_T56 l1 x9_3).f0, 0, (⟨#[]⟩ : ByteArray)⟩ : S58)); (case aB => exact (by repeat (first | (with_reducible first | exact HB.out | apply below_alloc | apply pw_below_drewN | apply below_drew1) | exact HB.out))); (case aF => exact (fun _ _ => trivial)); (case aO => exact (by (with_reducible repeat (first | apply Kd.R_alloc | apply Kd.R_drewN | apply Kd.R_drew)); exact HO_7.out)); (case aS => exact (below_size (by repeat (first | (with_reducible first | exact HB.out | apply below_alloc | apply pw_below_drewN | apply below_drew1) | exact HB.out)))); (case aL => have := LMc18.out; omega); intro v470 w19 ho hb hg hat; rw [← Ny469.out] at ho; have n0_ := Aside0.mk (hb); have n1_ := Aside0.mk (ho); clear HB; clear HO_7; have HB := n0_; have HO471 := n1_; clear n0_ n1_; clear ho hb hg hat)))
                          go_roundg k3
                          case measure => have := HJ3.out; have := HK2.out; have := HK3.out; omega
                          case rel => exact ⟨(y469), (wrap64 (x9_3 + 1)), (by first | rfl | (simp; done) | (simp [*]; done)), H', ⟨by have := HJ3.out; have := HK2.out; have := HK3.out; omega⟩, ⟨by (with_reducible repeat (first | apply Kd.R_alloc | apply Kd.R_drewN | apply Kd.R_drew)); exact HO471.out⟩, ⟨by repeat (first | (with_reducible first | exact HB.out | apply below_alloc | apply pw_below_drewN | apply below_drew1) | exact HB.out)⟩⟩
                        · rw [if_neg c18] at H
                          exact absurd H (by simp)
                      · rw [if_neg c17] at H
                        have c17b0 : decide (t467 < 0) = false := decide_eq_false c17
                        clear c17
                        have H' := Aside0.mk H
                        clear H
                        have p466 : 0 ≤ (x9_3 : Int) := of_decide_eq_true (by first | (with_reducible assumption) | assumption)
                        have q466 : x9_3 < (l1.length : Int) := of_decide_eq_true (by first | (with_reducible assumption) | assumption)
                        obtain ⟨ad466, e466, hx466_0, hx466_1, hx466_2, hx466_3⟩ := at_T56 HR1.out x9_3 p466 q466
                        cases e466
                        replace hx466_0 := (HB.out.cell (World.block_lt_of_cell? w _ hx466_0)).trans hx466_0
                        replace hx466_1 := (HB.out.cell (World.block_lt_of_cell? w _ hx466_1)).trans hx466_1
                        replace hx466_2 := (HB.out.cell (World.block_lt_of_cell? w _ hx466_2)).trans hx466_2
                        replace hx466_3 := (HB.out.cell (World.block_lt_of_cell? w _ hx466_3)).trans hx466_3
                        replace p466 := eq_true p466
                        replace q466 := eq_true q466
                        go_wp2_with (first | (go_at_call 56; (with_reducible refine (barqueref09_place.calls k3 _ _ l0 ((rd_T56 l1 x9_3).f0) t467 _ ?side1 ?side2 A16.out).mono ?_); (case side1 => repeat (first | exact (Kd.C_below HR0.out HB.out) | (with_reducible refine Kd.C_alloc ?_ _) | (with_reducible refine Kd.C_drewN ?_ _) | (with_reducible refine Kd.C_drew ?_))); (case side2 => exact HC0.out); rintro e w' ⟨rfl, ⟨nd, rfl⟩⟩; (try first | exact ⟨rfl, _, World.drewN_drewN _ _ _⟩ | exact ⟨rfl, _, Eq.trans (World.drewN_drewN _ _ _) (congrArg (World.drewN _) (Nat.add_assoc _ _ _))⟩)))
                        repeat (go_quiet (first | (go_at_call 56; (with_reducible refine (barqueref09_place.calls k3 _ _ l0 ((rd_T56 l1 x9_3).f0) t467 _ ?side1 ?side2 A16.out).mono ?_); (case side1 => repeat (first | exact (Kd.C_below HR0.out HB.out) | (with_reducible refine Kd.C_alloc ?_ _) | (with_reducible refine Kd.C_drewN ?_ _) | (with_reducible refine Kd.C_drew ?_))); (case side2 => exact HC0.out); rintro e w' ⟨rfl, ⟨nd, rfl⟩⟩; (try first | exact ⟨rfl, _, World.drewN_drewN _ _ _⟩ | exact ⟨rfl, _, Eq.trans (World.drewN_drewN _ _ _) (congrArg (World.drewN _) (Nat.add_assoc _ _ _))⟩))); try go_wp2_with (first | (go_at_call 56; (with_reducible refine (barqueref09_place.calls k3 _ _ l0 ((rd_T56 l1 x9_3).f0) t467 _ ?side1 ?side2 A16.out).mono ?_); (case side1 => repeat (first | exact (Kd.C_below HR0.out HB.out) | (with_reducible refine Kd.C_alloc ?_ _) | (with_reducible refine Kd.C_drewN ?_ _) | (with_reducible refine Kd.C_drew ?_))); (case side2 => exact HC0.out); rintro e w' ⟨rfl, ⟨nd, rfl⟩⟩; (try first | exact ⟨rfl, _, World.drewN_drewN _ _ _⟩ | exact ⟨rfl, _, Eq.trans (World.drewN_drewN _ _ _) (congrArg (World.drewN _) (Nat.add_assoc _ _ _))⟩))))
                        go_roundg k3
                        case measure => have := HJ3.out; have := HK2.out; have := HK3.out; omega
                        case rel => exact ⟨(x7_3), (wrap64 (x9_3 + 1)), (by first | rfl | (simp; done) | (simp [*]; done)), H', ⟨by have := HJ3.out; have := HK2.out; have := HK3.out; omega⟩, ⟨by (with_reducible repeat (first | apply Kd.R_alloc | apply Kd.R_drewN | apply Kd.R_drew)); exact HO_7.out⟩, ⟨by repeat (first | (with_reducible first | exact HB.out | apply below_alloc | apply pw_below_drewN | apply below_drew1) | exact HB.out)⟩⟩
                    · rw [if_neg c15] at H
                      exact absurd H (by simp)
                  · rw [if_neg c14] at H
                    have c14b0 : decide (x9_3 < (l1.length : Int)) = false := decide_eq_false c14
                    clear c14
                    replace H := Option.bind_eq_some_iff.mp H
                    obtain ⟨t472, A200, H⟩ := H
                    replace H : (barqueref09_Between.l2 k3 l0 l1 t472 ([] : List (S44)) 0) = some (r1, r2) := H
                    have A20 := Aside0.mk A200
                    clear A200
                    have H' := Aside0.mk H
                    clear H
                    obtain ⟨Ao21, co21, eo21⟩ := Kd.R_slice HO_7.out
                    subst eo21
                    go_wp2_with (first | (go_at_call 43; (with_reducible refine (barqueref09_Sort.calls k3 _ _ x7_3 t472 _ ?side1 ?side2 A20.out).mono ?_); (case side1 => repeat (first | exact (Kd.R_reads' HO_7.out).2.2 | (with_reducible refine Kd.C_alloc ?_ _) | (with_reducible refine Kd.C_drewN ?_ _) | (with_reducible refine Kd.C_drew ?_))); (case side2 => exact (Kd.R_reads' HO_7.out).2.1); rintro e w22 ⟨v473, rfl, ho0, hb⟩; have n0_ := Aside0.mk (Kd.R_elder' (by (with_reducible repeat (first | apply Kd.R_alloc | apply Kd.R_drewN | apply Kd.R_drew)); exact HO_7.out) (Kd.R_base ho0) hb); have n1_ := Aside0.mk (Kd.R_lower (Kd.R_new' ho0 (Kd.R_lt (by (with_reducible repeat (first | apply Kd.R_alloc | apply Kd.R_drewN | apply Kd.R_drew)); exact HO_7.out))) (below_size (by repeat (first | (with_reducible first | exact HB.out | apply below_alloc | apply pw_below_drewN | apply below_drew1) | exact HB.out)))); have n2_ := Aside0.mk (below_step (by repeat (first | (with_reducible first | exact HB.out | apply below_alloc | apply pw_below_drewN | apply below_drew1) | exact HB.out)) hb); clear HO_7; clear HB; have HO_7 := n0_; have HO474 := n1_; have HB := n2_; clear n0_ n1_ n2_; (try clear hb); (try clear hb2); (try clear hk); (try clear hi); (try clear ho0)))
                    repeat (go_quiet (first | (go_at_call 43; (with_reducible refine (barqueref09_Sort.calls k3 _ _ x7_3 t472 _ ?side1 ?side2 A20.out).mono ?_); (case side1 => repeat (first | exact (Kd.R_reads' HO_7.out).2.2 | (with_reducible refine Kd.C_alloc ?_ _) | (with_reducible refine Kd.C_drewN ?_ _) | (with_reducible refine Kd.C_drew ?_))); (case side2 => exact (Kd.R_reads' HO_7.out).2.1); rintro e w22 ⟨v473, rfl, ho0, hb⟩; have n0_ := Aside0.mk (Kd.R_elder' (by (with_reducible repeat (first | apply Kd.R_alloc | apply Kd.R_drewN | apply Kd.R_drew)); exact HO_7.out) (Kd.R_base ho0) hb); have n1_ := Aside0.mk (Kd.R_lower (Kd.R_new' ho0 (Kd.R_lt (by (with_reducible repeat (first | apply Kd.R_alloc | apply Kd.R_drewN | apply Kd.R_drew)); exact HO_7.out))) (below_size (by repeat (first | (with_reducible first | exact HB.out | apply below_alloc | apply pw_below_drewN | apply below_drew1) | exact HB.out)))); have n2_ := Aside0.mk (below_step (by repeat (first | (with_reducible first | exact HB.out | apply below_alloc | apply pw_below_drewN | apply below_drew1) | exact HB.out)) hb); clear HO_7; clear HB; have HO_7 := n0_; have HO474 := n1_; have HB := n2_; clear n0_ n1_ n2_; (try clear hb); (try clear hb2); (try clear hk); (try clear hi); (try clear ho0))); try go_wp2_with (first | (go_at_call 43; (with_reducible refine (barqueref09_Sort.calls k3 _ _ x7_3 t472 _ ?side1 ?side2 A20.out).mono ?_); (case side1 => repeat (first | exact (Kd.R_reads' HO_7.out).2.2 | (with_reducible refine Kd.C_alloc ?_ _) | (with_reducible refine Kd.C_drewN ?_ _) | (with_reducible refine Kd.C_drew ?_))); (case side2 => exact (Kd.R_reads' HO_7.out).2.1); rintro e w22 ⟨v473, rfl, ho0, hb⟩; have n0_ := Aside0.mk (Kd.R_elder' (by (with_reducible repeat (first | apply Kd.R_alloc | apply Kd.R_drewN | apply Kd.R_drew)); exact HO_7.out) (Kd.R_base ho0) hb); have n1_ := Aside0.mk (Kd.R_lower (Kd.R_new' ho0 (Kd.R_lt (by (with_reducible repeat (first | apply Kd.R_alloc | apply Kd.R_drewN | apply Kd.R_drew)); exact HO_7.out))) (below_size (by repeat (first | (with_reducible first | exact HB.out | apply below_alloc | apply pw_below_drewN | apply below_drew1) | exact HB.out)))); have n2_ := Aside0.mk (below_step (by repeat (first | (with_reducible first | exact HB.out | apply below_alloc | apply pw_below_drewN | apply below_drew1) | exact HB.out)) hb); clear HO_7; clear HB; have HO_7 := n0_; have HO474 := n1_; have HB := n2_; clear n0_ n1_ n2_; (try clear hb); (try clear hb2); (try clear hk); (try clear hi); (try clear ho0))))
                    go_loopg [10, 11] k3 (fun kq v10 v11 w' => ∃ (x10_4 : List (S44)) (x11_4 : Int), v11 = .int .i64 x11_4 ∧ Aside0 (barqueref09_Between.l2 kq l0 l1 t472 x10_4 x11_4 = some (r1, r2)) ∧ Aside0 (kq ≤ k3) ∧ Aside0 (Kd.R k58 58 w' w.heap.size (fun _ => True) v473 t472) ∧ Aside0 (Kd.R k44 44 w' w.heap.size (fun _ => True) v10 x10_4) ∧ Aside0 (Below w.heap.size w w'))
                    case atStart => exact ⟨(([] : List (S44))), (0), (by first | rfl | (simp; done) | (simp [*]; done)), H', ⟨Nat.le_refl _⟩, ⟨by (with_reducible repeat (first | apply Kd.R_alloc | apply Kd.R_drewN | apply Kd.R_drew)); exact Kd.R_mono HO474.out (fun _ hk => trivial)⟩, ⟨by first | exact Kd.R_nil _ _ _ _ _ | exact Kd.N_nil _ _ _ _ _ | exact Kd.V_nil _ _ _ _ _ | exact Kd.Q_nil _ _ _ _ _ | exact Kd.S_nil _ _ _ _ _⟩, ⟨by repeat (first | (with_reducible first | exact HB.out | apply below_alloc | apply pw_below_drewN | apply below_drew1) | exact HB.out)⟩⟩
                    case round =>
                      clear H'
                      try clear c1
                      try clear p2
                      try clear c3
                      try clear p4
                      try clear q4
                      try clear hx4
                      try clear c6
                      try clear c6b0
                      try clear c6b1
                      try clear p6
                      try clear c9
                      try clear c9b0
                      try clear c9b1
                      try clear c10
                      try clear c10b0
                      try clear c11
                      try clear c11b0
                      try clear c12
                      try clear c14
                      try clear c14b0
                      try clear c15
                      try clear c15b0
                      try clear c17
                      try clear c17b0
                      try clear c18
                      try clear hx462_0
                      try clear hx462_1
                      try clear hx462_2
                      try clear hx462_3
                      try clear hx466_0
                      try clear hx466_1
                      try clear hx466_2
                      try clear hx466_3
                      try clear hx468_0
                      try clear hx468_1
                      try clear hx468_2
                      try clear hx468_3
                      try clear p2
                      try clear p4
                      try clear p462
                      try clear p466
                      try clear p468
                      try clear p6
                      try clear q4
                      try clear q462
                      try clear q466
                      try clear q468
                      obtain ⟨x10_4, x11_4, rfl, HA, HK4, HO_7, HO_10, HB⟩ := hrel
                      cases gk with
                      | zero => exact absurd HA.out (by simp [barqueref09_Between.l2])
                      | succ k4 =>
                        have H := HA.out
                        clear HA
                        simp only [barqueref09_Between.l2] at H
                        by_cases c23 : x11_4 < (t472.length : Int)
                        · rw [if_pos c23] at H
                          have c23b0 : decide (x11_4 < (t472.length : Int)) = true := decide_eq_true c23
                          clear c23
                          by_cases c24 : 0 ≤ x11_4
                          · rw [if_pos c24] at H
                            have c24b0 : decide (0 ≤ x11_4) = true := decide_eq_true c24
                            clear c24
                            replace H := Option.bind_eq_some_iff.mp H
                            obtain ⟨t476, A250, H⟩ := H
                            replace H : ((barqueref09_place.f k4 l1 ((rd_T58 t472 x11_4).f0)).bind fun t477 => (if t477 < 0 then (if 1 > 0 then (if x10_4.length < 5864062014805 then (barqueref09_Between.l2 k4 l0 l1 t472 (x10_4 ++ [(⟨1, (rd_T58 t472 x11_4).f0⟩ : S44)]) (wrap64 (x11_4 + 1))) else (none)) else (barqueref09_Between.l2 k4 l0 l1 t472 x10_4 (wrap64 (x11_4 + 1)))) else (if t476 < 0 then (if 2 > 0 then (if x10_4.length < 5864062014805 then (barqueref09_Between.l2 k4 l0 l1 t472 (x10_4 ++ [(⟨2, (rd_T58 t472 x11_4).f0⟩ : S44)]) (wrap64 (x11_4 + 1))) else (none)) else (barqueref09_Between.l2 k4 l0 l1 t472 x10_4 (wrap64 (x11_4 + 1)))) else (if 0 ≤ t476 then (if t476 < (l0.length : Int) then (if 0 ≤ t477 then (if t477 < (l1.length : Int) then (if ((rd_T56 l0 t476).f2) = ((rd_T56 l1 t477).f2) then (barqueref09_Between.j4 k4 l0 l1 t472 x10_4 x11_4 ((rd_T58 t472 x11_4).f0) t476 t477 0 (((rd_T56 l0 t476).f3).toList != ((rd_T56 l1 t477).f3).toList)) else (barqueref09_Between.j4 k4 l0 l1 t472 x10_4 x11_4 ((rd_T58 t472 x11_4).f0) t476 t477 0 true)) else (none)) else (none)) else (none)) else (none))))) = some (r1, r2) := H
                            have A25 := Aside0.mk A250
                            clear A250
                            replace H := Option.bind_eq_some_iff.mp H
                            obtain ⟨t477, A260, H⟩ := H
                            replace H : (if t477 < 0 then (if 1 > 0 then (if x10_4.length < 5864062014805 then (barqueref09_Between.l2 k4 l0 l1 t472 (x10_4 ++ [(⟨1, (rd_T58 t472 x11_4).f0⟩ : S44)]) (wrap64 (x11_4 + 1))) else (none)) else (barqueref09_Between.l2 k4 l0 l1 t472 x10_4 (wrap64 (x11_4 + 1)))) else (if t476 < 0 then (if 2 > 0 then (if x10_4.length < 5864062014805 then (barqueref09_Between.l2 k4 l0 l1 t472 (x10_4 ++ [(⟨2, (rd_T58 t472 x11_4).f0⟩ : S44)]) (wrap64 (x11_4 + 1))) else (none)) else (barqueref09_Between.l2 k4 l0 l1 t472 x10_4 (wrap64 (x11_4 + 1)))) else (if 0 ≤ t476 then (if t476 < (l0.length : Int) then (if 0 ≤ t477 then (if t477 < (l1.length : Int) then (if ((rd_T56 l0 t476).f2) = ((rd_T56 l1 t477).f2) then (barqueref09_Between.j4 k4 l0 l1 t472 x10_4 x11_4 ((rd_T58 t472 x11_4).f0) t476 t477 0 (((rd_T56 l0 t476).f3).toList != ((rd_T56 l1 t477).f3).toList)) else (barqueref09_Between.j4 k4 l0 l1 t472 x10_4 x11_4 ((rd_T58 t472 x11_4).f0) t476 t477 0 true)) else (none)) else (none)) else (none)) else (none)))) = some (r1, r2) := H
                            have A26 := Aside0.mk A260
                            clear A260
                            by_cases c27 : t477 < 0
                            · rw [if_pos c27] at H
                              have c27b0 : decide (t477 < 0) = true := decide_eq_true c27
                              clear c27
                              by_cases c28 : 1 > 0
                              · rw [if_pos c28] at H
                                have c28b0 : decide (0 < 1) = true := decide_eq_true c28
                                clear c28
                                by_cases c29 : x10_4.length < 5864062014805
                                · rw [if_pos c29] at H
                                  have LMc29 := Aside0.mk c29
                                  clear c29
                                  obtain ⟨y478, hy478⟩ : ∃ y_ : List (S44), y_ = (x10_4 ++ [(⟨1, (rd_T58 t472 x11_4).f0⟩ : S44)]) := ⟨_, rfl⟩
                                  replace H : (barqueref09_Between.l2 k4 l0 l1 t472 y478 (wrap64 (x11_4 + 1))) = some (r1, r2) := by first | (rw [hy478]; with_reducible exact H) | (have H2_ := (Option.bind_some _ _).symm.trans H; rw [hy478]; with_reducible exact H2_) | (have H2_ := (Option.bind_some _ _).symm.trans H; with_reducible exact H2_) | with_reducible exact H | (rw [hy478]; exact H) | exact H
                                  have Ny478 := Aside0.mk hy478
                                  clear hy478
                                  have H' := Aside0.mk H
                                  clear H
                                  obtain ⟨Ao30, co30, eo30⟩ := Kd.R_slice HO_7.out
                                  subst eo30
                                  have p475 : 0 ≤ (x11_4 : Int) := of_decide_eq_true (by first | (with_reducible assumption) | assumption)
                                  have q475 : x11_4 < (t472.length : Int) := of_decide_eq_true (by first | (with_reducible assumption) | assumption)
                                  obtain ⟨ad475, e475, hx475_0, hx475_1, hx475_2⟩ := at_T58 (Kd.R_reads' HO_7.out).2.2 x11_4 p475 q475
                                  cases e475
                                  replace p475 := eq_true p475
                                  replace q475 := eq_true q475
                                  go_wp2_with (first | (go_at_call 56; (with_reducible refine (barqueref09_place.calls k4 _ _ l0 ((rd_T58 t472 x11_4).f0) t476 _ ?side1 ?side2 A25.out).mono ?_); (case side1 => repeat (first | exact (Kd.C_below HR0.out HB.out) | (with_reducible refine Kd.C_alloc ?_ _) | (with_reducible refine Kd.C_drewN ?_ _) | (with_reducible refine Kd.C_drew ?_))); (case side2 => exact HC0.out); rintro e w' ⟨rfl, ⟨nd, rfl⟩⟩; (try first | exact ⟨rfl, _, World.drewN_drewN _ _ _⟩ | exact ⟨rfl, _, Eq.trans (World.drewN_drewN _ _ _) (congrArg (World.drewN _) (Nat.add_assoc _ _ _))⟩)) | (go_at_call 56; (with_reducible refine (barqueref09_place.calls k4 _ _ l1 ((rd_T58 t472 x11_4).f0) t477 _ ?side1 ?side2 A26.out).mono ?_); (case side1 => repeat (first | exact (Kd.C_below HR1.out (by repeat (first | (with_reducible first | exact HB.out | apply below_alloc | apply pw_below_drewN | apply below_drew1) | exact HB.out))) | (with_reducible refine Kd.C_alloc ?_ _) | (with_reducible refine Kd.C_drewN ?_ _) | (with_reducible refine Kd.C_drew ?_))); (case side2 => exact HC1.out); rintro e w' ⟨rfl, ⟨nd, rfl⟩⟩; (try first | exact ⟨rfl, _, World.drewN_drewN _ _ _⟩ | exact ⟨rfl, _, Eq.trans (World.drewN_drewN _ _ _) (congrArg (World.drewN _) (Nat.add_assoc _ _ _))⟩)) | ((with_reducible refine gate_builtin (b := .append) (xs := #[.tmp 123, .tmp 127]) rfl ?_); at_builtin; refine Kd.R_append k44 (w0 := w) w.heap.size rfl (.tmp 123) (.tmp 127) 40 44 (.agg #[(.int .i64 0), (.string ⟨#[]⟩)]) 24 rfl Tryd.underlying40 info44 rfl (by decide) (by omega) u10 x10_4 (⟨1, (rd_T58 t472 x11_4).f0⟩ : S44) [.int .i64 1, .string ((rd_T58 t472 x11_4).f0)] (fun _ => True) (fun _ => False) rfl rfl ?aP (fun _ hk => hk.elim) ?aF ?aO ?aB ?aS ?aL ?_; (case aP => exact k44_mkM _ _ _ (⟨1, (rd_T58 t472 x11_4).f0⟩ : S44)); (case aB => exact (by repeat (first | (with_reducible first | exact HB.out | apply below_alloc | apply pw_below_drewN | apply below_drew1) | exact HB.out))); (case aF => exact (fun _ _ => trivial)); (case aO => exact (by (with_reducible repeat (first | apply Kd.R_alloc | apply Kd.R_drewN | apply Kd.R_drew)); exact HO_10.out)); (case aS => exact (below_size (by repeat (first | (with_reducible first | exact HB.out | apply below_alloc | apply pw_below_drewN | apply below_drew1) | exact HB.out)))); (case aL => have := LMc29.out; omega); intro v479 w31 ho hb hg hat; rw [← Ny478.out] at ho; have n0_ := Aside0.mk (Kd.R_over' (by (with_reducible repeat (first | apply Kd.R_alloc | apply Kd.R_drewN | apply Kd.R_drew)); exact HO_7.out) (Kd.R_typed (by (with_reducible repeat (first | apply Kd.R_alloc | apply Kd.R_drewN | apply Kd.R_drew)); exact HO_10.out)) (by decide) hg); have n1_ := Aside0.mk (hb); have n2_ := Aside0.mk (ho); clear HO_7; clear HB; clear HO_10; have HO_7 := n0_; have HB := n1_; have HO480 := n2_; clear n0_ n1_ n2_; clear ho hb hg hat))
                                  repeat (go_quiet (first | (go_at_call 56; (with_reducible refine (barqueref09_place.calls k4 _ _ l0 ((rd_T58 t472 x11_4).f0) t476 _ ?side1 ?side2 A25.out).mono ?_); (case side1 => repeat (first | exact (Kd.C_below HR0.out HB.out) | (with_reducible refine Kd.C_alloc ?_ _) | (with_reducible refine Kd.C_drewN ?_ _) | (with_reducible refine Kd.C_drew ?_))); (case side2 => exact HC0.out); rintro e w' ⟨rfl, ⟨nd, rfl⟩⟩; (try first | exact ⟨rfl, _, World.drewN_drewN _ _ _⟩ | exact ⟨rfl, _, Eq.trans (World.drewN_drewN _ _ _) (congrArg (World.drewN _) (Nat.add_assoc _ _ _))⟩)) | (go_at_call 56; (with_reducible refine (barqueref09_place.calls k4 _ _ l1 ((rd_T58 t472 x11_4).f0) t477 _ ?side1 ?side2 A26.out).mono ?_); (case side1 => repeat (first | exact (Kd.C_below HR1.out (by repeat (first | (with_reducible first | exact HB.out | apply below_alloc | apply pw_below_drewN | apply below_drew1) | exact HB.out))) | (with_reducible refine Kd.C_alloc ?_ _) | (with_reducible refine Kd.C_drewN ?_ _) | (with_reducible refine Kd.C_drew ?_))); (case side2 => exact HC1.out); rintro e w' ⟨rfl, ⟨nd, rfl⟩⟩; (try first | exact ⟨rfl, _, World.drewN_drewN _ _ _⟩ | exact ⟨rfl, _, Eq.trans (World.drewN_drewN _ _ _) (congrArg (World.drewN _) (Nat.add_assoc _ _ _))⟩)) | ((with_reducible refine gate_builtin (b := .append) (xs := #[.tmp 123, .tmp 127]) rfl ?_); at_builtin; refine Kd.R_append k44 (w0 := w) w.heap.size rfl (.tmp 123) (.tmp 127) 40 44 (.agg #[(.int .i64 0), (.string ⟨#[]⟩)]) 24 rfl Tryd.underlying40 info44 rfl (by decide) (by omega) u10 x10_4 (⟨1, (rd_T58 t472 x11_4).f0⟩ : S44) [.int .i64 1, .string ((rd_T58 t472 x11_4).f0)] (fun _ => True) (fun _ => False) rfl rfl ?aP (fun _ hk => hk.elim) ?aF ?aO ?aB ?aS ?aL ?_; (case aP => exact k44_mkM _ _ _ (⟨1, (rd_T58 t472 x11_4).f0⟩ : S44)); (case aB => exact (by repeat (first | (with_reducible first | exact HB.out | apply below_alloc | apply pw_below_drewN | apply below_drew1) | exact HB.out))); (case aF => exact (fun _ _ => trivial)); (case aO => exact (by (with_reducible repeat (first | apply Kd.R_alloc | apply Kd.R_drewN | apply Kd.R_drew)); exact HO_10.out)); (case aS => exact (below_size (by repeat (first | (with_reducible first | exact HB.out | apply below_alloc | apply pw_below_drewN | apply below_drew1) | exact HB.out)))); (case aL => have := LMc29.out; omega); intro v479 w31 ho hb hg hat; rw [← Ny478.out] at ho; have n0_ := Aside0.mk (Kd.R_over' (by (with_reducible repeat (first | apply Kd.R_alloc | apply Kd.R_drewN | apply Kd.R_drew)); exact HO_7.out) (Kd.R_typed (by (with_reducible repeat (first | apply Kd.R_alloc | apply Kd.R_drewN | apply Kd.R_drew)); exact HO_10.out)) (by decide) hg); have n1_ := Aside0.mk (hb); have n2_ := Aside0.mk (ho); clear HO_7; clear HB; clear HO_10; have HO_7 := n0_; have HB := n1_; have HO480 := n2_; clear n0_ n1_ n2_; clear ho hb hg hat)); try go_wp2_with (first | (go_at_call 56; (with_reducible refine (barqueref09_place.calls k4 _ _ l0 ((rd_T58 t472 x11_4).f0) t476 _ ?side1 ?side2 A25.out).mono ?_); (case side1 => repeat (first | exact (Kd.C_below HR0.out HB.out) | (with_reducible refine Kd.C_alloc ?_ _) | (with_reducible refine Kd.C_drewN ?_ _) | (with_reducible refine Kd.C_drew ?_))); (case side2 => exact HC0.out); rintro e w' ⟨rfl, ⟨nd, rfl⟩⟩; (try first | exact ⟨rfl, _, World.drewN_drewN _ _ _⟩ | exact ⟨rfl, _, Eq.trans (World.drewN_drewN _ _ _) (congrArg (World.drewN _) (Nat.add_assoc _ _ _))⟩)) | (go_at_call 56; (with_reducible refine (barqueref09_place.calls k4 _ _ l1 ((rd_T58 t472 x11_4).f0) t477 _ ?side1 ?side2 A26.out).mono ?_); (case side1 => repeat (first | exact (Kd.C_below HR1.out (by repeat (first | (with_reducible first | exact HB.out | apply below_alloc | apply pw_below_drewN | apply below_drew1) | exact HB.out))) | (with_reducible refine Kd.C_alloc ?_ _) | (with_reducible refine Kd.C_drewN ?_ _) | (with_reducible refine Kd.C_drew ?_))); (case side2 => exact HC1.out); rintro e w' ⟨rfl, ⟨nd, rfl⟩⟩; (try first | exact ⟨rfl, _, World.drewN_drewN _ _ _⟩ | exact ⟨rfl, _, Eq.trans (World.drewN_drewN _ _ _) (congrArg (World.drewN _) (Nat.add_assoc _ _ _))⟩)) | ((with_reducible refine gate_builtin (b := .append) (xs := #[.tmp 123, .tmp 127]) rfl ?_); at_builtin; refine Kd.R_append k44 (w0 := w) w.heap.size rfl (.tmp 123) (.tmp 127) 40 44 (.agg #[(.int .i64 0), (.string ⟨#[]⟩)]) 24 rfl Tryd.underlying40 info44 rfl (by decide) (by omega) u10 x10_4 (⟨1, (rd_T58 t472 x11_4).f0⟩ : S44) [.int .i64 1, .string ((rd_T58 t472 x11_4).f0)] (fun _ => True) (fun _ => False) rfl rfl ?aP (fun _ hk => hk.elim) ?aF ?aO ?aB ?aS ?aL ?_; (case aP => exact k44_mkM _ _ _ (⟨1, (rd_T58 t472 x11_4).f0⟩ : S44)); (case aB => exact (by repeat (first | (with_reducible first | exact HB.out | apply below_alloc | apply pw_below_drewN | apply below_drew1) | exact HB.out))); (case aF => exact (fun _ _ => trivial)); (case aO => exact (by (with_reducible repeat (first | apply Kd.R_alloc | apply Kd.R_drewN | apply Kd.R_drew)); exact HO_10.out)); (case aS => exact (below_size (by repeat (first | (with_reducible first | exact HB.out | apply below_alloc | apply pw_below_drewN | apply below_drew1) | exact HB.out)))); (case aL => have := LMc29.out; omega); intro v479 w31 ho hb hg hat; rw [← Ny478.out] at ho; have n0_ := Aside0.mk (Kd.R_over' (by (with_reducible repeat (first | apply Kd.R_alloc | apply Kd.R_drewN | apply Kd.R_drew)); exact HO_7.out) (Kd.R_typed (by (with_reducible repeat (first | apply Kd.R_alloc | apply Kd.R_drewN | apply Kd.R_drew)); exact HO_10.out)) (by decide) hg); have n1_ := Aside0.mk (hb); have n2_ := Aside0.mk (ho); clear HO_7; clear HB; clear HO_10; have HO_7 := n0_; have HB := n1_; have HO480 := n2_; clear n0_ n1_ n2_; clear ho hb hg hat)))
                                  go_roundg k4
                                  case measure => have := HJ3.out; have := HK2.out; have := HK3.out; have := HK4.out; omega
                                  case rel => exact ⟨(y478), (wrap64 (x11_4 + 1)), (by first | rfl | (simp; done) | (simp [*]; done)), H', ⟨by have := HJ3.out; have := HK2.out; have := HK3.out; have := HK4.out; omega⟩, ⟨by (with_reducible repeat (first | apply Kd.R_alloc | apply Kd.R_drewN | apply Kd.R_drew)); exact HO_7.out⟩, ⟨by (with_reducible repeat (first | apply Kd.R_alloc | apply Kd.R_drewN | apply Kd.R_drew)); exact HO480.out⟩, ⟨by repeat (first | (with_reducible first | exact HB.out | apply below_alloc | apply pw_below_drewN | apply below_drew1) | exact HB.out)⟩⟩
                                · rw [if_neg c29] at H
                                  exact absurd H (by simp)
                              · exact absurd (by decide) c28
                            · rw [if_neg c27] at H
                              have c27b0 : decide (t477 < 0) = false := decide_eq_false c27
                              clear c27
                              by_cases c33 : t476 < 0
                              · rw [if_pos c33] at H
                                have c33b0 : decide (t476 < 0) = true := decide_eq_true c33
                                clear c33
                                by_cases c34 : 2 > 0
                                · rw [if_pos c34] at H
                                  have c34b0 : decide (0 < 2) = true := decide_eq_true c34
                                  clear c34
                                  by_cases c35 : x10_4.length < 5864062014805
                                  · rw [if_pos c35] at H
                                    have LMc35 := Aside0.mk c35
                                    clear c35
                                    obtain ⟨y481, hy481⟩ : ∃ y_ : List (S44), y_ = (x10_4 ++ [(⟨2, (rd_T58 t472 x11_4).f0⟩ : S44)]) := ⟨_, rfl⟩
                                    replace H : (barqueref09_Between.l2 k4 l0 l1 t472 y481 (wrap64 (x11_4 + 1))) = some (r1, r2) := by first | (rw [hy481]; with_reducible exact H) | (have H2_ := (Option.bind_some _ _).symm.trans H; rw [hy481]; with_reducible exact H2_) | (have H2_ := (Option.bind_some _ _).symm.trans H; with_reducible exact H2_) | with_reducible exact H | (rw [hy481]; exact H) | exact H
                                    have Ny481 := Aside0.mk hy481
                                    clear hy481
                                    have H' := Aside0.mk H
                                    clear H
                                    obtain ⟨Ao36, co36, eo36⟩ := Kd.R_slice HO_7.out
                                    subst eo36
                                    have p475 : 0 ≤ (x11_4 : Int) := of_decide_eq_true (by first | (with_reducible assumption) | assumption)
                                    have q475 : x11_4 < (t472.length : Int) := of_decide_eq_true (by first | (with_reducible assumption) | assumption)
                                    obtain ⟨ad475, e475, hx475_0, hx475_1, hx475_2⟩ := at_T58 (Kd.R_reads' HO_7.out).2.2 x11_4 p475 q475
                                    cases e475
                                    replace p475 := eq_true p475
                                    replace q475 := eq_true q475
                                    go_wp2_with (first | (go_at_call 56; (with_reducible refine (barqueref09_place.calls k4 _ _ l0 ((rd_T58 t472 x11_4).f0) t476 _ ?side1 ?side2 A25.out).mono ?_); (case side1 => repeat (first | exact (Kd.C_below HR0.out HB.out) | (with_reducible refine Kd.C_alloc ?_ _) | (with_reducible refine Kd.C_drewN ?_ _) | (with_reducible refine Kd.C_drew ?_))); (case side2 => exact HC0.out); rintro e w' ⟨rfl, ⟨nd, rfl⟩⟩; (try first | exact ⟨rfl, _, World.drewN_drewN _ _ _⟩ | exact ⟨rfl, _, Eq.trans (World.drewN_drewN _ _ _) (congrArg (World.drewN _) (Nat.add_assoc _ _ _))⟩)) | (go_at_call 56; (with_reducible refine (barqueref09_place.calls k4 _ _ l1 ((rd_T58 t472 x11_4).f0) t477 _ ?side1 ?side2 A26.out).mono ?_); (case side1 => repeat (first | exact (Kd.C_below HR1.out (by repeat (first | (with_reducible first | exact HB.out | apply below_alloc | apply pw_below_drewN | apply below_drew1) | exact HB.out))) | (with_reducible refine Kd.C_alloc ?_ _) | (with_reducible refine Kd.C_drewN ?_ _) | (with_reducible refine Kd.C_drew ?_))); (case side2 => exact HC1.out); rintro e w' ⟨rfl, ⟨nd, rfl⟩⟩; (try first | exact ⟨rfl, _, World.drewN_drewN _ _ _⟩ | exact ⟨rfl, _, Eq.trans (World.drewN_drewN _ _ _) (congrArg (World.drewN _) (Nat.add_assoc _ _ _))⟩)) | ((with_reducible refine gate_builtin (b := .append) (xs := #[.tmp 123, .tmp 127]) rfl ?_); at_builtin; refine Kd.R_append k44 (w0 := w) w.heap.size rfl (.tmp 123) (.tmp 127) 40 44 (.agg #[(.int .i64 0), (.string ⟨#[]⟩)]) 24 rfl Tryd.underlying40 info44 rfl (by decide) (by omega) u10 x10_4 (⟨2, (rd_T58 t472 x11_4).f0⟩ : S44) [.int .i64 2, .string ((rd_T58 t472 x11_4).f0)] (fun _ => True) (fun _ => False) rfl rfl ?aP (fun _ hk => hk.elim) ?aF ?aO ?aB ?aS ?aL ?_; (case aP => exact k44_mkM _ _ _ (⟨2, (rd_T58 t472 x11_4).f0⟩ : S44)); (case aB => exact (by repeat (first | (with_reducible first | exact HB.out | apply below_alloc | apply pw_below_drewN | apply below_drew1) | exact HB.out))); (case aF => exact (fun _ _ => trivial)); (case aO => exact (by (with_reducible repeat (first | apply Kd.R_alloc | apply Kd.R_drewN | apply Kd.R_drew)); exact HO_10.out)); (case aS => exact (below_size (by repeat (first | (with_reducible first | exact HB.out | apply below_alloc | apply pw_below_drewN | apply below_drew1) | exact HB.out)))); (case aL => have := LMc35.out; omega); intro v482 w37 ho hb hg hat; rw [← Ny481.out] at ho; have n0_ := Aside0.mk (Kd.R_over' (by (with_reducible repeat (first | apply Kd.R_alloc | apply Kd.R_drewN | apply Kd.R_drew)); exact HO_7.out) (Kd.R_typed (by (with_reducible repeat (first | apply Kd.R_alloc | apply Kd.R_drewN | apply Kd.R_drew)); exact HO_10.out)) (by decide) hg); have n1_ := Aside0.mk (hb); have n2_ := Aside0.mk (ho); clear HO_7; clear HB; clear HO_10; have HO_7 := n0_; have HB := n1_; have HO483 := n2_; clear n0_ n1_ n2_; clear ho hb hg hat))
                                    repeat (go_quiet (first | (go_at_call 56; (with_reducible refine (barqueref09_place.calls k4 _ _ l0 ((rd_T58 t472 x11_4).f0) t476 _ ?side1 ?side2 A25.out).mono ?_); (case side1 => repeat (first | exact (Kd.C_below HR0.out HB.out) | (with_reducible refine Kd.C_alloc ?_ _) | (with_reducible refine Kd.C_drewN ?_ _) | (with_reducible refine Kd.C_drew ?_))); (case side2 => exact HC0.out); rintro e w' ⟨rfl, ⟨nd, rfl⟩⟩; (try first | exact ⟨rfl, _, World.drewN_drewN _ _ _⟩ | exact ⟨rfl, _, Eq.trans (World.drewN_drewN _ _ _) (congrArg (World.drewN _) (Nat.add_assoc _ _ _))⟩)) | (go_at_call 56; (with_reducible refine (barqueref09_place.calls k4 _ _ l1 ((rd_T58 t472 x11_4).f0) t477 _ ?side1 ?side2 A26.out).mono ?_); (case side1 => repeat (first | exact (Kd.C_below HR1.out (by repeat (first | (with_reducible first | exact HB.out | apply below_alloc | apply pw_below_drewN | apply below_drew1) | exact HB.out))) | (with_reducible refine Kd.C_alloc ?_ _) | (with_reducible refine Kd.C_drewN ?_ _) | (with_reducible refine Kd.C_drew ?_))); (case side2 => exact HC1.out); rintro e w' ⟨rfl, ⟨nd, rfl⟩⟩; (try first | exact ⟨rfl, _, World.drewN_drewN _ _ _⟩ | exact ⟨rfl, _, Eq.trans (World.drewN_drewN _ _ _) (congrArg (World.drewN _) (Nat.add_assoc _ _ _))⟩)) | ((with_reducible refine gate_builtin (b := .append) (xs := #[.tmp 123, .tmp 127]) rfl ?_); at_builtin; refine Kd.R_append k44 (w0 := w) w.heap.size rfl (.tmp 123) (.tmp 127) 40 44 (.agg #[(.int .i64 0), (.string ⟨#[]⟩)]) 24 rfl Tryd.underlying40 info44 rfl (by decide) (by omega) u10 x10_4 (⟨2, (rd_T58 t472 x11_4).f0⟩ : S44) [.int .i64 2, .string ((rd_T58 t472 x11_4).f0)] (fun _ => True) (fun _ => False) rfl rfl ?aP (fun _ hk => hk.elim) ?aF ?aO ?aB ?aS ?aL ?_; (case aP => exact k44_mkM _ _ _ (⟨2, (rd_T58 t472 x11_4).f0⟩ : S44)); (case aB => exact (by repeat (first | (with_reducible first | exact HB.out | apply below_alloc | apply pw_below_drewN | apply below_drew1) | exact HB.out))); (case aF => exact (fun _ _ => trivial)); (case aO => exact (by (with_reducible repeat (first | apply Kd.R_alloc | apply Kd.R_drewN | apply Kd.R_drew)); exact HO_10.out)); (case aS => exact (below_size (by repeat (first | (with_reducible first | exact HB.out | apply below_alloc | apply pw_below_drewN | apply below_drew1) | exact HB.out)))); (case aL => have := LMc35.out; omega); intro v482 w37 ho hb hg hat; rw [← Ny481.out] at ho; have n0_ := Aside0.mk (Kd.R_over' (by (with_reducible repeat (first | apply Kd.R_alloc | apply Kd.R_drewN | apply Kd.R_drew)); exact HO_7.out) (Kd.R_typed (by (with_reducible repeat (first | apply Kd.R_alloc | apply Kd.R_drewN | apply Kd.R_drew)); exact HO_10.out)) (by decide) hg); have n1_ := Aside0.mk (hb); have n2_ := Aside0.mk (ho); clear HO_7; clear HB; clear HO_10; have HO_7 := n0_; have HB := n1_; have HO483 := n2_; clear n0_ n1_ n2_; clear ho hb hg hat)); try go_wp2_with (first | (go_at_call 56; (with_reducible refine (barqueref09_place.calls k4 _ _ l0 ((rd_T58 t472 x11_4).f0) t476 _ ?side1 ?side2 A25.out).mono ?_); (case side1 => repeat (first | exact (Kd.C_below HR0.out HB.out) | (with_reducible refine Kd.C_alloc ?_ _) | (with_reducible refine Kd.C_drewN ?_ _) | (with_reducible refine Kd.C_drew ?_))); (case side2 => exact HC0.out); rintro e w' ⟨rfl, ⟨nd, rfl⟩⟩; (try first | exact ⟨rfl, _, World.drewN_drewN _ _ _⟩ | exact ⟨rfl, _, Eq.trans (World.drewN_drewN _ _ _) (congrArg (World.drewN _) (Nat.add_assoc _ _ _))⟩)) | (go_at_call 56; (with_reducible refine (barqueref09_place.calls k4 _ _ l1 ((rd_T58 t472 x11_4).f0) t477 _ ?side1 ?side2 A26.out).mono ?_); (case side1 => repeat (first | exact (Kd.C_below HR1.out (by repeat (first | (with_reducible first | exact HB.out | apply below_alloc | apply pw_below_drewN | apply below_drew1) | exact HB.out))) | (with_reducible refine Kd.C_alloc ?_ _) | (with_reducible refine Kd.C_drewN ?_ _) | (with_reducible refine Kd.C_drew ?_))); (case side2 => exact HC1.out); rintro e w' ⟨rfl, ⟨nd, rfl⟩⟩; (try first | exact ⟨rfl, _, World.drewN_drewN _ _ _⟩ | exact ⟨rfl, _, Eq.trans (World.drewN_drewN _ _ _) (congrArg (World.drewN _) (Nat.add_assoc _ _ _))⟩)) | ((with_reducible refine gate_builtin (b := .append) (xs := #[.tmp 123, .tmp 127]) rfl ?_); at_builtin; refine Kd.R_append k44 (w0 := w) w.heap.size rfl (.tmp 123) (.tmp 127) 40 44 (.agg #[(.int .i64 0), (.string ⟨#[]⟩)]) 24 rfl Tryd.underlying40 info44 rfl (by decide) (by omega) u10 x10_4 (⟨2, (rd_T58 t472 x11_4).f0⟩ : S44) [.int .i64 2, .string ((rd_T58 t472 x11_4).f0)] (fun _ => True) (fun _ => False) rfl rfl ?aP (fun _ hk => hk.elim) ?aF ?aO ?aB ?aS ?aL ?_; (case aP => exact k44_mkM _ _ _ (⟨2, (rd_T58 t472 x11_4).f0⟩ : S44)); (case aB => exact (by repeat (first | (with_reducible first | exact HB.out | apply below_alloc | apply pw_below_drewN | apply below_drew1) | exact HB.out))); (case aF => exact (fun _ _ => trivial)); (case aO => exact (by (with_reducible repeat (first | apply Kd.R_alloc | apply Kd.R_drewN | apply Kd.R_drew)); exact HO_10.out)); (case aS => exact (below_size (by repeat (first | (with_reducible first | exact HB.out | apply below_alloc | apply pw_below_drewN | apply below_drew1) | exact HB.out)))); (case aL => have := LMc35.out; omega); intro v482 w37 ho hb hg hat; rw [← Ny481.out] at ho; have n0_ := Aside0.mk (Kd.R_over' (by (with_reducible repeat (first | apply Kd.R_alloc | apply Kd.R_drewN | apply Kd.R_drew)); exact HO_7.out) (Kd.R_typed (by (with_reducible repeat (first | apply Kd.R_alloc | apply Kd.R_drewN | apply Kd.R_drew)); exact HO_10.out)) (by decide) hg); have n1_ := Aside0.mk (hb); have n2_ := Aside0.mk (ho); clear HO_7; clear HB; clear HO_10; have HO_7 := n0_; have HB := n1_; have HO483 := n2_; clear n0_ n1_ n2_; clear ho hb hg hat)))
                                    go_roundg k4
                                    case measure => have := HJ3.out; have := HK2.out; have := HK3.out; have := HK4.out; omega
                                    case rel => exact ⟨(y481), (wrap64 (x11_4 + 1)), (by first | rfl | (simp; done) | (simp [*]; done)), H', ⟨by have := HJ3.out; have := HK2.out; have := HK3.out; have := HK4.out; omega⟩, ⟨by (with_reducible repeat (first | apply Kd.R_alloc | apply Kd.R_drewN | apply Kd.R_drew)); exact HO_7.out⟩, ⟨by (with_reducible repeat (first | apply Kd.R_alloc | apply Kd.R_drewN | apply Kd.R_drew)); exact HO483.out⟩, ⟨by repeat (first | (with_reducible first | exact HB.out | apply below_alloc | apply pw_below_drewN | apply below_drew1) | exact HB.out)⟩⟩
                                  · rw [if_neg c35] at H
                                    exact absurd H (by simp)
                                · exact absurd (by decide) c34
                              · rw [if_neg c33] at H
                                have c33b0 : decide (t476 < 0) = false := decide_eq_false c33
                                clear c33
                                have HC39 := Aside0.mk H
                                clear H
                                obtain ⟨Ao40, co40, eo40⟩ := Kd.R_slice HO_7.out
                                subst eo40
                                have p475 : 0 ≤ (x11_4 : Int) := of_decide_eq_true (by first | (with_reducible assumption) | assumption)
                                have q475 : x11_4 < (t472.length : Int) := of_decide_eq_true (by first | (with_reducible assumption) | assumption)
                                obtain ⟨ad475, e475, hx475_0, hx475_1, hx475_2⟩ := at_T58 (Kd.R_reads' HO_7.out).2.2 x11_4 p475 q475
                                cases e475
                                replace p475 := eq_true p475
                                replace q475 := eq_true q475
                                go_upto_region 29 with (first | (go_at_call 56; (with_reducible refine (barqueref09_place.calls k4 _ _ l0 ((rd_T58 t472 x11_4).f0) t476 _ ?side1 ?side2 A25.out).mono ?_); (case side1 => repeat (first | exact (Kd.C_below HR0.out HB.out) | (with_reducible refine Kd.C_alloc ?_ _) | (with_reducible refine Kd.C_drewN ?_ _) | (with_reducible refine Kd.C_drew ?_))); (case side2 => exact HC0.out); rintro e w' ⟨rfl, ⟨nd, rfl⟩⟩; (try first | exact ⟨rfl, _, World.drewN_drewN _ _ _⟩ | exact ⟨rfl, _, Eq.trans (World.drewN_drewN _ _ _) (congrArg (World.drewN _) (Nat.add_assoc _ _ _))⟩)) | (go_at_call 56; (with_reducible refine (barqueref09_place.calls k4 _ _ l1 ((rd_T58 t472 x11_4).f0) t477 _ ?side1 ?side2 A26.out).mono ?_); (case side1 => repeat (first | exact (Kd.C_below HR1.out (by repeat (first | (with_reducible first | exact HB.out | apply below_alloc | apply pw_below_drewN | apply below_drew1) | exact HB.out))) | (with_reducible refine Kd.C_alloc ?_ _) | (with_reducible refine Kd.C_drewN ?_ _) | (with_reducible refine Kd.C_drew ?_))); (case side2 => exact HC1.out); rintro e w' ⟨rfl, ⟨nd, rfl⟩⟩; (try first | exact ⟨rfl, _, World.drewN_drewN _ _ _⟩ | exact ⟨rfl, _, Eq.trans (World.drewN_drewN _ _ _) (congrArg (World.drewN _) (Nat.add_assoc _ _ _))⟩)))
                                repeat (go_quiet (first | (go_at_call 56; (with_reducible refine (barqueref09_place.calls k4 _ _ l0 ((rd_T58 t472 x11_4).f0) t476 _ ?side1 ?side2 A25.out).mono ?_); (case side1 => repeat (first | exact (Kd.C_below HR0.out HB.out) | (with_reducible refine Kd.C_alloc ?_ _) | (with_reducible refine Kd.C_drewN ?_ _) | (with_reducible refine Kd.C_drew ?_))); (case side2 => exact HC0.out); rintro e w' ⟨rfl, ⟨nd, rfl⟩⟩; (try first | exact ⟨rfl, _, World.drewN_drewN _ _ _⟩ | exact ⟨rfl, _, Eq.trans (World.drewN_drewN _ _ _) (congrArg (World.drewN _) (Nat.add_assoc _ _ _))⟩)) | (go_at_call 56; (with_reducible refine (barqueref09_place.calls k4 _ _ l1 ((rd_T58 t472 x11_4).f0) t477 _ ?side1 ?side2 A26.out).mono ?_); (case side1 => repeat (first | exact (Kd.C_below HR1.out (by repeat (first | (with_reducible first | exact HB.out | apply below_alloc | apply pw_below_drewN | apply below_drew1) | exact HB.out))) | (with_reducible refine Kd.C_alloc ?_ _) | (with_reducible refine Kd.C_drewN ?_ _) | (with_reducible refine Kd.C_drew ?_))); (case side2 => exact HC1.out); rintro e w' ⟨rfl, ⟨nd, rfl⟩⟩; (try first | exact ⟨rfl, _, World.drewN_drewN _ _ _⟩ | exact ⟨rfl, _, Eq.trans (World.drewN_drewN _ _ _) (congrArg (World.drewN _) (Nat.add_assoc _ _ _))⟩))); go_upto_region 29 with (first | (go_at_call 56; (with_reducible refine (barqueref09_place.calls k4 _ _ l0 ((rd_T58 t472 x11_4).f0) t476 _ ?side1 ?side2 A25.out).mono ?_); (case side1 => repeat (first | exact (Kd.C_below HR0.out HB.out) | (with_reducible refine Kd.C_alloc ?_ _) | (with_reducible refine Kd.C_drewN ?_ _) | (with_reducible refine Kd.C_drew ?_))); (case side2 => exact HC0.out); rintro e w' ⟨rfl, ⟨nd, rfl⟩⟩; (try first | exact ⟨rfl, _, World.drewN_drewN _ _ _⟩ | exact ⟨rfl, _, Eq.trans (World.drewN_drewN _ _ _) (congrArg (World.drewN _) (Nat.add_assoc _ _ _))⟩)) | (go_at_call 56; (with_reducible refine (barqueref09_place.calls k4 _ _ l1 ((rd_T58 t472 x11_4).f0) t477 _ ?side1 ?side2 A26.out).mono ?_); (case side1 => repeat (first | exact (Kd.C_below HR1.out (by repeat (first | (with_reducible first | exact HB.out | apply below_alloc | apply pw_below_drewN | apply below_drew1) | exact HB.out))) | (with_reducible refine Kd.C_alloc ?_ _) | (with_reducible refine Kd.C_drewN ?_ _) | (with_reducible refine Kd.C_drew ?_))); (case side2 => exact HC1.out); rintro e w' ⟨rfl, ⟨nd, rfl⟩⟩; (try first | exact ⟨rfl, _, World.drewN_drewN _ _ _⟩ | exact ⟨rfl, _, Eq.trans (World.drewN_drewN _ _ _) (congrArg (World.drewN _) (Nat.add_assoc _ _ _))⟩))))
                                (try simp only [Act.put, List.setIfInBounds_toArray, List.set_cons_zero, List.set_cons_succ])
                                go_cut [109] (fun v109 wc => ∃ (kq : Nat) (x109_38 : Bool), v109 = .bool x109_38 ∧ Aside0 (barqueref09_Between.j4 kq l0 l1 t472 x10_4 x11_4 ((rd_T58 t472 x11_4).f0) t476 t477 0 x109_38 = some (r1, r2)) ∧ Aside0 (kq ≤ k4) ∧ Aside0 (Kd.R k58 58 wc w.heap.size (fun _ => True) (.slice (some ad475) t472.length co40) t472) ∧ Aside0 (Kd.R k44 44 wc w.heap.size (fun _ => True) u10 x10_4) ∧ Aside0 (Below w.heap.size w wc))
                                case first =>
                                  have H := HC39.out
                                  clear HC39
                                  by_cases c41 : 0 ≤ t476
                                  · rw [if_pos c41] at H
                                    have c41b0 : decide (0 ≤ t476) = true := decide_eq_true c41
                                    clear c41
                                    (first | rw [c41b0] | (simp only [i64_w, i32_w]; rw [c41b0]) | skip)
                                    by_cases c42 : t476 < (l0.length : Int)
                                    · rw [if_pos c42] at H
                                      have c42b0 : decide (t476 < (l0.length : Int)) = true := decide_eq_true c42
                                      clear c42
                                      by_cases c43 : 0 ≤ t477
                                      · rw [if_pos c43] at H
                                        have c43b0 : decide (0 ≤ t477) = true := decide_eq_true c43
                                        clear c43
                                        by_cases c44 : t477 < (l1.length : Int)
                                        · rw [if_pos c44] at H
                                          have c44b0 : decide (t477 < (l1.length : Int)) = true := decide_eq_true c44
                                          clear c44
                                          by_cases c45 : ((rd_T56 l0 t476).f2) = ((rd_T56 l1 t477).f2)
                                          · rw [if_pos c45] at H
                                            have c45b0 : (((rd_T56 l0 t476).f2) == ((rd_T56 l1 t477).f2)) = true := beq_iff_eq.mpr c45
                                            have c45b1 : (((rd_T56 l0 t476).f2) != ((rd_T56 l1 t477).f2)) = false := bne_eq_false_iff_eq.mpr c45
                                            clear c45
                                            have H' := Aside0.mk H
                                            clear H
                                            have p484 : 0 ≤ (t476 : Int) := of_decide_eq_true (by first | (with_reducible assumption) | assumption)
                                            have q484 : t476 < (l0.length : Int) := of_decide_eq_true (by first | (with_reducible assumption) | assumption)
                                            obtain ⟨ad484, e484, hx484_0, hx484_1, hx484_2, hx484_3⟩ := at_T56 HR0.out t476 p484 q484
                                            cases e484
                                            replace hx484_0 := (HB.out.cell (World.block_lt_of_cell? w _ hx484_0)).trans hx484_0
                                            replace hx484_1 := (HB.out.cell (World.block_lt_of_cell? w _ hx484_1)).trans hx484_1
                                            replace hx484_2 := (HB.out.cell (World.block_lt_of_cell? w _ hx484_2)).trans hx484_2
                                            replace hx484_3 := (HB.out.cell (World.block_lt_of_cell? w _ hx484_3)).trans hx484_3
                                            replace p484 := eq_true p484
                                            replace q484 := eq_true q484
                                            have p485 : 0 ≤ (t477 : Int) := of_decide_eq_true (by first | (with_reducible assumption) | assumption)
                                            have q485 : t477 < (l1.length : Int) := of_decide_eq_true (by first | (with_reducible assumption) | assumption)
                                            obtain ⟨ad485, e485, hx485_0, hx485_1, hx485_2, hx485_3⟩ := at_T56 HR1.out t477 p485 q485
                                            cases e485
                                            replace hx485_0 := (HB.out.cell (World.block_lt_of_cell? w _ hx485_0)).trans hx485_0
                                            replace hx485_1 := (HB.out.cell (World.block_lt_of_cell? w _ hx485_1)).trans hx485_1
                                            replace hx485_2 := (HB.out.cell (World.block_lt_of_cell? w _ hx485_2)).trans hx485_2
                                            replace hx485_3 := (HB.out.cell (World.block_lt_of_cell? w _ hx485_3)).trans hx485_3
                                            replace p485 := eq_true p485
                                            replace q485 := eq_true q485
                                            have p486 : 0 ≤ (t476 : Int) := of_decide_eq_true (by first | (with_reducible assumption) | assumption)
                                            have q486 : t476 < (l0.length : Int) := of_decide_eq_true (by first | (with_reducible assumption) | assumption)
                                            obtain ⟨ad486, e486, hx486_0, hx486_1, hx486_2, hx486_3⟩ := at_T56 HR0.out t476 p486 q486
                                            obtain rfl : ad484 = ad486 := (by injection e486)
                                            replace hx486_0 := (HB.out.cell (World.block_lt_of_cell? w _ hx486_0)).trans hx486_0
                                            replace hx486_1 := (HB.out.cell (World.block_lt_of_cell? w _ hx486_1)).trans hx486_1
                                            replace hx486_2 := (HB.out.cell (World.block_lt_of_cell? w _ hx486_2)).trans hx486_2
                                            replace hx486_3 := (HB.out.cell (World.block_lt_of_cell? w _ hx486_3)).trans hx486_3
                                            replace p486 := eq_true p486
                                            replace q486 := eq_true q486
                                            have p487 : 0 ≤ (t477 : Int) := of_decide_eq_true (by first | (with_reducible assumption) | assumption)
                                            have q487 : t477 < (l1.length : Int) := of_decide_eq_true (by first | (with_reducible assumption) | assumption)
                                            obtain ⟨ad487, e487, hx487_0, hx487_1, hx487_2, hx487_3⟩ := at_T56 HR1.out t477 p487 q487
                                            obtain rfl : ad485 = ad487 := (by injection e487)
                                            replace hx487_0 := (HB.out.cell (World.block_lt_of_cell? w _ hx487_0)).trans hx487_0
                                            replace hx487_1 := (HB.out.cell (World.block_lt_of_cell? w _ hx487_1)).trans hx487_1
                                            replace hx487_2 := (HB.out.cell (World.block_lt_of_cell? w _ hx487_2)).trans hx487_2
                                            replace hx487_3 := (HB.out.cell (World.block_lt_of_cell? w _ hx487_3)).trans hx487_3
                                            replace p487 := eq_true p487
                                            replace q487 := eq_true q487
                                            go_wp2
                                            repeat (go_quiet (fail); try go_wp2)
                                            go_meet
                                            case rel => exact ⟨_, ((((rd_T56 l0 t476).f3).toList != ((rd_T56 l1 t477).f3).toList)), (by first | rfl | (simp; done) | (simp [*]; done)), H', ⟨by have := HJ3.out; have := HK2.out; have := HK3.out; have := HK4.out; first | omega | exact Nat.le_refl _⟩, ⟨by (with_reducible repeat (first | apply Kd.R_alloc | apply Kd.R_drewN | apply Kd.R_drew)); exact HO_7.out⟩, ⟨by (with_reducible repeat (first | apply Kd.R_alloc | apply Kd.R_drewN | apply Kd.R_drew)); exact HO_10.out⟩, ⟨by repeat (first | (with_reducible first | exact HB.out | apply below_alloc | apply pw_below_drewN | apply below_drew1) | exact HB.out)⟩⟩
                                          · rw [if_neg c45] at H
                                            have c45b0 : (((rd_T56 l0 t476).f2) == ((rd_T56 l1 t477).f2)) = false := beq_eq_false_iff_ne.mpr c45
                                            have c45b1 : (((rd_T56 l0 t476).f2) != ((rd_T56 l1 t477).f2)) = true := bne_iff_ne.mpr c45
                                            have H' := Aside0.mk H
                                            clear H
                                            have p484 : 0 ≤ (t476 : Int) := of_decide_eq_true (by first | (with_reducible assumption) | assumption)
                                            have q484 : t476 < (l0.length : Int) := of_decide_eq_true (by first | (with_reducible assumption) | assumption)
                                            obtain ⟨ad484, e484, hx484_0, hx484_1, hx484_2, hx484_3⟩ := at_T56 HR0.out t476 p484 q484
                                            cases e484
                                            replace hx484_0 := (HB.out.cell (World.block_lt_of_cell? w _ hx484_0)).trans hx484_0
                                            replace hx484_1 := (HB.out.cell (World.block_lt_of_cell? w _ hx484_1)).trans hx484_1
                                            replace hx484_2 := (HB.out.cell (World.block_lt_of_cell? w _ hx484_2)).trans hx484_2
                                            replace hx484_3 := (HB.out.cell (World.block_lt_of_cell? w _ hx484_3)).trans hx484_3
                                            replace p484 := eq_true p484
                                            replace q484 := eq_true q484
                                            have p485 : 0 ≤ (t477 : Int) := of_decide_eq_true (by first | (with_reducible assumption) | assumption)
                                            have q485 : t477 < (l1.length : Int) := of_decide_eq_true (by first | (with_reducible assumption) | assumption)
                                            obtain ⟨ad485, e485, hx485_0, hx485_1, hx485_2, hx485_3⟩ := at_T56 HR1.out t477 p485 q485
                                            cases e485
                                            replace hx485_0 := (HB.out.cell (World.block_lt_of_cell? w _ hx485_0)).trans hx485_0
                                            replace hx485_1 := (HB.out.cell (World.block_lt_of_cell? w _ hx485_1)).trans hx485_1
                                            replace hx485_2 := (HB.out.cell (World.block_lt_of_cell? w _ hx485_2)).trans hx485_2
                                            replace hx485_3 := (HB.out.cell (World.block_lt_of_cell? w _ hx485_3)).trans hx485_3
                                            replace p485 := eq_true p485
                                            replace q485 := eq_true q485
                                            go_wp2
                                            repeat (go_quiet (fail); try go_wp2)
                                            go_meet
                                            case rel => exact ⟨_, (true), (by first | rfl | (simp; done) | (simp [*]; done)), H', ⟨by have := HJ3.out; have := HK2.out; have := HK3.out; have := HK4.out; first | omega | exact Nat.le_refl _⟩, ⟨by (with_reducible repeat (first | apply Kd.R_alloc | apply Kd.R_drewN | apply Kd.R_drew)); exact HO_7.out⟩, ⟨by (with_reducible repeat (first | apply Kd.R_alloc | apply Kd.R_drewN | apply Kd.R_drew)); exact HO_10.out⟩, ⟨by repeat (first | (with_reducible first | exact HB.out | apply below_alloc | apply pw_below_drewN | apply below_drew1) | exact HB.out)⟩⟩
                                        · rw [if_neg c44] at H
                                          exact absurd H (by simp)
                                      · rw [if_neg c43] at H
                                        exact absurd H (by simp)
                                    · rw [if_neg c42] at H
                                      exact absurd H (by simp)
                                  · rw [if_neg c41] at H
                                    exact absurd H (by simp)
                                case rest =>
                                  clear HC39
                                  try clear c1
                                  try clear c2
                                  try clear p2
                                  try clear c3
                                  try clear c4
                                  try clear p4
                                  try clear q4
                                  try clear hx4
                                  try clear c6
                                  try clear c6b0
                                  try clear c6b1
                                  try clear p6
                                  try clear c9
                                  try clear c9b0
                                  try clear c9b1
                                  try clear c10
                                  try clear c10b0
                                  try clear c11
                                  try clear c11b0
                                  try clear c12
                                  try clear c14
                                  try clear c14b0
                                  try clear c15
                                  try clear c15b0
                                  try clear c17
                                  try clear c17b0
                                  try clear c18
                                  try clear c23
                                  try clear c23b0
                                  try clear c24
                                  try clear c24b0
                                  try clear c27
                                  try clear c27b0
                                  try clear c28
                                  try clear c28b0
                                  try clear c29
                                  try clear c30
                                  try clear c33
                                  try clear c33b0
                                  try clear c34
                                  try clear c34b0
                                  try clear c35
                                  try clear c41
                                  try clear c41b0
                                  try clear c42
                                  try clear c42b0
                                  try clear c43
                                  try clear c43b0
                                  try clear c44
                                  try clear c44b0
                                  try clear c45
                                  try clear c45b0
                                  try clear c45b1
                                  try clear hx462_0
                                  try clear hx462_1
                                  try clear hx462_2
                                  try clear hx462_3
                                  try clear hx466_0
                                  try clear hx466_1
                                  try clear hx466_2
                                  try clear hx466_3
                                  try clear hx468_0
                                  try clear hx468_1
                                  try clear hx468_2
                                  try clear hx468_3
                                  try clear hx475_0
                                  try clear hx475_1
                                  try clear hx475_2
                                  try clear hx484_0
                                  try clear hx484_1
                                  try clear hx484_2
                                  try clear hx484_3
                                  try clear hx485_0
                                  try clear hx485_1
                                  try clear hx485_2
                                  try clear hx485_3
                                  try clear hx486_0
                                  try clear hx486_1
                                  try clear hx486_2
                                  try clear hx486_3
                                  try clear hx487_0
                                  try clear hx487_1
                                  try clear hx487_2
                                  try clear hx487_3
                                  try clear p2
                                  try clear p4
                                  try clear p462
                                  try clear p466
                                  try clear p468
                                  try clear p475
                                  try clear p484
                                  try clear p485
                                  try clear p486
                                  try clear p487
                                  try clear p6
                                  try clear q4
                                  try clear q462
                                  try clear q466
                                  try clear q468
                                  try clear q475
                                  try clear q484
                                  try clear q485
                                  try clear q486
                                  try clear q487
                                  obtain ⟨kq, x109_38, rfl, HA, HJ38, HO_7, HO_10, HB⟩ := hcut
                                  cases kq with
                                  | zero => exact absurd HA.out (by simp [barqueref09_Between.j4])
                                  | succ kj38 =>
                                    have H := HA.out
                                    clear HA
                                    simp only [barqueref09_Between.j4] at H
                                    by_cases c46 : x109_38 = true
                                    · subst c46
                                      have H1 : (if 3 > 0 then (if x10_4.length < 5864062014805 then (barqueref09_Between.l2 kj38 l0 l1 t472 (x10_4 ++ [(⟨3, ((rd_T58 t472 x11_4).f0)⟩ : S44)]) (wrap64 (x11_4 + 1))) else (none)) else (barqueref09_Between.l2 kj38 l0 l1 t472 x10_4 (wrap64 (x11_4 + 1)))) = some (r1, r2) := by rw [if_pos rfl] at H; exact H
                                      clear H
                                      have H := H1
                                      clear H1
                                      by_cases c47 : 3 > 0
                                      · rw [if_pos c47] at H
                                        have c47b0 : decide (0 < 3) = true := decide_eq_true c47
                                        clear c47
                                        by_cases c48 : x10_4.length < 5864062014805
                                        · rw [if_pos c48] at H
                                          have LMc48 := Aside0.mk c48
                                          clear c48
                                          obtain ⟨y488, hy488⟩ : ∃ y_ : List (S44), y_ = (x10_4 ++ [(⟨3, ((rd_T58 t472 x11_4).f0)⟩ : S44)]) := ⟨_, rfl⟩
                                          replace H : (barqueref09_Between.l2 kj38 l0 l1 t472 y488 (wrap64 (x11_4 + 1))) = some (r1, r2) := by first | (rw [hy488]; with_reducible exact H) | (have H2_ := (Option.bind_some _ _).symm.trans H; rw [hy488]; with_reducible exact H2_) | (have H2_ := (Option.bind_some _ _).symm.trans H; with_reducible exact H2_) | with_reducible exact H | (rw [hy488]; exact H) | exact H
                                          have Ny488 := Aside0.mk hy488
                                          clear hy488
                                          have H' := Aside0.mk H
                                          clear H
                                          go_wp2_with (first | ((with_reducible refine gate_builtin (b := .append) (xs := #[.tmp 123, .tmp 127]) rfl ?_); at_builtin; refine Kd.R_append k44 (w0 := w) w.heap.size rfl (.tmp 123) (.tmp 127) 40 44 (.agg #[(.int .i64 0), (.string ⟨#[]⟩)]) 24 rfl Tryd.underlying40 info44 rfl (by decide) (by omega) u10 x10_4 (⟨3, ((rd_T58 t472 x11_4).f0)⟩ : S44) [.int .i64 3, .string ((rd_T58 t472 x11_4).f0)] (fun _ => True) (fun _ => False) rfl rfl ?aP (fun _ hk => hk.elim) ?aF ?aO ?aB ?aS ?aL ?_; (case aP => exact k44_mkM _ _ _ (⟨3, ((rd_T58 t472 x11_4).f0)⟩ : S44)); (case aB => exact (by repeat (first | (with_reducible first | exact HB.out | apply below_alloc | apply pw_below_drewN | apply below_drew1) | exact HB.out))); (case aF => exact (fun _ _ => trivial)); (case aO => exact (by (with_reducible repeat (first | apply Kd.R_alloc | apply Kd.R_drewN | apply Kd.R_drew)); exact HO_10.out)); (case aS => exact (below_size (by repeat (first | (with_reducible first | exact HB.out | apply below_alloc | apply pw_below_drewN | apply below_drew1) | exact HB.out)))); (case aL => have := LMc48.out; omega); intro v489 w49 ho hb hg hat; rw [← Ny488.out] at ho; have n0_ := Aside0.mk (Kd.R_over' (by (with_reducible repeat (first | apply Kd.R_alloc | apply Kd.R_drewN | apply Kd.R_drew)); exact HO_7.out) (Kd.R_typed (by (with_reducible repeat (first | apply Kd.R_alloc | apply Kd.R_drewN | apply Kd.R_drew)); exact HO_10.out)) (by decide) hg); have n1_ := Aside0.mk (hb); have n2_ := Aside0.mk (ho); clear HO_7; clear HB; clear HO_10; have HO_7 := n0_; have HB := n1_; have HO490 := n2_; clear n0_ n1_ n2_; clear ho hb hg hat))
                                          repeat (go_quiet (first | ((with_reducible refine gate_builtin (b := .append) (xs := #[.tmp 123, .tmp 127]) rfl ?_); at_builtin; refine Kd.R_append k44 (w0 := w) w.heap.size rfl (.tmp 123) (.tmp 127) 40 44 (.agg #[(.int .i64 0), (.string ⟨#[]⟩)]) 24 rfl Tryd.underlying40 info44 rfl (by decide) (by omega) u10 x10_4 (⟨3, ((rd_T58 t472 x11_4).f0)⟩ : S44) [.int .i64 3, .string ((rd_T58 t472 x11_4).f0)] (fun _ => True) (fun _ => False) rfl rfl ?aP (fun _ hk => hk.elim) ?aF ?aO ?aB ?aS ?aL ?_; (case aP => exact k44_mkM _ _ _ (⟨3, ((rd_T58 t472 x11_4).f0)⟩ : S44)); (case aB => exact (by repeat (first | (with_reducible first | exact HB.out | apply below_alloc | apply pw_below_drewN | apply below_drew1) | exact HB.out))); (case aF => exact (fun _ _ => trivial)); (case aO => exact (by (with_reducible repeat (first | apply Kd.R_alloc | apply Kd.R_drewN | apply Kd.R_drew)); exact HO_10.out)); (case aS => exact (below_size (by repeat (first | (with_reducible first | exact HB.out | apply below_alloc | apply pw_below_drewN | apply below_drew1) | exact HB.out)))); (case aL => have := LMc48.out; omega); intro v489 w49 ho hb hg hat; rw [← Ny488.out] at ho; have n0_ := Aside0.mk (Kd.R_over' (by (with_reducible repeat (first | apply Kd.R_alloc | apply Kd.R_drewN | apply Kd.R_drew)); exact HO_7.out) (Kd.R_typed (by (with_reducible repeat (first | apply Kd.R_alloc | apply Kd.R_drewN | apply Kd.R_drew)); exact HO_10.out)) (by decide) hg); have n1_ := Aside0.mk (hb); have n2_ := Aside0.mk (ho); clear HO_7; clear HB; clear HO_10; have HO_7 := n0_; have HB := n1_; have HO490 := n2_; clear n0_ n1_ n2_; clear ho hb hg hat)); try go_wp2_with (first | ((with_reducible refine gate_builtin (b := .append) (xs := #[.tmp 123, .tmp 127]) rfl ?_); at_builtin; refine Kd.R_append k44 (w0 := w) w.heap.size rfl (.tmp 123) (.tmp 127) 40 44 (.agg #[(.int .i64 0), (.string ⟨#[]⟩)]) 24 rfl Tryd.underlying40 info44 rfl (by decide) (by omega) u10 x10_4 (⟨3, ((rd_T58 t472 x11_4).f0)⟩ : S44) [.int .i64 3, .string ((rd_T58 t472 x11_4).f0)] (fun _ => True) (fun _ => False) rfl rfl ?aP (fun _ hk => hk.elim) ?aF ?aO ?aB ?aS ?aL ?_; (case aP => exact k44_mkM _ _ _ (⟨3, ((rd_T58 t472 x11_4).f0)⟩ : S44)); (case aB => exact (by repeat (first | (with_reducible first | exact HB.out | apply below_alloc | apply pw_below_drewN | apply below_drew1) | exact HB.out))); (case aF => exact (fun _ _ => trivial)); (case aO => exact (by (with_reducible repeat (first | apply Kd.R_alloc | apply Kd.R_drewN | apply Kd.R_drew)); exact HO_10.out)); (case aS => exact (below_size (by repeat (first | (with_reducible first | exact HB.out | apply below_alloc | apply pw_below_drewN | apply below_drew1) | exact HB.out)))); (case aL => have := LMc48.out; omega); intro v489 w49 ho hb hg hat; rw [← Ny488.out] at ho; have n0_ := Aside0.mk (Kd.R_over' (by (with_reducible repeat (first | apply Kd.R_alloc | apply Kd.R_drewN | apply Kd.R_drew)); exact HO_7.out) (Kd.R_typed (by (with_reducible repeat (first | apply Kd.R_alloc | apply Kd.R_drewN | apply Kd.R_drew)); exact HO_10.out)) (by decide) hg); have n1_ := Aside0.mk (hb); have n2_ := Aside0.mk (ho); clear HO_7; clear HB; clear HO_10; have HO_7 := n0_; have HB := n1_; have HO490 := n2_; clear n0_ n1_ n2_; clear ho hb hg hat)))
                                          go_roundg kj38
                                          case measure => have := HJ3.out; have := HK2.out; have := HK3.out; have := HK4.out; have := HJ38.out; omega
                                          case rel => exact ⟨(y488), (wrap64 (x11_4 + 1)), (by first | rfl | (simp; done) | (simp [*]; done)), H', ⟨by have := HJ3.out; have := HK2.out; have := HK3.out; have := HK4.out; have := HJ38.out; omega⟩, ⟨by (with_reducible repeat (first | apply Kd.R_alloc | apply Kd.R_drewN | apply Kd.R_drew)); exact HO_7.out⟩, ⟨by (with_reducible repeat (first | apply Kd.R_alloc | apply Kd.R_drewN | apply Kd.R_drew)); exact HO490.out⟩, ⟨by repeat (first | (with_reducible first | exact HB.out | apply below_alloc | apply pw_below_drewN | apply below_drew1) | exact HB.out)⟩⟩
                                        · rw [if_neg c48] at H
                                          exact absurd H (by simp)
                                      · exact absurd (by decide) c47
                                    · replace c46 := Bool.eq_false_iff.mpr c46
                                      subst c46
                                      have H1 : (if 0 ≤ t476 then (if t476 < (l0.length : Int) then (if 0 ≤ t477 then (if t477 < (l1.length : Int) then (if ((rd_T56 l0 t476).f1) = ((rd_T56 l1 t477).f1) then (if 0 > 0 then (if x10_4.length < 5864062014805 then (barqueref09_Between.l2 kj38 l0 l1 t472 (x10_4 ++ [(⟨0, ((rd_T58 t472 x11_4).f0)⟩ : S44)]) (wrap64 (x11_4 + 1))) else (none)) else (barqueref09_Between.l2 kj38 l0 l1 t472 x10_4 (wrap64 (x11_4 + 1)))) else (if 4 > 0 then (if x10_4.length < 5864062014805 then (barqueref09_Between.l2 kj38 l0 l1 t472 (x10_4 ++ [(⟨4, ((rd_T58 t472 x11_4).f0)⟩ : S44)]) (wrap64 (x11_4 + 1))) else (none)) else (barqueref09_Between.l2 kj38 l0 l1 t472 x10_4 (wrap64 (x11_4 + 1))))) else (none)) else (none)) else (none)) else (none)) = some (r1, r2) := by rw [if_neg (show ¬ (false = true) by decide)] at H; exact H
                                      clear H
                                      have H := H1
                                      clear H1
                                      by_cases c50 : 0 ≤ t476
                                      · rw [if_pos c50] at H
                                        have c50b0 : decide (0 ≤ t476) = true := decide_eq_true c50
                                        clear c50
                                        by_cases c51 : t476 < (l0.length : Int)
                                        · rw [if_pos c51] at H
                                          have c51b0 : decide (t476 < (l0.length : Int)) = true := decide_eq_true c51
                                          clear c51
                                          by_cases c52 : 0 ≤ t477
                                          · rw [if_pos c52] at H
                                            have c52b0 : decide (0 ≤ t477) = true := decide_eq_true c52
                                            clear c52
                                            by_cases c53 : t477 < (l1.length : Int)
                                            · rw [if_pos c53] at H
                                              have c53b0 : decide (t477 < (l1.length : Int)) = true := decide_eq_true c53
                                              clear c53
                                              by_cases c54 : ((rd_T56 l0 t476).f1) = ((rd_T56 l1 t477).f1)
                                              · rw [if_pos c54] at H
                                                have c54b0 : (((rd_T56 l0 t476).f1) == ((rd_T56 l1 t477).f1)) = true := beq_iff_eq.mpr c54
                                                have c54b1 : (((rd_T56 l0 t476).f1) != ((rd_T56 l1 t477).f1)) = false := bne_eq_false_iff_eq.mpr c54
                                                clear c54
                                                by_cases c55 : 0 > 0
                                                · exact absurd c55 (by decide)
                                                · rw [if_neg c55] at H
                                                  have c55b0 : decide (0 < 0) = false := decide_eq_false c55
                                                  clear c55
                                                  have H' := Aside0.mk H
                                                  clear H
                                                  have p491 : 0 ≤ (t476 : Int) := of_decide_eq_true (by first | (with_reducible assumption) | assumption)
                                                  have q491 : t476 < (l0.length : Int) := of_decide_eq_true (by first | (with_reducible assumption) | assumption)
                                                  obtain ⟨ad491, e491, hx491_0, hx491_1, hx491_2, hx491_3⟩ := at_T56 HR0.out t476 p491 q491
                                                  cases e491
                                                  replace hx491_0 := (HB.out.cell (World.block_lt_of_cell? w _ hx491_0)).trans hx491_0
                                                  replace hx491_1 := (HB.out.cell (World.block_lt_of_cell? w _ hx491_1)).trans hx491_1
                                                  replace hx491_2 := (HB.out.cell (World.block_lt_of_cell? w _ hx491_2)).trans hx491_2
                                                  replace hx491_3 := (HB.out.cell (World.block_lt_of_cell? w _ hx491_3)).trans hx491_3
                                                  replace p491 := eq_true p491
                                                  replace q491 := eq_true q491
                                                  have p492 : 0 ≤ (t477 : Int) := of_decide_eq_true (by first | (with_reducible assumption) | assumption)
                                                  have q492 : t477 < (l1.length : Int) := of_decide_eq_true (by first | (with_reducible assumption) | assumption)
                                                  obtain ⟨ad492, e492, hx492_0, hx492_1, hx492_2, hx492_3⟩ := at_T56 HR1.out t477 p492 q492
                                                  cases e492
                                                  replace hx492_0 := (HB.out.cell (World.block_lt_of_cell? w _ hx492_0)).trans hx492_0
                                                  replace hx492_1 := (HB.out.cell (World.block_lt_of_cell? w _ hx492_1)).trans hx492_1
                                                  replace hx492_2 := (HB.out.cell (World.block_lt_of_cell? w _ hx492_2)).trans hx492_2
                                                  replace hx492_3 := (HB.out.cell (World.block_lt_of_cell? w _ hx492_3)).trans hx492_3
                                                  replace p492 := eq_true p492
                                                  replace q492 := eq_true q492
                                                  go_wp2
                                                  repeat (go_quiet (fail); try go_wp2)
                                                  go_roundg kj38
                                                  case measure => have := HJ3.out; have := HK2.out; have := HK3.out; have := HK4.out; have := HJ38.out; omega
                                                  case rel => exact ⟨(x10_4), (wrap64 (x11_4 + 1)), (by first | rfl | (simp; done) | (simp [*]; done)), H', ⟨by have := HJ3.out; have := HK2.out; have := HK3.out; have := HK4.out; have := HJ38.out; omega⟩, ⟨by (with_reducible repeat (first | apply Kd.R_alloc | apply Kd.R_drewN | apply Kd.R_drew)); exact HO_7.out⟩, ⟨by (with_reducible repeat (first | apply Kd.R_alloc | apply Kd.R_drewN | apply Kd.R_drew)); exact HO_10.out⟩, ⟨by repeat (first | (with_reducible first | exact HB.out | apply below_alloc | apply pw_below_drewN | apply below_drew1) | exact HB.out)⟩⟩
                                              · rw [if_neg c54] at H
                                                have c54b0 : (((rd_T56 l0 t476).f1) == ((rd_T56 l1 t477).f1)) = false := beq_eq_false_iff_ne.mpr c54
                                                have c54b1 : (((rd_T56 l0 t476).f1) != ((rd_T56 l1 t477).f1)) = true := bne_iff_ne.mpr c54
                                                by_cases c58 : 4 > 0
                                                · rw [if_pos c58] at H
                                                  have c58b0 : decide (0 < 4) = true := decide_eq_true c58
                                                  clear c58
                                                  by_cases c59 : x10_4.length < 5864062014805
                                                  · rw [if_pos c59] at H
                                                    have LMc59 := Aside0.mk c59
                                                    clear c59
                                                    obtain ⟨y496, hy496⟩ : ∃ y_ : List (S44), y_ = (x10_4 ++ [(⟨4, ((rd_T58 t472 x11_4).f0)⟩ : S44)]) := ⟨_, rfl⟩
                                                    replace H : (barqueref09_Between.l2 kj38 l0 l1 t472 y496 (wrap64 (x11_4 + 1))) = some (r1, r2) := by first | (rw [hy496]; with_reducible exact H) | (have H2_ := (Option.bind_some _ _).symm.trans H; rw [hy496]; with_reducible exact H2_) | (have H2_ := (Option.bind_some _ _).symm.trans H; with_reducible exact H2_) | with_reducible exact H | (rw [hy496]; exact H) | exact H
                                                    have Ny496 := Aside0.mk hy496
                                                    clear hy496
                                                    have H' := Aside0.mk H
                                                    clear H
                                                    have p491 : 0 ≤ (t476 : Int) := of_decide_eq_true (by first | (with_reducible assumption) | assumption)
                                                    have q491 : t476 < (l0.length : Int) := of_decide_eq_true (by first | (with_reducible assumption) | assumption)
                                                    obtain ⟨ad491, e491, hx491_0, hx491_1, hx491_2, hx491_3⟩ := at_T56 HR0.out t476 p491 q491
                                                    cases e491
                                                    replace hx491_0 := (HB.out.cell (World.block_lt_of_cell? w _ hx491_0)).trans hx491_0
                                                    replace hx491_1 := (HB.out.cell (World.block_lt_of_cell? w _ hx491_1)).trans hx491_1
                                                    replace hx491_2 := (HB.out.cell (World.block_lt_of_cell? w _ hx491_2)).trans hx491_2
                                                    replace hx491_3 := (HB.out.cell (World.block_lt_of_cell? w _ hx491_3)).trans hx491_3
                                                    replace p491 := eq_true p491
                                                    replace q491 := eq_true q491
                                                    have p492 : 0 ≤ (t477 : Int) := of_decide_eq_true (by first | (with_reducible assumption) | assumption)
                                                    have q492 : t477 < (l1.length : Int) := of_decide_eq_true (by first | (with_reducible assumption) | assumption)
                                                    obtain ⟨ad492, e492, hx492_0, hx492_1, hx492_2, hx492_3⟩ := at_T56 HR1.out t477 p492 q492
                                                    cases e492
                                                    replace hx492_0 := (HB.out.cell (World.block_lt_of_cell? w _ hx492_0)).trans hx492_0
                                                    replace hx492_1 := (HB.out.cell (World.block_lt_of_cell? w _ hx492_1)).trans hx492_1
                                                    replace hx492_2 := (HB.out.cell (World.block_lt_of_cell? w _ hx492_2)).trans hx492_2
                                                    replace hx492_3 := (HB.out.cell (World.block_lt_of_cell? w _ hx492_3)).trans hx492_3
                                                    replace p492 := eq_true p492
                                                    replace q492 := eq_true q492
                                                    go_wp2_with (first | ((with_reducible refine gate_builtin (b := .append) (xs := #[.tmp 123, .tmp 127]) rfl ?_); at_builtin; refine Kd.R_append k44 (w0 := w) w.heap.size rfl (.tmp 123) (.tmp 127) 40 44 (.agg #[(.int .i64 0), (.string ⟨#[]⟩)]) 24 rfl Tryd.underlying40 info44 rfl (by decide) (by omega) u10 x10_4 (⟨4, ((rd_T58 t472 x11_4).f0)⟩ : S44) [.int .i64 4, .string ((rd_T58 t472 x11_4).f0)] (fun _ => True) (fun _ => False) rfl rfl ?aP (fun _ hk => hk.elim) ?aF ?aO ?aB ?aS ?aL ?_; (case aP => exact k44_mkM _ _ _ (⟨4, ((rd_T58 t472 x11_4).f0)⟩ : S44)); (case aB => exact (by repeat (first | (with_reducible first | exact HB.out | apply below_alloc | apply pw_below_drewN | apply below_drew1) | exact HB.out))); (case aF => exact (fun _ _ => trivial)); (case aO => exact (by (with_reducible repeat (first | apply Kd.R_alloc | apply Kd.R_drewN | apply Kd.R_drew)); exact HO_10.out)); (case aS => exact (below_size (by repeat (first | (with_reducible first | exact HB.out | apply below_alloc | apply pw_below_drewN | apply below_drew1) | exact HB.out)))); (case aL => have := LMc59.out; omega); intro v497 w60 ho hb hg hat; rw [← Ny496.out] at ho; have n0_ := Aside0.mk (Kd.R_over' (by (with_reducible repeat (first | apply Kd.R_alloc | apply Kd.R_drewN | apply Kd.R_drew)); exact HO_7.out) (Kd.R_typed (by (with_reducible repeat (first | apply Kd.R_alloc | apply Kd.R_drewN | apply Kd.R_drew)); exact HO_10.out)) (by decide) hg); have n1_ := Aside0.mk (hb); have n2_ := Aside0.mk (ho); clear HO_7; clear HB; clear HO_10; have HO_7 := n0_; have HB := n1_; have HO498 := n2_; clear n0_ n1_ n2_; clear ho hb hg hat))
                                                    repeat (go_quiet (first | ((with_reducible refine gate_builtin (b := .append) (xs := #[.tmp 123, .tmp 127]) rfl ?_); at_builtin; refine Kd.R_append k44 (w0 := w) w.heap.size rfl (.tmp 123) (.tmp 127) 40 44 (.agg #[(.int .i64 0), (.string ⟨#[]⟩)]) 24 rfl Tryd.underlying40 info44 rfl (by decide) (by omega) u10 x10_4 (⟨4, ((rd_T58 t472 x11_4).f0)⟩ : S44) [.int .i64 4, .string ((rd_T58 t472 x11_4).f0)] (fun _ => True) (fun _ => False) rfl rfl ?aP (fun _ hk => hk.elim) ?aF ?aO ?aB ?aS ?aL ?_; (case aP => exact k44_mkM _ _ _ (⟨4, ((rd_T58 t472 x11_4).f0)⟩ : S44)); (case aB => exact (by repeat (first | (with_reducible first | exact HB.out | apply below_alloc | apply pw_below_drewN | apply below_drew1) | exact HB.out))); (case aF => exact (fun _ _ => trivial)); (case aO => exact (by (with_reducible repeat (first | apply Kd.R_alloc | apply Kd.R_drewN | apply Kd.R_drew)); exact HO_10.out)); (case aS => exact (below_size (by repeat (first | (with_reducible first | exact HB.out | apply below_alloc | apply pw_below_drewN | apply below_drew1) | exact HB.out)))); (case aL => have := LMc59.out; omega); intro v497 w60 ho hb hg hat; rw [← Ny496.out] at ho; have n0_ := Aside0.mk (Kd.R_over' (by (with_reducible repeat (first | apply Kd.R_alloc | apply Kd.R_drewN | apply Kd.R_drew)); exact HO_7.out) (Kd.R_typed (by (with_reducible repeat (first | apply Kd.R_alloc | apply Kd.R_drewN | apply Kd.R_drew)); exact HO_10.out)) (by decide) hg); have n1_ := Aside0.mk (hb); have n2_ := Aside0.mk (ho); clear HO_7; clear HB; clear HO_10; have HO_7 := n0_; have HB := n1_; have HO498 := n2_; clear n0_ n1_ n2_; clear ho hb hg hat)); try go_wp2_with (first | ((with_reducible refine gate_builtin (b := .append) (xs := #[.tmp 123, .tmp 127]) rfl ?_); at_builtin; refine Kd.R_append k44 (w0 := w) w.heap.size rfl (.tmp 123) (.tmp 127) 40 44 (.agg #[(.int .i64 0), (.string ⟨#[]⟩)]) 24 rfl Tryd.underlying40 info44 rfl (by decide) (by omega) u10 x10_4 (⟨4, ((rd_T58 t472 x11_4).f0)⟩ : S44) [.int .i64 4, .string ((rd_T58 t472 x11_4).f0)] (fun _ => True) (fun _ => False) rfl rfl ?aP (fun _ hk => hk.elim) ?aF ?aO ?aB ?aS ?aL ?_; (case aP => exact k44_mkM _ _ _ (⟨4, ((rd_T58 t472 x11_4).f0)⟩ : S44)); (case aB => exact (by repeat (first | (with_reducible first | exact HB.out | apply below_alloc | apply pw_below_drewN | apply below_drew1) | exact HB.out))); (case aF => exact (fun _ _ => trivial)); (case aO => exact (by (with_reducible repeat (first | apply Kd.R_alloc | apply Kd.R_drewN | apply Kd.R_drew)); exact HO_10.out)); (case aS => exact (below_size (by repeat (first | (with_reducible first | exact HB.out | apply below_alloc | apply pw_below_drewN | apply below_drew1) | exact HB.out)))); (case aL => have := LMc59.out; omega); intro v497 w60 ho hb hg hat; rw [← Ny496.out] at ho; have n0_ := Aside0.mk (Kd.R_over' (by (with_reducible repeat (first | apply Kd.R_alloc | apply Kd.R_drewN | apply Kd.R_drew)); exact HO_7.out) (Kd.R_typed (by (with_reducible repeat (first | apply Kd.R_alloc | apply Kd.R_drewN | apply Kd.R_drew)); exact HO_10.out)) (by decide) hg); have n1_ := Aside0.mk (hb); have n2_ := Aside0.mk (ho); clear HO_7; clear HB; clear HO_10; have HO_7 := n0_; have HB := n1_; have HO498 := n2_; clear n0_ n1_ n2_; clear ho hb hg hat)))
                                                    go_roundg kj38
                                                    case measure => have := HJ3.out; have := HK2.out; have := HK3.out; have := HK4.out; have := HJ38.out; omega
                                                    case rel => exact ⟨(y496), (wrap64 (x11_4 + 1)), (by first | rfl | (simp; done) | (simp [*]; done)), H', ⟨by have := HJ3.out; have := HK2.out; have := HK3.out; have := HK4.out; have := HJ38.out; omega⟩, ⟨by (with_reducible repeat (first | apply Kd.R_alloc | apply Kd.R_drewN | apply Kd.R_drew)); exact HO_7.out⟩, ⟨by (with_reducible repeat (first | apply Kd.R_alloc | apply Kd.R_drewN | apply Kd.R_drew)); exact HO498.out⟩, ⟨by repeat (first | (with_reducible first | exact HB.out | apply below_alloc | apply pw_below_drewN | apply below_drew1) | exact HB.out)⟩⟩
                                                  · rw [if_neg c59] at H
                                                    exact absurd H (by simp)
                                                · exact absurd (by decide) c58
                                            · rw [if_neg c53] at H
                                              exact absurd H (by simp)
                                          · rw [if_neg c52] at H
                                            exact absurd H (by simp)
                                        · rw [if_neg c51] at H
                                          exact absurd H (by simp)
                                      · rw [if_neg c50] at H
                                        exact absurd H (by simp)
                          · rw [if_neg c24] at H
                            exact absurd H (by simp)
                        · rw [if_neg c23] at H
                          have c23b0 : decide (x11_4 < (t472.length : Int)) = false := decide_eq_false c23
                          clear c23
                          simp only [Option.some.injEq, Prod.mk.injEq] at H
                          obtain ⟨rfl, rfl⟩ := H
                          obtain ⟨Ao61, co61, eo61⟩ := Kd.R_slice HO_7.out
                          subst eo61
                          go_wp2
                          repeat (go_quiet (fail); try go_wp2)
                          go_ret2
                          exact ⟨_, by first | rfl | (simp [errW_none, errW_some] <;> rfl) | (simp [*, errW_none, errW_some] <;> rfl), by (with_reducible repeat (first | apply Kd.R_alloc | apply Kd.R_drewN | apply Kd.R_drew)); exact HO_10.out, by repeat (first | (with_reducible first | exact HB.out | apply below_alloc | apply pw_below_drewN | apply below_drew1) | exact HB.out)⟩
      · rw [if_neg c9] at H
        have c9b0 : (x6_3 == 0) = false := beq_eq_false_iff_ne.mpr c9
        have c9b1 : (x6_3 != 0) = true := bne_iff_ne.mpr c9
        simp only [Option.some.injEq, Prod.mk.injEq] at H
        obtain ⟨rfl, rfl⟩ := H
        go_wp2
        repeat (go_quiet (fail); try go_wp2)
        go_ret2
        exact ⟨_, by first | rfl | (simp [errW_none, errW_some] <;> rfl) | (simp [*, errW_none, errW_some] <;> rfl), by first | exact Kd.R_nil _ _ _ _ _ | exact Kd.N_nil _ _ _ _ _ | exact Kd.V_nil _ _ _ _ _ | exact Kd.Q_nil _ _ _ _ _ | exact Kd.S_nil _ _ _ _ _, by repeat (first | (with_reducible first | exact HB.out | apply below_alloc | apply pw_below_drewN | apply below_drew1) | exact HB.out)⟩
end Go.Proofs.YtafjlibcdlihcaaDoor.G
end
section
namespace Go.Proofs.YtafjlibcdlihcaaDoor.G
open Go.RowKit Go.Proofs.YtafjlibcdlihcaaDoorW.PrintWords Go.Proofs.YtafjlibcdlihcaaDoorW.PrintLast Go.Proofs.YtafjlibcdlihcaaDoorW.PrintMore
set_option linter.unusedVariables false
set_option linter.unusedSimpArgs false
theorem toList_eq_ (a b : ByteArray) : (a.toList = b.toList) ↔ a = b := ⟨fun h => ba_ext (by rw [toList_data_, toList_data_] at h; exact h), fun h => by rw [h]⟩
def plE : List S56 → ByteArray → Int → Int
  | [], _, _ => -1
  | x :: l, p, i => if x.f0 = p then i else plE l p (i + 1)
theorem plE_spec : ∀ (l : List S56) (p : ByteArray) (i : Nat), (plE l p i = -1 ∧ findE l p = none) ∨ ∃ (j : Nat) (h : j < l.length), plE l p i = ((i + j : Nat) : Int) ∧ findE l p = some (l[j]'h) ∧ (l[j]'h).f0 = p
  | [], p, i => .inl ⟨rfl, rfl⟩
  | x :: l, p, i => by
    by_cases h : x.f0 = p
    · refine .inr ⟨0, by simp, ?_, ?_, h⟩
      · rw [plE, if_pos h]; rfl
      · subst h; exact findE_cons_eq x l
    · rw [plE, if_neg h, findE_cons_ne x l p h]
      have := plE_spec l p (i + 1)
      rcases this with ⟨h1, h2⟩ | ⟨j, hj, h1, h2, h3⟩
      · exact .inl ⟨h1, h2⟩
      · refine .inr ⟨j + 1, by simp; omega, ?_, ?_, ?_⟩
        · rw [show ((i : Int) + 1) = ((i + 1 : Nat) : Int) by omega, h1]; omega
        · rw [h2]; rfl
        · exact h3
theorem place_l0 (l : List S56) (p : ByteArray) (hl : l.length ≤ 4294967296) : ∀ (d i : Nat), l.length - i = d → i ≤ l.length → Ev (fun k => barqueref09_place.l0 k l p i) (plE (l.drop i) p i) := by
  intro d
  induction d with
  | zero =>
    intro i hd hi
    have e : i = l.length := by omega
    subst e
    apply Ev.step
    · intro k; rw [barqueref09_place.l0]
    have c1 : ¬ ((l.length : Int) < (l.length : Int)) := by omega
    simp only [c1, ↓reduceIte]
    rw [List.drop_eq_nil_of_le (Nat.le_refl _)]
    exact Ev.now _
  | succ d ih =>
    intro i hd hi
    have hlt : i < l.length := by omega
    apply Ev.step
    · intro k; rw [barqueref09_place.l0]
    have c1 : ((i : Int) < (l.length : Int)) := by omega
    have c2 : (0 : Int) ≤ (i : Int) := by omega
    have hw : wrap64 ((i : Int) + 1) = ((i + 1 : Nat) : Int) := by rw [w64_ (by omega) (by omega)]; omega
    simp only [c1, c2, ↓reduceIte, rdM_nat l i hlt, hw, toList_eq_]
    rw [List.drop_eq_getElem_cons hlt, plE]
    by_cases h : (l[i]'hlt).f0 = p
    · simp only [h, ↓reduceIte]
      exact Ev.now _
    · simp only [h, ↓reduceIte]
      exact ih (i + 1) (by omega) (by omega)
theorem place_ev (l : List S56) (p : ByteArray) (hl : l.length ≤ 4294967296) : Ev (fun k => barqueref09_place.f k l p) (plE l p 0) := by
  unfold barqueref09_place.f
  have h := place_l0 l p hl l.length 0 (by omega) (by omega)
  simpa using h
theorem refbetween_j4 (a b : List S56) (ps : List S58) (acc : List S44) (i : Nat) (p : ByteArray) (x y : Nat) (hx : x < a.length) (hy : y < b.length) (hi : i ≤ 4294967296) (ha : acc.length < 5864062014805) (r : List S44 × Int)
    (h : Ev (fun k => barqueref09_Between.l2 k a b ps (acc ++ (if (a[x]'hx).f2 ≠ (b[y]'hy).f2 ∨ (a[x]'hx).f3 ≠ (b[y]'hy).f3 then [⟨3, p⟩] else if (a[x]'hx).f1 ≠ (b[y]'hy).f1 then [⟨4, p⟩] else [])) ((i + 1 : Nat) : Int)) r)
    (t : Bool) (ht : t = decide ((a[x]'hx).f2 ≠ (b[y]'hy).f2 ∨ (a[x]'hx).f3 ≠ (b[y]'hy).f3)) :
    Ev (fun k => barqueref09_Between.j4 k a b ps acc i p x y 0 t) r := by
  apply Ev.step
  · intro k; rw [barqueref09_Between.j4]
  have hw : wrap64 ((i : Int) + 1) = ((i + 1 : Nat) : Int) := by rw [w64_ (by omega) (by omega)]; omega
  have c1 : (0 : Int) ≤ (x : Int) := by omega
  have c2 : (x : Int) < (a.length : Int) := by omega
  have c3 : (0 : Int) ≤ (y : Int) := by omega
  have c4 : (y : Int) < (b.length : Int) := by omega
  have z3 : (3 : Int) > 0 := by decide
  have z4 : (4 : Int) > 0 := by decide
  have z0 : ¬ (0 : Int) > 0 := by decide
  cases t with
  | true =>
    have g := of_decide_eq_true ht.symm
    rw [if_pos g] at h
    simp only [↓reduceIte, ha, hw, z3]
    exact h
  | false =>
    have g := of_decide_eq_false ht.symm
    rw [if_neg g] at h
    simp only [Bool.false_eq_true, ↓reduceIte, ha, hw, c1, c2, c3, c4, z4, z0, rdM_nat a x hx, rdM_nat b y hy]
    by_cases e : (a[x]'hx).f1 = (b[y]'hy).f1
    · rw [if_neg (fun n => n e), List.append_nil] at h
      simp only [e, ↓reduceIte]
      exact h
    · rw [if_pos e] at h
      simp only [e, ↓reduceIte]
      exact h
theorem bne_list_ (u v : ByteArray) : (u.toList != v.toList) = decide (u ≠ v) := by
  by_cases h : u = v
  · subst h; simp
  · have : u.toList ≠ v.toList := fun e => h ((toList_eq_ u v).1 e)
    rw [bne_iff_ne.2 this]
    simp [h]
theorem kindE_le (a b : List S56) (p : ByteArray) : (kindE a b p).length ≤ 1 := by
  unfold kindE
  split
  · exact Nat.le_refl _
  · exact Nat.le_refl _
  · split
    · exact Nat.le_refl _
    · split
      · exact Nat.le_refl _
      · exact Nat.zero_le _
theorem flat_le (a b : List S56) : ∀ ps : List ByteArray, (ps.flatMap (kindE a b)).length ≤ ps.length
  | [] => Nat.le_refl _
  | p :: ps => by
    have h1 := kindE_le a b p
    have h2 := flat_le a b ps
    rw [List.flatMap_cons, List.length_append, List.length_cons]
    omega
theorem refbetween_l2 (a b : List S56) (hal : a.length ≤ 4294967296) (hbl : b.length ≤ 4294967296) (qs : List ByteArray) (hq : qs.length ≤ 4294967296) (ps : List S58) (hps : ps = qs.map (fun p => ⟨p, 0, (⟨#[]⟩ : ByteArray)⟩)) : ∀ (d i : Nat) (acc : List S44), qs.length - i = d → i ≤ qs.length → acc = (qs.take i).flatMap (kindE a b) →
    Ev (fun k => barqueref09_Between.l2 k a b ps acc i) (qs.flatMap (kindE a b), 0) := by
  have hpl : ps.length = qs.length := by rw [hps, List.length_map]
  intro d
  induction d with
  | zero =>
    intro i acc hd hi ha
    have e : i = qs.length := by omega
    subst e
    apply Ev.step
    · intro k; rw [barqueref09_Between.l2]
    have c1 : ¬ ((qs.length : Int) < (ps.length : Int)) := by omega
    simp only [c1, ↓reduceIte]
    rw [List.take_length] at ha
    rw [ha]
    exact Ev.now _
  | succ d ih =>
    intro i acc hd hi ha
    have hlt : i < qs.length := by omega
    have hlp : i < ps.length := by omega
    have hpi : (ps[i]'hlp).f0 = qs[i]'hlt := by subst hps; rw [List.getElem_map]
    have hac : acc.length < 5864062014805 := by
      have := flat_le a b (qs.take i)
      rw [List.length_take] at this
      rw [ha]; omega
    have hnext : ∀ ks, ks = kindE a b (qs[i]'hlt) → Ev (fun k => barqueref09_Between.l2 k a b ps (acc ++ ks) ((i + 1 : Nat) : Int)) (qs.flatMap (kindE a b), 0) := fun ks hk => by
      refine ih (i + 1) _ (by omega) (by omega) ?_
      rw [List.take_succ_eq_append_getElem hlt, List.flatMap_append, ← ha, hk]
      simp
    apply Ev.step
    · intro k; rw [barqueref09_Between.l2]
    have c1 : ((i : Int) < (ps.length : Int)) := by omega
    have c2 : (0 : Int) ≤ (i : Int) := by omega
    have hw : wrap64 ((i : Int) + 1) = ((i + 1 : Nat) : Int) := by rw [w64_ (by omega) (by omega)]; omega
    have z1 : (1 : Int) > 0 := by decide
    have z2 : (2 : Int) > 0 := by decide
    simp only [c1, c2, ↓reduceIte, rdF_nat ps i hlp, hpi, hac, hw, z1, z2]
    refine Ev.bind (place_ev a _ hal) (Ev.bind (place_ev b _ hbl) ?_)
    obtain ⟨p, hp⟩ : ∃ p, qs[i]'hlt = p := ⟨_, rfl⟩
    rw [hp] at hnext ⊢
    have ea := plE_spec a p 0
    have eb := plE_spec b p 0
    rcases eb with ⟨b1, b2⟩ | ⟨y, hy, b1, b2, b3⟩
    · have g : plE b p 0 < 0 := by have : plE b p ((0 : Nat) : Int) = -1 := b1; simp only [Int.ofNat_zero, Int.natCast_zero] at this; rw [this]; decide
      simp only [g, ↓reduceIte]
      exact hnext _ (by unfold kindE; rw [b2])
    · have b1' : plE b p 0 = (y : Int) := by have : plE b p ((0 : Nat) : Int) = _ := b1; rw [Nat.zero_add] at this; exact this
      have g : ¬ (y : Int) < 0 := by omega
      simp only [b1', g, ↓reduceIte]
      rcases ea with ⟨a1, a2⟩ | ⟨x, hx, a1, a2, a3⟩
      · have g2 : plE a p 0 < 0 := by have : plE a p ((0 : Nat) : Int) = -1 := a1; simp only [Int.ofNat_zero, Int.natCast_zero] at this; rw [this]; decide
        simp only [g2, ↓reduceIte]
        exact hnext _ (by unfold kindE; rw [b2, a2])
      · have a1' : plE a p 0 = (x : Int) := by have : plE a p ((0 : Nat) : Int) = _ := a1; rw [Nat.zero_add] at this; exact this
        have g2 : ¬ (x : Int) < 0 := by omega
        have g3 : (0 : Int) ≤ (x : Int) := by omega
        have g4 : (x : Int) < (a.length : Int) := by omega
        have g5 : (0 : Int) ≤ (y : Int) := by omega
        have g6 : (y : Int) < (b.length : Int) := by omega
        simp only [a1', g2, g3, g4, g5, g6, ↓reduceIte, rdM_nat a x hx, rdM_nat b y hy, bne_list_]
        have key := fun t ht => refbetween_j4 a b ps acc i p x y hx hy (by omega) hac _ (hnext _ (by unfold kindE; rw [b2, a2])) t ht
        by_cases e : (a[x]'hx).f2 = (b[y]'hy).f2
        · simp only [e, ↓reduceIte]
          exact key _ (by simp [e])
        · simp only [e, ↓reduceIte]
          exact key _ (by simp [e])
theorem refbetween_l1 (a b : List S56) (hal : a.length ≤ 4294967296) (hbl : b.length ≤ 4294967296) (ha : SortedI a) (hb : SortedI b) (hsa : ∀ x ∈ a, x.f0.size ≤ 200) (hsb : ∀ x ∈ b, x.f0.size ≤ 200) (hu : (unionE a b).length ≤ 4294967296) : ∀ (d i : Nat) (acc : List S58), b.length - i = d → i ≤ b.length →
    acc = a.map (fun x => ⟨x.f0, 0, (⟨#[]⟩ : ByteArray)⟩) ++ ((b.take i).filter (fun y => decide (findE a y.f0 = none))).map (fun x => ⟨x.f0, 0, (⟨#[]⟩ : ByteArray)⟩) →
    Ev (fun k => barqueref09_Between.l1 k a b acc i) ((unionE a b).flatMap (kindE a b), 0) := by
  intro d
  induction d with
  | zero =>
    intro i acc hd hi hac
    have e : i = b.length := by omega
    subst e
    apply Ev.step
    · intro k; rw [barqueref09_Between.l1]
    have c1 : ¬ ((b.length : Int) < (b.length : Int)) := by omega
    simp only [c1, ↓reduceIte]
    rw [List.take_length] at hac
    have hall : acc = allE a b := hac
    have hlen : acc.length ≤ a.length + b.length := by
      rw [hac, List.length_append, List.length_map, List.length_map]
      have := List.length_filter_le (fun y : S56 => decide (findE a y.f0 = none)) b
      omega
    rw [hall] at hlen ⊢
    have hsz : ∀ x ∈ allE a b, x.f0.size ≤ 140737488351232 := by
      intro x hx
      unfold allE at hx
      rcases List.mem_append.1 hx with h | h
      · obtain ⟨z, hz, rfl⟩ := List.mem_map.1 h
        have := hsa z hz
        show z.f0.size ≤ _
        omega
      · obtain ⟨z, hz, rfl⟩ := List.mem_map.1 h
        have := hsb z ((List.mem_filter.1 hz).1)
        show z.f0.size ≤ _
        omega
    have hsl : (allE a b).length ≤ 4294967296 := by
      have := congrArg List.length (all_sort a b ha hb)
      have h2 := fold_length (allE a b) []
      unfold sortK at this
      rw [h2, List.length_map] at this
      simp at this
      omega
    refine Ev.bind (refsort_ev _ hsl hsz) ?_
    have := refbetween_l2 a b hal hbl (unionE a b) hu _ (all_sort a b ha hb) (unionE a b).length 0 [] (by omega) (by omega) rfl
    simpa using this
  | succ d ih =>
    intro i acc hd hi hac
    have hlt : i < b.length := by omega
    have hlen : acc.length < 3518437208883 := by
      rw [hac, List.length_append, List.length_map, List.length_map]
      have := List.length_filter_le (fun y : S56 => decide (findE a y.f0 = none)) (b.take i)
      rw [List.length_take] at this
      omega
    apply Ev.step
    · intro k; rw [barqueref09_Between.l1]
    have c1 : ((i : Int) < (b.length : Int)) := by omega
    have c2 : (0 : Int) ≤ (i : Int) := by omega
    have hw : wrap64 ((i : Int) + 1) = ((i + 1 : Nat) : Int) := by rw [w64_ (by omega) (by omega)]; omega
    simp only [c1, c2, hlen, ↓reduceIte, rdM_nat b i hlt, hw]
    refine Ev.bind (place_ev a _ hal) ?_
    have hsn : (b.take (i + 1)).filter (fun y => decide (findE a y.f0 = none)) = (b.take i).filter (fun y => decide (findE a y.f0 = none)) ++ (if findE a (b[i]'hlt).f0 = none then [b[i]'hlt] else []) := by
      rw [List.take_succ_eq_append_getElem hlt, List.filter_append]
      congr 1
      by_cases hq : findE a (b[i]'hlt).f0 = none <;> simp [hq]
    rcases plE_spec a (b[i]'hlt).f0 0 with ⟨a1, a2⟩ | ⟨x, hx, a1, a2, a3⟩
    · have g : plE a (b[i]'hlt).f0 0 < 0 := by have : plE a (b[i]'hlt).f0 ((0 : Nat) : Int) = -1 := a1; simp only [Int.ofNat_zero, Int.natCast_zero] at this; rw [this]; decide
      simp only [g, ↓reduceIte]
      refine ih (i + 1) _ (by omega) (by omega) ?_
      rw [hsn, if_pos a2, hac, List.map_append, ← List.append_assoc]
      rfl
    · have a1' : plE a (b[i]'hlt).f0 0 = (x : Int) := by have : plE a (b[i]'hlt).f0 ((0 : Nat) : Int) = _ := a1; rw [Nat.zero_add] at this; exact this
      have g : ¬ (x : Int) < 0 := by omega
      simp only [a1', g, ↓reduceIte]
      refine ih (i + 1) _ (by omega) (by omega) ?_
      rw [hsn, if_neg (by rw [a2]; simp), List.append_nil]
      exact hac
theorem refbetween_l0 (a b : List S56) (hal : a.length ≤ 4294967296) (r : List S44 × Int) (h : Ev (fun k => barqueref09_Between.l1 k a b (a.map (fun x => ⟨x.f0, 0, (⟨#[]⟩ : ByteArray)⟩)) 0) r) : ∀ (d i : Nat) (acc : List S58), a.length - i = d → i ≤ a.length → acc = (a.take i).map (fun x => ⟨x.f0, 0, (⟨#[]⟩ : ByteArray)⟩) →
    Ev (fun k => barqueref09_Between.l0 k a b acc i) r := by
  intro d
  induction d with
  | zero =>
    intro i acc hd hi hac
    have e : i = a.length := by omega
    subst e
    apply Ev.step
    · intro k; rw [barqueref09_Between.l0]
    have c1 : ¬ ((a.length : Int) < (a.length : Int)) := by omega
    simp only [c1, ↓reduceIte]
    rw [List.take_length] at hac
    rw [hac]
    exact h
  | succ d ih =>
    intro i acc hd hi hac
    have hlt : i < a.length := by omega
    have hlen : acc.length < 3518437208883 := by rw [hac, List.length_map, List.length_take]; omega
    apply Ev.step
    · intro k; rw [barqueref09_Between.l0]
    have c1 : ((i : Int) < (a.length : Int)) := by omega
    have c2 : (0 : Int) ≤ (i : Int) := by omega
    have hw : wrap64 ((i : Int) + 1) = ((i + 1 : Nat) : Int) := by rw [w64_ (by omega) (by omega)]; omega
    simp only [c1, c2, hlen, ↓reduceIte, rdM_nat a i hlt, hw]
    refine ih (i + 1) _ (by omega) (by omega) ?_
    rw [hac, List.take_succ_eq_append_getElem hlt, List.map_append]
    rfl
def betweenE (a b : List S56) : List S44 × Int := if rightE a = 0 then (if rightE b = 0 then (mergeE a b, 0) else ([], rightE b)) else ([], rightE a)
theorem right_sorted (l : List S56) (h : rightE l = 0) : SortedI l ∧ (∀ x ∈ l, x.f0.size ≤ 200) ∧ l.length ≤ 256 := by
  obtain ⟨h1, _⟩ := rightE_ok l h
  obtain ⟨s1, s2, s3⟩ := pathsE_sorted _ h1
  refine ⟨?_, fun x hx => pathE_size _ (s2 _ (List.mem_map.2 ⟨x, hx, rfl⟩)), by rw [List.length_map] at s3; exact s3⟩
  unfold SortedK at s1
  rw [List.pairwise_map] at s1
  exact s1
theorem refbetween_ev (a b : List S56) (hal : a.length ≤ 60) (hbl : b.length ≤ 60) : Ev (fun k => barqueref09_Between.f k a b) (betweenE a b) := by
  unfold barqueref09_Between.f betweenE
  refine Ev.bind (refright_ev a (by omega)) ?_
  by_cases h : rightE a = 0
  · simp only [h, ↓reduceIte]
    refine Ev.bind (refright_ev b (by omega)) ?_
    apply Ev.step
    · intro k; rw [barqueref09_Between.j0]
    by_cases g : rightE b = 0
    · simp only [g, ↓reduceIte]
      obtain ⟨a1, a2, a3⟩ := right_sorted a h
      obtain ⟨b1, b2, b3⟩ := right_sorted b g
      rw [merge_kind a b a1 b1]
      have hu : (unionE a b).length ≤ 4294967296 := by
        have := congrArg List.length (all_sort a b a1 b1)
        have h2 := fold_length (allE a b) []
        have h3 := List.length_filter_le (fun y : S56 => decide (findE a y.f0 = none)) b
        have h4 : (allE a b).length ≤ a.length + b.length := by
          unfold allE
          rw [List.length_append, List.length_map, List.length_map]
          omega
        unfold sortK at this
        rw [h2, List.length_map] at this
        simp at this
        omega
      exact refbetween_l0 a b (by omega) _ (by
        have := refbetween_l1 a b (by omega) (by omega) a1 b1 a2 b2 hu b.length 0 (a.map (fun x => ⟨x.f0, 0, (⟨#[]⟩ : ByteArray)⟩)) (by omega) (by omega) (by simp)
        simpa using this) a.length 0 [] (by omega) (by omega) rfl
    · simp only [g, ↓reduceIte]
      exact Ev.now _
  · simp only [h, ↓reduceIte]
    apply Ev.step
    · intro k; rw [barqueref09_Between.j0]
    simp only [h, ↓reduceIte]
    exact Ev.now _
end Go.Proofs.YtafjlibcdlihcaaDoor.G
end
