/- Texts of this session's claim of TreeBack, less what its theorem does not reach. No condition. -/
import Derived.Test.YtafjlibcdlihcaaDoorTB13
import Derived.Test.YtafjlibcdlihcaaDoorTB14
import Derived.Test.YtafjlibcdlihcaaDoorTB15
import Derived.Test.YtafjlibcdlihcaaDoorTB16
import Derived.Test.YtafjlibcdlihcaaDoorTB17
import Derived.Test.YtafjlibcdlihcaaDoorTB18
section
namespace Go.Proofs.YtafjlibcdlihcaaDoor.G
open Go.RowKit Go.Proofs.YtafjlibcdlihcaaDoorW.PrintWords Go.Proofs.YtafjlibcdlihcaaDoorW.PrintLast Go.Proofs.YtafjlibcdlihcaaDoorW.PrintMore
attribute [local go_sem] max2_int min2_int max_two min_two max_three min_three max_four min_four   -- for this text's walks alone
set_option linter.unusedVariables false
set_option linter.unusedSimpArgs false
def barqueref09_Bytes.l0 : Nat → List (S56) → ByteArray → ByteArray → Int → Option (ByteArray × Int)
  | 0, _, _, _, _ => none
  | k + 1, x0, x5, x6, x7 => if x7 < (x0.length : Int) then (if 0 ≤ x7 then ((barqueref09_shared.f k x6 ((rd_T56 x0 x7).f0)).bind fun t534 => (if 0 ≤ t534 then (if t534 ≤ (((rd_T56 x0 x7).f0).size : Int) then ((barqueref01_Text.f k (((rd_T56 x0 x7).f0).extract (t534 : Int).toNat ((rd_T56 x0 x7).f0).size)).bind fun bt536 => ((barqueref01_Bytes.f k t534).bind fun t538 => (if x5.size + t538.size ≤ 9223372036854775807 then (if (x5 ++ t538).size + bt536.1.size ≤ 9223372036854775807 then ((barqueref01_Bytes.f k ((rd_T56 x0 x7).f1)).bind fun t540 => (if ((x5 ++ t538) ++ bt536.1).size + t540.size ≤ 9223372036854775807 then ((barqueref01_Bytes.f k ((rd_T56 x0 x7).f2)).bind fun t542 => (if (((x5 ++ t538) ++ bt536.1) ++ t540).size + t542.size ≤ 9223372036854775807 then (if ((((x5 ++ t538) ++ bt536.1) ++ t540) ++ t542).size + ((rd_T56 x0 x7).f3).size ≤ 9223372036854775807 then (barqueref09_Bytes.l0 k x0 (((((x5 ++ t538) ++ bt536.1) ++ t540) ++ t542) ++ ((rd_T56 x0 x7).f3)) ((rd_T56 x0 x7).f0) (wrap64 (x7 + 1))) else (none)) else (none))) else (none))) else (none)) else (none)))) else (none)) else (none))) else (none)) else (some (x5, 0))
def barqueref09_Bytes.f (k : Nat) (l0 : List (S56)) : Option (ByteArray × Int) := (barqueref09_Right.f k l0).bind fun t531 => (if t531 = 0 then ((barqueref01_Bytes.f k (l0.length : Int)).bind fun t532 => (barqueref09_Bytes.l0 k l0 t532 (⟨#[]⟩ : ByteArray) 0)) else (some ((⟨#[]⟩ : ByteArray), t531)))
theorem barqueref09_Bytes.mono_l : ∀ k, (∀ y0 y1 y2 y3, LeO (barqueref09_Bytes.l0 k y0 y1 y2 y3) (barqueref09_Bytes.l0 (k + 1) y0 y1 y2 y3))
  | 0 => fun _ _ _ _ r h => by simp [barqueref09_Bytes.l0] at h
  | k + 1 => by
    have ih0 := barqueref09_Bytes.mono_l k
    · intro y0 y1 y2 y3
      unfold barqueref09_Bytes.l0
      repeat' first
      | (with_reducible exact ih0 _ _ _ _)
      | (with_reducible exact barqueref01_Bytes.mono _ _)
      | (with_reducible exact barqueref01_Text.mono _ _)
      | (with_reducible exact barqueref09_Right.mono _ _)
      | (with_reducible exact barqueref09_shared.mono _ _ _)
      | (with_reducible exact LeO.refl _)
      | (with_reducible exact LeO.none _)
      | (with_reducible refine LeO.ite ?_ ?_)
      | (with_reducible refine LeO.bind ?_ (fun _ => ?_))
      | exact ih0 _ _ _ _
      | exact barqueref01_Bytes.mono _ _
      | exact barqueref01_Text.mono _ _
      | exact barqueref09_Right.mono _ _
      | exact barqueref09_shared.mono _ _ _
      | exact LeO.none _
      | refine LeO.ite ?_ ?_
      | refine LeO.bind ?_ (fun _ => ?_)
theorem barqueref09_Bytes.mono : ∀ a0 k, LeO (barqueref09_Bytes.f k a0) (barqueref09_Bytes.f (k + 1) a0) := by
  intro a0 k
  have ih0 := barqueref09_Bytes.mono_l k
  unfold barqueref09_Bytes.f
  repeat' first
      | (with_reducible exact ih0 _ _ _ _)
      | (with_reducible exact barqueref01_Bytes.mono _ _)
      | (with_reducible exact barqueref01_Text.mono _ _)
      | (with_reducible exact barqueref09_Right.mono _ _)
      | (with_reducible exact barqueref09_shared.mono _ _ _)
      | (with_reducible exact LeO.refl _)
      | (with_reducible exact LeO.none _)
      | (with_reducible refine LeO.ite ?_ ?_)
      | (with_reducible refine LeO.bind ?_ (fun _ => ?_))
      | exact ih0 _ _ _ _
      | exact barqueref01_Bytes.mono _ _
      | exact barqueref01_Text.mono _ _
      | exact barqueref09_Right.mono _ _
      | exact barqueref09_shared.mono _ _ _
      | exact LeO.none _
      | refine LeO.ite ?_ ?_
      | refine LeO.bind ?_ (fun _ => ?_)
def barqueref09_Bytes.T11 : Bool × List (List Nat × List Nat) := (true, [([], []), ([], []), ([1], [1]), ([0, 2], [0, 2]), ([], []), ([3, 4], [3, 4]), ([], []), ([], []), ([6, 7], [6, 7]), ([8], [8]), ([9], [9]), ([10, 2], [10]), ([5, 11], [5, 11]), ([], []), ([], []), ([13, 14], [13, 14]), ([15], [15]), ([16], [16]), ([17, 11], [17]), ([12, 18], [12, 18]), ([], []), ([], []), ([20, 21], [20, 21]), ([22], [22]), ([23], [23]), ([19, 24], [19, 24]), ([25, 18, 0, 1, 2, 3, 4, 5, 6, 7, 8, 9, 10, 11, 12, 13, 14, 15, 16, 17, 18, 19, 20, 21, 22, 23, 24, 25], [0, 25])])
def barqueref09_Bytes.B11 : List Nat := [0, 0, 2, 7, 0, 31, 0, 0, 192, 448, 960, 1990, 4095, 0, 0, 24576, 57344, 122880, 257990, 524287, 0, 0, 3145728, 7340032, 15728640, 33554431, 67108863]
theorem barqueref09_Bytes.tab11 : rtab .any (opsOf Tryd.f33 11) = barqueref09_Bytes.T11 := by kernel_rfl
theorem barqueref09_Bytes.bits11 : waitsOk barqueref09_Bytes.T11.2 barqueref09_Bytes.B11 = true := by kernel_rfl
set_option maxHeartbeats 8000000 in
set_option maxRecDepth 100000 in
theorem barqueref09_Bytes.calls (k : Nat) (A0 : Option Addr) (c0 : Nat) (l0 : List (S56)) (r1 : ByteArray) (r2 : Int) (w : World) (hr0 : Kd.C k56 w A0 l0.length l0) (hc0 : l0.length ≤ c0) (h : barqueref09_Bytes.f k l0 = some (r1, r2)) :
    Calls Tryd.prog 33 #[.slice A0 l0.length c0] w fun e w' => e = .returned (.tuple #[.string r1, .int .i64 r2]) ∧ Below w.heap.size w w' := by
  have HR0 := Aside0.mk hr0
  have HC0 := Aside0.mk hc0
  clear hr0 hc0
  have HB := Aside0.mk (Below.refl w.heap.size w)
  have H : ((barqueref09_Right.f k l0).bind fun t531 => (if t531 = 0 then ((barqueref01_Bytes.f k (l0.length : Int)).bind fun t532 => (barqueref09_Bytes.l0 k l0 t532 (⟨#[]⟩ : ByteArray) 0)) else (some ((⟨#[]⟩ : ByteArray), t531)))) = some (r1, r2) := h
  clear h
  replace H := Option.bind_eq_some_iff.mp H
  obtain ⟨t531, A20, H⟩ := H
  replace H : (if t531 = 0 then ((barqueref01_Bytes.f k (l0.length : Int)).bind fun t532 => (barqueref09_Bytes.l0 k l0 t532 (⟨#[]⟩ : ByteArray) 0)) else (some ((⟨#[]⟩ : ByteArray), t531))) = some (r1, r2) := H
  have A2 := Aside0.mk A20
  clear A20
  by_cases c3 : t531 = 0
  · rw [if_pos c3] at H
    have c3b0 : (t531 == 0) = true := beq_iff_eq.mpr c3
    have c3b1 : (t531 != 0) = false := bne_eq_false_iff_eq.mpr c3
    clear c3
    replace H := Option.bind_eq_some_iff.mp H
    obtain ⟨t532, A40, H⟩ := H
    replace H : (barqueref09_Bytes.l0 k l0 t532 (⟨#[]⟩ : ByteArray) 0) = some (r1, r2) := H
    have A4 := Aside0.mk A40
    clear A40
    have H' := Aside0.mk H
    clear H
    go_enter Tryd.func33, Tryd.ntmps33
    go_wp2_with (first | ((with_reducible refine gate_callee (f := 35) rfl ?_); refine goesL_ (some 12) rfl rfl Tryd.func35 (by kernel_rfl) rfl #[.slice A0 l0.length c0] rfl (by (try simp only [List.map_toArray, List.map_cons, List.map_nil]); first | done | rfl | (simp only [List.length_drop, List.length_take]; rfl)) ?_; (with_reducible refine (barqueref09_Right.calls k _ _ l0 t531 _ ?side1 ?side2 A2.out).mono ?_); (case side1 => repeat (first | exact HR0.out | (with_reducible refine Kd.C_alloc ?_ _) | (with_reducible refine Kd.C_drewN ?_ _) | (with_reducible refine Kd.C_drew ?_))); (case side2 => exact HC0.out); rintro e w5 ⟨rfl, hb⟩; refine ⟨_, rfl, ?_⟩; have n0_ := Aside0.mk (below_step (by repeat (first | (with_reducible first | exact HB.out | apply below_alloc | apply pw_below_drewN | apply below_drew1) | exact HB.out)) hb); clear HB; have HB := n0_; clear n0_; (try clear hb); (try clear hb2); (try clear hk); (try clear hi)) | ((with_reducible refine gate_callee (f := 62) rfl ?_); refine goesL_ (some 18) rfl rfl Tryd.func62 (by kernel_rfl) rfl #[.int .i64 (l0.length : Int)] rfl (by (try simp only [List.map_toArray, List.map_cons, List.map_nil]); first | done | rfl | (simp only [List.length_drop, List.length_take]; rfl)) ?_; (with_reducible refine (barqueref01_Bytes.calls k (l0.length : Int) t532 _ A4.out).mono ?_); rintro e w6 ⟨rfl, hb⟩; refine ⟨_, rfl, ?_⟩; have n0_ := Aside0.mk (below_step (by repeat (first | (with_reducible first | exact HB.out | apply below_alloc | apply pw_below_drewN | apply below_drew1) | exact HB.out)) hb); clear HB; have HB := n0_; clear n0_; (try clear hb); (try clear hb2); (try clear hk); (try clear hi)))
    go_loopg [5, 6, 7] k (fun kq v5 v6 v7 w' => ∃ (x5_1 : ByteArray) (x6_1 : ByteArray) (x7_1 : Int), v5 = .string x5_1 ∧ v6 = .string x6_1 ∧ v7 = .int .i64 x7_1 ∧ Aside0 (barqueref09_Bytes.l0 kq l0 x5_1 x6_1 x7_1 = some (r1, r2)) ∧ Aside0 (kq ≤ k) ∧ Aside0 (Below w.heap.size w w'))
    case atStart => exact ⟨(t532), ((⟨#[]⟩ : ByteArray)), (0), (by first | rfl | (simp; done) | (simp [*]; done)), (by first | rfl | (simp; done) | (simp [*]; done)), (by first | rfl | (simp; done) | (simp [*]; done)), H', ⟨Nat.le_refl _⟩, ⟨by repeat (first | (with_reducible first | exact HB.out | apply below_alloc | apply pw_below_drewN | apply below_drew1) | exact HB.out)⟩⟩
    case round =>
      clear H'
      try clear p2
      try clear c3
      try clear c3b0
      try clear c3b1
      try clear c6
      obtain ⟨x5_1, x6_1, x7_1, rfl, rfl, rfl, HA, HK1, HB⟩ := hrel
      cases gk with
      | zero => exact absurd HA.out (by simp [barqueref09_Bytes.l0])
      | succ k1 =>
        have H := HA.out
        clear HA
        simp only [barqueref09_Bytes.l0] at H
        by_cases c7 : x7_1 < (l0.length : Int)
        · rw [if_pos c7] at H
          have c7b0 : decide (x7_1 < (l0.length : Int)) = true := decide_eq_true c7
          clear c7
          by_cases c8 : 0 ≤ x7_1
          · rw [if_pos c8] at H
            have c8b0 : decide (0 ≤ x7_1) = true := decide_eq_true c8
            clear c8
            replace H := Option.bind_eq_some_iff.mp H
            obtain ⟨t534, A90, H⟩ := H
            replace H : (if 0 ≤ t534 then (if t534 ≤ (((rd_T56 l0 x7_1).f0).size : Int) then ((barqueref01_Text.f k1 (((rd_T56 l0 x7_1).f0).extract (t534 : Int).toNat ((rd_T56 l0 x7_1).f0).size)).bind fun bt536 => ((barqueref01_Bytes.f k1 t534).bind fun t538 => (if x5_1.size + t538.size ≤ 9223372036854775807 then (if (x5_1 ++ t538).size + bt536.1.size ≤ 9223372036854775807 then ((barqueref01_Bytes.f k1 ((rd_T56 l0 x7_1).f1)).bind fun t540 => (if ((x5_1 ++ t538) ++ bt536.1).size + t540.size ≤ 9223372036854775807 then ((barqueref01_Bytes.f k1 ((rd_T56 l0 x7_1).f2)).bind fun t542 => (if (((x5_1 ++ t538) ++ bt536.1) ++ t540).size + t542.size ≤ 9223372036854775807 then (if ((((x5_1 ++ t538) ++ bt536.1) ++ t540) ++ t542).size + ((rd_T56 l0 x7_1).f3).size ≤ 9223372036854775807 then (barqueref09_Bytes.l0 k1 l0 (((((x5_1 ++ t538) ++ bt536.1) ++ t540) ++ t542) ++ ((rd_T56 l0 x7_1).f3)) ((rd_T56 l0 x7_1).f0) (wrap64 (x7_1 + 1))) else (none)) else (none))) else (none))) else (none)) else (none)))) else (none)) else (none)) = some (r1, r2) := H
            have A9 := Aside0.mk A90
            clear A90
            by_cases c10 : 0 ≤ t534
            · rw [if_pos c10] at H
              have c10b0 := eq_true c10
              have c10b1 : decide (0 ≤ t534) = true := decide_eq_true c10
              clear c10
              by_cases c11 : t534 ≤ (((rd_T56 l0 x7_1).f0).size : Int)
              · rw [if_pos c11] at H
                have c11b0 := eq_true c11
                have c11b1 : decide (t534 ≤ (((rd_T56 l0 x7_1).f0).size : Int)) = true := decide_eq_true c11
                clear c11
                replace H := Option.bind_eq_some_iff.mp H
                obtain ⟨⟨t536, t537⟩, A120, H⟩ := H
                replace H : ((barqueref01_Bytes.f k1 t534).bind fun t538 => (if x5_1.size + t538.size ≤ 9223372036854775807 then (if (x5_1 ++ t538).size + t536.size ≤ 9223372036854775807 then ((barqueref01_Bytes.f k1 ((rd_T56 l0 x7_1).f1)).bind fun t540 => (if ((x5_1 ++ t538) ++ t536).size + t540.size ≤ 9223372036854775807 then ((barqueref01_Bytes.f k1 ((rd_T56 l0 x7_1).f2)).bind fun t542 => (if (((x5_1 ++ t538) ++ t536) ++ t540).size + t542.size ≤ 9223372036854775807 then (if ((((x5_1 ++ t538) ++ t536) ++ t540) ++ t542).size + ((rd_T56 l0 x7_1).f3).size ≤ 9223372036854775807 then (barqueref09_Bytes.l0 k1 l0 (((((x5_1 ++ t538) ++ t536) ++ t540) ++ t542) ++ ((rd_T56 l0 x7_1).f3)) ((rd_T56 l0 x7_1).f0) (wrap64 (x7_1 + 1))) else (none)) else (none))) else (none))) else (none)) else (none))) = some (r1, r2) := H
                have A12 := Aside0.mk A120
                clear A120
                replace H := Option.bind_eq_some_iff.mp H
                obtain ⟨t538, A130, H⟩ := H
                replace H : (if x5_1.size + t538.size ≤ 9223372036854775807 then (if (x5_1 ++ t538).size + t536.size ≤ 9223372036854775807 then ((barqueref01_Bytes.f k1 ((rd_T56 l0 x7_1).f1)).bind fun t540 => (if ((x5_1 ++ t538) ++ t536).size + t540.size ≤ 9223372036854775807 then ((barqueref01_Bytes.f k1 ((rd_T56 l0 x7_1).f2)).bind fun t542 => (if (((x5_1 ++ t538) ++ t536) ++ t540).size + t542.size ≤ 9223372036854775807 then (if ((((x5_1 ++ t538) ++ t536) ++ t540) ++ t542).size + ((rd_T56 l0 x7_1).f3).size ≤ 9223372036854775807 then (barqueref09_Bytes.l0 k1 l0 (((((x5_1 ++ t538) ++ t536) ++ t540) ++ t542) ++ ((rd_T56 l0 x7_1).f3)) ((rd_T56 l0 x7_1).f0) (wrap64 (x7_1 + 1))) else (none)) else (none))) else (none))) else (none)) else (none)) = some (r1, r2) := H
                have A13 := Aside0.mk A130
                clear A130
                by_cases c14 : x5_1.size + t538.size ≤ 9223372036854775807
                · rw [if_pos c14] at H
                  have c14b0 := eq_true c14
                  have c14b1 : decide (x5_1.size + t538.size ≤ 9223372036854775807) = true := decide_eq_true c14
                  try have c14b2 : (9223372036854775807 < x5_1.size + t538.size) = False := eq_false (Nat.not_lt.2 c14)
                  (try (have c14b3 := c14b2; simp only [ByteArray.size_append] at c14b3))
                  by_cases c15 : (x5_1 ++ t538).size + t536.size ≤ 9223372036854775807
                  · rw [if_pos c15] at H
                    have c15b0 := eq_true c15
                    have c15b1 : decide ((x5_1 ++ t538).size + t536.size ≤ 9223372036854775807) = true := decide_eq_true c15
                    (try (have c15b1e := c15b1; simp only [ByteArray.size_append] at c15b1e))
                    (try (have c15b1f := c15b1; simp only [ByteArray.size_append, Int.natCast_add] at c15b1f))
                    try have c15b2 : (9223372036854775807 < (x5_1 ++ t538).size + t536.size) = False := eq_false (Nat.not_lt.2 c15)
                    (try (have c15b3 := c15b2; simp only [ByteArray.size_append] at c15b3))
                    replace H := Option.bind_eq_some_iff.mp H
                    obtain ⟨t540, A160, H⟩ := H
                    replace H : (if ((x5_1 ++ t538) ++ t536).size + t540.size ≤ 9223372036854775807 then ((barqueref01_Bytes.f k1 ((rd_T56 l0 x7_1).f2)).bind fun t542 => (if (((x5_1 ++ t538) ++ t536) ++ t540).size + t542.size ≤ 9223372036854775807 then (if ((((x5_1 ++ t538) ++ t536) ++ t540) ++ t542).size + ((rd_T56 l0 x7_1).f3).size ≤ 9223372036854775807 then (barqueref09_Bytes.l0 k1 l0 (((((x5_1 ++ t538) ++ t536) ++ t540) ++ t542) ++ ((rd_T56 l0 x7_1).f3)) ((rd_T56 l0 x7_1).f0) (wrap64 (x7_1 + 1))) else (none)) else (none))) else (none)) = some (r1, r2) := H
                    have A16 := Aside0.mk A160
                    clear A160
                    by_cases c17 : ((x5_1 ++ t538) ++ t536).size + t540.size ≤ 9223372036854775807
                    · rw [if_pos c17] at H
                      have c17b0 := eq_true c17
                      have c17b1 : decide (((x5_1 ++ t538) ++ t536).size + t540.size ≤ 9223372036854775807) = true := decide_eq_true c17
                      (try (have c17b1e := c17b1; simp only [ByteArray.size_append] at c17b1e))
                      (try (have c17b1f := c17b1; simp only [ByteArray.size_append, Int.natCast_add] at c17b1f))
                      try have c17b2 : (9223372036854775807 < ((x5_1 ++ t538) ++ t536).size + t540.size) = False := eq_false (Nat.not_lt.2 c17)
                      (try (have c17b3 := c17b2; simp only [ByteArray.size_append] at c17b3))
                      replace H := Option.bind_eq_some_iff.mp H
                      obtain ⟨t542, A180, H⟩ := H
                      replace H : (if (((x5_1 ++ t538) ++ t536) ++ t540).size + t542.size ≤ 9223372036854775807 then (if ((((x5_1 ++ t538) ++ t536) ++ t540) ++ t542).size + ((rd_T56 l0 x7_1).f3).size ≤ 9223372036854775807 then (barqueref09_Bytes.l0 k1 l0 (((((x5_1 ++ t538) ++ t536) ++ t540) ++ t542) ++ ((rd_T56 l0 x7_1).f3)) ((rd_T56 l0 x7_1).f0) (wrap64 (x7_1 + 1))) else (none)) else (none)) = some (r1, r2) := H
                      have A18 := Aside0.mk A180
                      clear A180
                      by_cases c19 : (((x5_1 ++ t538) ++ t536) ++ t540).size + t542.size ≤ 9223372036854775807
                      · rw [if_pos c19] at H
                        have c19b0 := eq_true c19
                        have c19b1 : decide ((((x5_1 ++ t538) ++ t536) ++ t540).size + t542.size ≤ 9223372036854775807) = true := decide_eq_true c19
                        (try (have c19b1e := c19b1; simp only [ByteArray.size_append] at c19b1e))
                        (try (have c19b1f := c19b1; simp only [ByteArray.size_append, Int.natCast_add] at c19b1f))
                        try have c19b2 : (9223372036854775807 < (((x5_1 ++ t538) ++ t536) ++ t540).size + t542.size) = False := eq_false (Nat.not_lt.2 c19)
                        (try (have c19b3 := c19b2; simp only [ByteArray.size_append] at c19b3))
                        by_cases c20 : ((((x5_1 ++ t538) ++ t536) ++ t540) ++ t542).size + ((rd_T56 l0 x7_1).f3).size ≤ 9223372036854775807
                        · rw [if_pos c20] at H
                          have c20b0 := eq_true c20
                          have c20b1 : decide (((((x5_1 ++ t538) ++ t536) ++ t540) ++ t542).size + ((rd_T56 l0 x7_1).f3).size ≤ 9223372036854775807) = true := decide_eq_true c20
                          (try (have c20b1e := c20b1; simp only [ByteArray.size_append] at c20b1e))
                          (try (have c20b1f := c20b1; simp only [ByteArray.size_append, Int.natCast_add] at c20b1f))
                          try have c20b2 : (9223372036854775807 < ((((x5_1 ++ t538) ++ t536) ++ t540) ++ t542).size + ((rd_T56 l0 x7_1).f3).size) = False := eq_false (Nat.not_lt.2 c20)
                          (try (have c20b3 := c20b2; simp only [ByteArray.size_append] at c20b3))
                          have H' := Aside0.mk H
                          clear H
                          have p533 : 0 ≤ (x7_1 : Int) := of_decide_eq_true (by first | (with_reducible assumption) | assumption)
                          have q533 : x7_1 < (l0.length : Int) := of_decide_eq_true (by first | (with_reducible assumption) | assumption)
                          obtain ⟨ad533, e533, hx533_0, hx533_1, hx533_2, hx533_3⟩ := at_T56 HR0.out x7_1 p533 q533
                          cases e533
                          replace hx533_0 := (HB.out.cell (World.block_lt_of_cell? w _ hx533_0)).trans hx533_0
                          replace hx533_1 := (HB.out.cell (World.block_lt_of_cell? w _ hx533_1)).trans hx533_1
                          replace hx533_2 := (HB.out.cell (World.block_lt_of_cell? w _ hx533_2)).trans hx533_2
                          replace hx533_3 := (HB.out.cell (World.block_lt_of_cell? w _ hx533_3)).trans hx533_3
                          replace p533 := eq_true p533
                          replace q533 := eq_true q533
                          try go_wp2_with (first | ((with_reducible refine gate_callee (f := 63) rfl ?_); refine goesL_ (some 31) rfl rfl Tryd.func63 (by kernel_rfl) rfl #[.string x6_1, .string ((rd_T56 l0 x7_1).f0)] rfl (by (try simp only [List.map_toArray, List.map_cons, List.map_nil]); first | done | rfl | (simp only [List.length_drop, List.length_take]; rfl)) ?_; (with_reducible refine (barqueref09_shared.calls k1 x6_1 ((rd_T56 l0 x7_1).f0) t534 _ A9.out).mono ?_); rintro e w' ⟨rfl, ⟨nd, rfl⟩⟩; refine ⟨_, rfl, ?_⟩; have p535 : 0 ≤ (x7_1 : Int) := of_decide_eq_true (by first | (with_reducible assumption) | assumption); have q535 : x7_1 < (l0.length : Int) := of_decide_eq_true (by first | (with_reducible assumption) | assumption); obtain ⟨ad535, e535, hx535_0, hx535_1, hx535_2, hx535_3⟩ := at_T56 HR0.out x7_1 p535 q535; obtain rfl : ad533 = ad535 := (by injection e535); replace hx535_0 := (HB.out.cell (World.block_lt_of_cell? w _ hx535_0)).trans hx535_0; replace hx535_1 := (HB.out.cell (World.block_lt_of_cell? w _ hx535_1)).trans hx535_1; replace hx535_2 := (HB.out.cell (World.block_lt_of_cell? w _ hx535_2)).trans hx535_2; replace hx535_3 := (HB.out.cell (World.block_lt_of_cell? w _ hx535_3)).trans hx535_3; replace p535 := eq_true p535; replace q535 := eq_true q535) | ((with_reducible refine gate_callee (f := 64) rfl ?_); refine goesL_ (some 40) rfl rfl Tryd.func64 (by kernel_rfl) rfl #[.string (((rd_T56 l0 x7_1).f0).extract (t534 : Int).toNat ((rd_T56 l0 x7_1).f0).size)] rfl (by (try simp only [List.map_toArray, List.map_cons, List.map_nil]); first | done | rfl | (simp only [List.length_drop, List.length_take]; rfl)) ?_; (with_reducible refine (barqueref01_Text.calls k1 (((rd_T56 l0 x7_1).f0).extract (t534 : Int).toNat ((rd_T56 l0 x7_1).f0).size) t536 t537 _ A12.out).mono ?_); rintro e w21 ⟨rfl, hb⟩; refine ⟨_, rfl, ?_⟩; have n0_ := Aside0.mk (below_step (by repeat (first | (with_reducible first | exact HB.out | apply below_alloc | apply pw_below_drewN | apply below_drew1) | exact HB.out)) hb); clear HB; have HB := n0_; clear n0_; (try clear hb); (try clear hb2); (try clear hk); (try clear hi)))
                          have n0_ := Aside0.mk (below_drew1 HB.out)
                          clear HB
                          have HB := n0_
                          clear n0_
                          have p539 : 0 ≤ (x7_1 : Int) := of_decide_eq_true (by first | (with_reducible assumption) | assumption)
                          have q539 : x7_1 < (l0.length : Int) := of_decide_eq_true (by first | (with_reducible assumption) | assumption)
                          obtain ⟨ad539, e539, hx539_0, hx539_1, hx539_2, hx539_3⟩ := at_T56 HR0.out x7_1 p539 q539
                          have hw539_3 := hx539_3
                          have hw539_2 := hx539_2
                          have hw539_1 := hx539_1
                          have hw539_0 := hx539_0
                          obtain rfl : ad533 = ad539 := (by injection e539)
                          replace hx539_0 := (HB.out.cell (World.block_lt_of_cell? w _ hx539_0)).trans hx539_0
                          replace hx539_1 := (HB.out.cell (World.block_lt_of_cell? w _ hx539_1)).trans hx539_1
                          replace hx539_2 := (HB.out.cell (World.block_lt_of_cell? w _ hx539_2)).trans hx539_2
                          replace hx539_3 := (HB.out.cell (World.block_lt_of_cell? w _ hx539_3)).trans hx539_3
                          replace p539 := eq_true p539
                          replace q539 := eq_true q539
                          have p541 : 0 ≤ (x7_1 : Int) := of_decide_eq_true (by first | (with_reducible assumption) | assumption)
                          have q541 : x7_1 < (l0.length : Int) := of_decide_eq_true (by first | (with_reducible assumption) | assumption)
                          obtain ⟨ad541, e541, hx541_0, hx541_1, hx541_2, hx541_3⟩ := at_T56 HR0.out x7_1 p541 q541
                          have hw541_3 := hx541_3
                          have hw541_2 := hx541_2
                          have hw541_1 := hx541_1
                          have hw541_0 := hx541_0
                          obtain rfl : ad533 = ad541 := (by injection e541)
                          replace hx541_0 := (HB.out.cell (World.block_lt_of_cell? w _ hx541_0)).trans hx541_0
                          replace hx541_1 := (HB.out.cell (World.block_lt_of_cell? w _ hx541_1)).trans hx541_1
                          replace hx541_2 := (HB.out.cell (World.block_lt_of_cell? w _ hx541_2)).trans hx541_2
                          replace hx541_3 := (HB.out.cell (World.block_lt_of_cell? w _ hx541_3)).trans hx541_3
                          replace p541 := eq_true p541
                          replace q541 := eq_true q541
                          have p543 : 0 ≤ (x7_1 : Int) := of_decide_eq_true (by first | (with_reducible assumption) | assumption)
                          have q543 : x7_1 < (l0.length : Int) := of_decide_eq_true (by first | (with_reducible assumption) | assumption)
                          obtain ⟨ad543, e543, hx543_0, hx543_1, hx543_2, hx543_3⟩ := at_T56 HR0.out x7_1 p543 q543
                          have hw543_3 := hx543_3
                          have hw543_2 := hx543_2
                          have hw543_1 := hx543_1
                          have hw543_0 := hx543_0
                          obtain rfl : ad533 = ad543 := (by injection e543)
                          replace hx543_0 := (HB.out.cell (World.block_lt_of_cell? w _ hx543_0)).trans hx543_0
                          replace hx543_1 := (HB.out.cell (World.block_lt_of_cell? w _ hx543_1)).trans hx543_1
                          replace hx543_2 := (HB.out.cell (World.block_lt_of_cell? w _ hx543_2)).trans hx543_2
                          replace hx543_3 := (HB.out.cell (World.block_lt_of_cell? w _ hx543_3)).trans hx543_3
                          replace p543 := eq_true p543
                          replace q543 := eq_true q543
                          refine start_ (n := 27) (S := fun w' => w'.cell? (ad533.add ((x7_1).toNat * 4)) = some (.string ((rd_T56 l0 x7_1).f0)) ∧ w'.cell? ⟨(ad533.add ((x7_1).toNat * 4)).block, (ad533.add ((x7_1).toNat * 4)).off + 1, none⟩ = some (.int .i64 ((rd_T56 l0 x7_1).f1)) ∧ w'.cell? ⟨(ad533.add ((x7_1).toNat * 4)).block, (ad533.add ((x7_1).toNat * 4)).off + 2, none⟩ = some (.int .i64 ((rd_T56 l0 x7_1).f2)) ∧ w'.cell? ⟨(ad533.add ((x7_1).toNat * 4)).block, (ad533.add ((x7_1).toNat * 4)).off + 3, none⟩ = some (.string ((rd_T56 l0 x7_1).f3)) ∧ w'.cell? (ad533.add ((x7_1).toNat * 4)) = some (.string ((rd_T56 l0 x7_1).f0)) ∧ w'.cell? ⟨(ad533.add ((x7_1).toNat * 4)).block, (ad533.add ((x7_1).toNat * 4)).off + 1, none⟩ = some (.int .i64 ((rd_T56 l0 x7_1).f1)) ∧ w'.cell? ⟨(ad533.add ((x7_1).toNat * 4)).block, (ad533.add ((x7_1).toNat * 4)).off + 2, none⟩ = some (.int .i64 ((rd_T56 l0 x7_1).f2)) ∧ w'.cell? ⟨(ad533.add ((x7_1).toNat * 4)).block, (ad533.add ((x7_1).toNat * 4)).off + 3, none⟩ = some (.string ((rd_T56 l0 x7_1).f3)) ∧ w'.cell? (ad533.add ((x7_1).toNat * 4)) = some (.string ((rd_T56 l0 x7_1).f0)) ∧ w'.cell? ⟨(ad533.add ((x7_1).toNat * 4)).block, (ad533.add ((x7_1).toNat * 4)).off + 1, none⟩ = some (.int .i64 ((rd_T56 l0 x7_1).f1)) ∧ w'.cell? ⟨(ad533.add ((x7_1).toNat * 4)).block, (ad533.add ((x7_1).toNat * 4)).off + 2, none⟩ = some (.int .i64 ((rd_T56 l0 x7_1).f2)) ∧ w'.cell? ⟨(ad533.add ((x7_1).toNat * 4)).block, (ad533.add ((x7_1).toNat * 4)).off + 3, none⟩ = some (.string ((rd_T56 l0 x7_1).f3))) (ds := []) #[false, false, false, false, false, false, false, false, false, false, false, false, false, false, false, false, false, false, false, false, false, false, false, false, false, false, false] (by kernel_rfl) rfl rfl ⟨((HB.out.cell (World.block_lt_of_cell? w _ hw539_0)).trans hw539_0), ((HB.out.cell (World.block_lt_of_cell? w _ hw539_1)).trans hw539_1), ((HB.out.cell (World.block_lt_of_cell? w _ hw539_2)).trans hw539_2), ((HB.out.cell (World.block_lt_of_cell? w _ hw539_3)).trans hw539_3), ((HB.out.cell (World.block_lt_of_cell? w _ hw541_0)).trans hw541_0), ((HB.out.cell (World.block_lt_of_cell? w _ hw541_1)).trans hw541_1), ((HB.out.cell (World.block_lt_of_cell? w _ hw541_2)).trans hw541_2), ((HB.out.cell (World.block_lt_of_cell? w _ hw541_3)).trans hw541_3), ((HB.out.cell (World.block_lt_of_cell? w _ hw543_0)).trans hw543_0), ((HB.out.cell (World.block_lt_of_cell? w _ hw543_1)).trans hw543_1), ((HB.out.cell (World.block_lt_of_cell? w _ hw543_2)).trans hw543_2), ((HB.out.cell (World.block_lt_of_cell? w _ hw543_3)).trans hw543_3)⟩ (fun hHeld => ?_); refine with_tabW barqueref09_Bytes.tab11 barqueref09_Bytes.bits11 (fun HT_ HW_ => ?_)
                          generalize w21.drew = w22 at HB hx539_0 hx539_1 hx539_2 hx539_3 hx541_0 hx541_1 hx541_2 hx541_3 hx543_0 hx543_1 hx543_2 hx543_3 hHeld ⊢
                          refine pure_ (i := 0) (N := some 43) (v := ?_) (a' := ?_) #[true, false, false, false, false, false, false, false, false, false, false, false, false, false, false, false, false, false, false, false, false, false, false, false, false, false, false] rfl rfl (any_of HT_.out (by kernel_rfl)) (fun _ _ _ h => h) (Or.inl ⟨by rfl, ?_⟩) ?_ ?_
                          rotate_left
                          · intro w'
                            go_simp
                            with_reducible rfl
                          rotate_left
                          · simp only [Act.put, List.setIfInBounds_toArray, List.set_cons_zero, List.set_cons_succ, i64_w, i32_w]
                            rfl
                          refine pure_ (i := 1) (N := some 44) (v := ?_) (a' := ?_) #[true, true, false, false, false, false, false, false, false, false, false, false, false, false, false, false, false, false, false, false, false, false, false, false, false, false, false] rfl rfl (any_of HT_.out (by kernel_rfl)) (fun _ _ _ h => h) (Or.inl ⟨by rfl, ?_⟩) ?_ ?_
                          rotate_left
                          · intro w'
                            go_simp
                            with_reducible rfl
                          rotate_left
                          · simp only [Act.put, List.setIfInBounds_toArray, List.set_cons_zero, List.set_cons_succ, i64_w, i32_w]
                            rfl
                          refine pure_ (i := 4) (N := some 47) (v := ?_) (a' := ?_) #[true, true, false, false, true, false, false, false, false, false, false, false, false, false, false, false, false, false, false, false, false, false, false, false, false, false, false] rfl rfl (any_of HT_.out (by kernel_rfl)) (fun _ _ _ h => h) (Or.inl ⟨by rfl, ?_⟩) ?_ ?_
                          rotate_left
                          · intro w'
                            go_simp
                            with_reducible rfl
                          rotate_left
                          · simp only [Act.put, List.setIfInBounds_toArray, List.set_cons_zero, List.set_cons_succ, i64_w, i32_w]
                            rfl
                          refine pure_ (i := 6) (N := some 49) (v := ?_) (a' := ?_) #[true, true, false, false, true, false, true, false, false, false, false, false, false, false, false, false, false, false, false, false, false, false, false, false, false, false, false] rfl rfl (any_of HT_.out (by kernel_rfl)) (fun _ _ _ h => h) (Or.inl ⟨by rfl, ?_⟩) ?_ ?_
                          rotate_left
                          · intro w'
                            go_simp
                            with_reducible rfl
                          rotate_left
                          · simp only [Act.put, List.setIfInBounds_toArray, List.set_cons_zero, List.set_cons_succ, i64_w, i32_w]
                            rfl
                          refine pure_ (i := 7) (N := some 50) (v := ?_) (a' := ?_) #[true, true, false, false, true, false, true, true, false, false, false, false, false, false, false, false, false, false, false, false, false, false, false, false, false, false, false] rfl rfl (any_of HT_.out (by kernel_rfl)) (fun _ _ _ h => h) (Or.inl ⟨by rfl, ?_⟩) ?_ ?_
                          rotate_left
                          · intro w'
                            go_simp
                            with_reducible rfl
                          rotate_left
                          · simp only [Act.put, List.setIfInBounds_toArray, List.set_cons_zero, List.set_cons_succ, i64_w, i32_w]
                            rfl
                          refine pure_ (i := 8) (N := some 51) (v := ?_) (a' := ?_) #[true, true, false, false, true, false, true, true, true, false, false, false, false, false, false, false, false, false, false, false, false, false, false, false, false, false, false] rfl rfl (any_of HT_.out (by kernel_rfl)) (fun _ _ _ h => h) (Or.inl ⟨by rfl, ?_⟩) ?_ ?_
                          rotate_left
                          · intro w'
                            go_simp
                            with_reducible rfl
                          rotate_left
                          · simp only [Act.put, List.setIfInBounds_toArray, List.set_cons_zero, List.set_cons_succ, i64_w, i32_w]
                            rfl
                          refine pure_ (i := 9) (N := some 52) (v := ?_) (a' := ?_) #[true, true, false, false, true, false, true, true, true, true, false, false, false, false, false, false, false, false, false, false, false, false, false, false, false, false, false] rfl rfl (any_of HT_.out (by kernel_rfl)) (fun _ _ _ h => h) (Or.inl ⟨by rfl, ?_⟩) ?_ ?_
                          rotate_left
                          · intro w'
                            go_simp
                            with_reducible rfl
                          rotate_left
                          · simp only [Act.put, List.setIfInBounds_toArray, List.set_cons_zero, List.set_cons_succ, i64_w, i32_w]
                            rfl
                          refine pure_ (i := 13) (N := some 56) (v := ?_) (a' := ?_) #[true, true, false, false, true, false, true, true, true, true, false, false, false, true, false, false, false, false, false, false, false, false, false, false, false, false, false] rfl rfl (any_of HT_.out (by kernel_rfl)) (fun _ _ _ h => h) (Or.inl ⟨by rfl, ?_⟩) ?_ ?_
                          rotate_left
                          · intro w'
                            go_simp
                            with_reducible rfl
                          rotate_left
                          · simp only [Act.put, List.setIfInBounds_toArray, List.set_cons_zero, List.set_cons_succ, i64_w, i32_w]
                            rfl
                          refine pure_ (i := 14) (N := some 57) (v := ?_) (a' := ?_) #[true, true, false, false, true, false, true, true, true, true, false, false, false, true, true, false, false, false, false, false, false, false, false, false, false, false, false] rfl rfl (any_of HT_.out (by kernel_rfl)) (fun _ _ _ h => h) (Or.inl ⟨by rfl, ?_⟩) ?_ ?_
                          rotate_left
                          · intro w'
                            go_simp
                            with_reducible rfl
                          rotate_left
                          · simp only [Act.put, List.setIfInBounds_toArray, List.set_cons_zero, List.set_cons_succ, i64_w, i32_w]
                            rfl
                          refine pure_ (i := 15) (N := some 58) (v := ?_) (a' := ?_) #[true, true, false, false, true, false, true, true, true, true, false, false, false, true, true, true, false, false, false, false, false, false, false, false, false, false, false] rfl rfl (any_of HT_.out (by kernel_rfl)) (fun _ _ _ h => h) (Or.inl ⟨by rfl, ?_⟩) ?_ ?_
                          rotate_left
                          · intro w'
                            go_simp
                            with_reducible rfl
                          rotate_left
                          · simp only [Act.put, List.setIfInBounds_toArray, List.set_cons_zero, List.set_cons_succ, i64_w, i32_w]
                            rfl
                          refine pure_ (i := 16) (N := some 59) (v := ?_) (a' := ?_) #[true, true, false, false, true, false, true, true, true, true, false, false, false, true, true, true, true, false, false, false, false, false, false, false, false, false, false] rfl rfl (any_of HT_.out (by kernel_rfl)) (fun _ _ _ h => h) (Or.inl ⟨by rfl, ?_⟩) ?_ ?_
                          rotate_left
                          · intro w'
                            go_simp
                            with_reducible rfl
                          rotate_left
                          · simp only [Act.put, List.setIfInBounds_toArray, List.set_cons_zero, List.set_cons_succ, i64_w, i32_w]
                            rfl
                          refine pure_ (i := 20) (N := some 63) (v := ?_) (a' := ?_) #[true, true, false, false, true, false, true, true, true, true, false, false, false, true, true, true, true, false, false, false, true, false, false, false, false, false, false] rfl rfl (any_of HT_.out (by kernel_rfl)) (fun _ _ _ h => h) (Or.inl ⟨by rfl, ?_⟩) ?_ ?_
                          rotate_left
                          · intro w'
                            go_simp
                            with_reducible rfl
                          rotate_left
                          · simp only [Act.put, List.setIfInBounds_toArray, List.set_cons_zero, List.set_cons_succ, i64_w, i32_w]
                            rfl
                          refine pure_ (i := 21) (N := some 64) (v := ?_) (a' := ?_) #[true, true, false, false, true, false, true, true, true, true, false, false, false, true, true, true, true, false, false, false, true, true, false, false, false, false, false] rfl rfl (any_of HT_.out (by kernel_rfl)) (fun _ _ _ h => h) (Or.inl ⟨by rfl, ?_⟩) ?_ ?_
                          rotate_left
                          · intro w'
                            go_simp
                            with_reducible rfl
                          rotate_left
                          · simp only [Act.put, List.setIfInBounds_toArray, List.set_cons_zero, List.set_cons_succ, i64_w, i32_w]
                            rfl
                          refine pure_ (i := 22) (N := some 65) (v := ?_) (a' := ?_) #[true, true, false, false, true, false, true, true, true, true, false, false, false, true, true, true, true, false, false, false, true, true, true, false, false, false, false] rfl rfl (any_of HT_.out (by kernel_rfl)) (fun _ _ _ h => h) (Or.inl ⟨by rfl, ?_⟩) ?_ ?_
                          rotate_left
                          · intro w'
                            go_simp
                            with_reducible rfl
                          rotate_left
                          · simp only [Act.put, List.setIfInBounds_toArray, List.set_cons_zero, List.set_cons_succ, i64_w, i32_w]
                            rfl
                          refine pure_ (i := 23) (N := some 66) (v := ?_) (a' := ?_) #[true, true, false, false, true, false, true, true, true, true, false, false, false, true, true, true, true, false, false, false, true, true, true, true, false, false, false] rfl rfl (any_of HT_.out (by kernel_rfl)) (fun _ _ _ h => h) (Or.inl ⟨by rfl, ?_⟩) ?_ ?_
                          rotate_left
                          · intro w'
                            go_simp
                            with_reducible rfl
                          rotate_left
                          · simp only [Act.put, List.setIfInBounds_toArray, List.set_cons_zero, List.set_cons_succ, i64_w, i32_w]
                            rfl
                          refine take_ (i := 10) (N := some 53) (v := ?_) (a' := ?_) #[true, true, false, false, true, false, true, true, true, true, true, false, false, true, true, true, true, false, false, false, true, true, true, true, false, false, false] rfl rfl (take_ofW HT_.out HW_.out (by kernel_rfl)) (fun _ _ _ h => h) (Or.inl ⟨by rfl, ?_⟩) hHeld ?_ ?_
                          rotate_left
                          · rintro w' ⟨s0, s1, s2, s3, s4, s5, s6, s7, s8, s9, s10, s11⟩
                            go_simp
                            with_reducible rfl
                          rotate_left
                          · simp only [Act.put, List.setIfInBounds_toArray, List.set_cons_zero, List.set_cons_succ, i64_w, i32_w]
                            rfl
                          refine take_ (i := 17) (N := some 60) (v := ?_) (a' := ?_) #[true, true, false, false, true, false, true, true, true, true, true, false, false, true, true, true, true, true, false, false, true, true, true, true, false, false, false] rfl rfl (take_ofW HT_.out HW_.out (by kernel_rfl)) (fun _ _ _ h => h) (Or.inl ⟨by rfl, ?_⟩) hHeld ?_ ?_
                          rotate_left
                          · rintro w' ⟨s0, s1, s2, s3, s4, s5, s6, s7, s8, s9, s10, s11⟩
                            go_simp
                            with_reducible rfl
                          rotate_left
                          · simp only [Act.put, List.setIfInBounds_toArray, List.set_cons_zero, List.set_cons_succ, i64_w, i32_w]
                            rfl
                          refine take_ (i := 24) (N := some 67) (v := ?_) (a' := ?_) #[true, true, false, false, true, false, true, true, true, true, true, false, false, true, true, true, true, true, false, false, true, true, true, true, true, false, false] rfl rfl (take_ofW HT_.out HW_.out (by kernel_rfl)) (fun _ _ _ h => h) (Or.inl ⟨by rfl, ?_⟩) hHeld ?_ ?_
                          rotate_left
                          · rintro w' ⟨s0, s1, s2, s3, s4, s5, s6, s7, s8, s9, s10, s11⟩
                            go_simp
                            with_reducible rfl
                          rotate_left
                          · simp only [Act.put, List.setIfInBounds_toArray, List.set_cons_zero, List.set_cons_succ, i64_w, i32_w]
                            rfl
                          refine one_ (i := 2) (N := some 45) #[true, true, true, false, true, false, true, true, true, true, true, false, false, true, true, true, true, true, false, false, true, true, true, true, true, false, false] rfl rfl (one_of HT_.out (by kernel_rfl)) (by decide) (fun K hK => ?_)
                          refine goes_ Tryd.func62 (by kernel_rfl) rfl #[.int .i64 t534] (by rfl) rfl rfl (by (try simp only [List.map_toArray, List.map_cons, List.map_nil]); first | done | rfl | (simp only [List.length_drop, List.length_take]; rfl)) ?_
                          with_reducible refine (barqueref01_Bytes.calls k1 t534 t538 _ A13.out).mono ?_
                          rintro e w23 ⟨rfl, hb⟩
                          refine ⟨_, rfl, ?_⟩
                          have n0_ := Aside0.mk (below_step (by repeat (first | (with_reducible first | exact HB.out | apply below_alloc | apply pw_below_drewN | apply below_drew1) | exact HB.out)) hb)
                          clear HB
                          have HB := n0_
                          clear n0_
                          (try clear hb)
                          (try clear hb2)
                          (try clear hk)
                          (try clear hi)
                          refine hK.out _ _ ⟨((HB.out.cell (World.block_lt_of_cell? w _ hw539_0)).trans hw539_0), ((HB.out.cell (World.block_lt_of_cell? w _ hw539_1)).trans hw539_1), ((HB.out.cell (World.block_lt_of_cell? w _ hw539_2)).trans hw539_2), ((HB.out.cell (World.block_lt_of_cell? w _ hw539_3)).trans hw539_3), ((HB.out.cell (World.block_lt_of_cell? w _ hw541_0)).trans hw541_0), ((HB.out.cell (World.block_lt_of_cell? w _ hw541_1)).trans hw541_1), ((HB.out.cell (World.block_lt_of_cell? w _ hw541_2)).trans hw541_2), ((HB.out.cell (World.block_lt_of_cell? w _ hw541_3)).trans hw541_3), ((HB.out.cell (World.block_lt_of_cell? w _ hw543_0)).trans hw543_0), ((HB.out.cell (World.block_lt_of_cell? w _ hw543_1)).trans hw543_1), ((HB.out.cell (World.block_lt_of_cell? w _ hw543_2)).trans hw543_2), ((HB.out.cell (World.block_lt_of_cell? w _ hw543_3)).trans hw543_3)⟩ (fun hHeld => ?_)
                          clear hK K
                          refine norm_ (a' := ?_) ?_ ?_
                          rotate_left
                          · show Act.put _ (some 45) _ = _
                            simp only [Act.put, List.setIfInBounds_toArray, List.set_cons_zero, List.set_cons_succ, i64_w, i32_w]
                            rfl
                          refine pure_ (i := 3) (N := some 46) (v := ?_) (a' := ?_) #[true, true, true, true, true, false, true, true, true, true, true, false, false, true, true, true, true, true, false, false, true, true, true, true, true, false, false] rfl rfl (any_of HT_.out (by kernel_rfl)) (fun _ _ _ h => h) (Or.inl ⟨by rfl, ?_⟩) ?_ ?_
                          rotate_left
                          · intro w'
                            go_simp
                            with_reducible rfl
                          rotate_left
                          · simp only [Act.put, List.setIfInBounds_toArray, List.set_cons_zero, List.set_cons_succ, i64_w, i32_w]
                            rfl
                          refine pure_ (i := 5) (N := some 48) (v := ?_) (a' := ?_) #[true, true, true, true, true, true, true, true, true, true, true, false, false, true, true, true, true, true, false, false, true, true, true, true, true, false, false] rfl rfl (any_of HT_.out (by kernel_rfl)) (fun _ _ _ h => h) (Or.inl ⟨by rfl, ?_⟩) ?_ ?_
                          rotate_left
                          · intro w'
                            go_simp
                            with_reducible rfl
                          rotate_left
                          · simp only [Act.put, List.setIfInBounds_toArray, List.set_cons_zero, List.set_cons_succ, i64_w, i32_w]
                            rfl
                          refine one_ (i := 11) (N := some 54) #[true, true, true, true, true, true, true, true, true, true, true, true, false, true, true, true, true, true, false, false, true, true, true, true, true, false, false] rfl rfl (one_of HT_.out (by kernel_rfl)) (by decide) (fun K hK => ?_)
                          refine goes_ Tryd.func62 (by kernel_rfl) rfl #[.int .i64 ((rd_T56 l0 x7_1).f1)] (by rfl) rfl rfl (by (try simp only [List.map_toArray, List.map_cons, List.map_nil]); first | done | rfl | (simp only [List.length_drop, List.length_take]; rfl)) ?_
                          with_reducible refine (barqueref01_Bytes.calls k1 ((rd_T56 l0 x7_1).f1) t540 _ A16.out).mono ?_
                          rintro e w24 ⟨rfl, hb⟩
                          refine ⟨_, rfl, ?_⟩
                          have n0_ := Aside0.mk (below_step (by repeat (first | (with_reducible first | exact HB.out | apply below_alloc | apply pw_below_drewN | apply below_drew1) | exact HB.out)) hb)
                          clear HB
                          have HB := n0_
                          clear n0_
                          (try clear hb)
                          (try clear hb2)
                          (try clear hk)
                          (try clear hi)
                          refine hK.out _ _ ⟨((HB.out.cell (World.block_lt_of_cell? w _ hw539_0)).trans hw539_0), ((HB.out.cell (World.block_lt_of_cell? w _ hw539_1)).trans hw539_1), ((HB.out.cell (World.block_lt_of_cell? w _ hw539_2)).trans hw539_2), ((HB.out.cell (World.block_lt_of_cell? w _ hw539_3)).trans hw539_3), ((HB.out.cell (World.block_lt_of_cell? w _ hw541_0)).trans hw541_0), ((HB.out.cell (World.block_lt_of_cell? w _ hw541_1)).trans hw541_1), ((HB.out.cell (World.block_lt_of_cell? w _ hw541_2)).trans hw541_2), ((HB.out.cell (World.block_lt_of_cell? w _ hw541_3)).trans hw541_3), ((HB.out.cell (World.block_lt_of_cell? w _ hw543_0)).trans hw543_0), ((HB.out.cell (World.block_lt_of_cell? w _ hw543_1)).trans hw543_1), ((HB.out.cell (World.block_lt_of_cell? w _ hw543_2)).trans hw543_2), ((HB.out.cell (World.block_lt_of_cell? w _ hw543_3)).trans hw543_3)⟩ (fun hHeld => ?_)
                          clear hK K
                          refine norm_ (a' := ?_) ?_ ?_
                          rotate_left
                          · show Act.put _ (some 54) _ = _
                            simp only [Act.put, List.setIfInBounds_toArray, List.set_cons_zero, List.set_cons_succ, i64_w, i32_w]
                            rfl
                          refine pure_ (i := 12) (N := some 55) (v := ?_) (a' := ?_) #[true, true, true, true, true, true, true, true, true, true, true, true, true, true, true, true, true, true, false, false, true, true, true, true, true, false, false] rfl rfl (any_of HT_.out (by kernel_rfl)) (fun _ _ _ h => h) (Or.inl ⟨by rfl, ?_⟩) ?_ ?_
                          rotate_left
                          · intro w'
                            go_simp
                            with_reducible rfl
                          rotate_left
                          · simp only [Act.put, List.setIfInBounds_toArray, List.set_cons_zero, List.set_cons_succ, i64_w, i32_w]
                            rfl
                          refine one_ (i := 18) (N := some 61) #[true, true, true, true, true, true, true, true, true, true, true, true, true, true, true, true, true, true, true, false, true, true, true, true, true, false, false] rfl rfl (one_of HT_.out (by kernel_rfl)) (by decide) (fun K hK => ?_)
                          refine goes_ Tryd.func62 (by kernel_rfl) rfl #[.int .i64 ((rd_T56 l0 x7_1).f2)] (by rfl) rfl rfl (by (try simp only [List.map_toArray, List.map_cons, List.map_nil]); first | done | rfl | (simp only [List.length_drop, List.length_take]; rfl)) ?_
                          with_reducible refine (barqueref01_Bytes.calls k1 ((rd_T56 l0 x7_1).f2) t542 _ A18.out).mono ?_
                          rintro e w25 ⟨rfl, hb⟩
                          refine ⟨_, rfl, ?_⟩
                          have n0_ := Aside0.mk (below_step (by repeat (first | (with_reducible first | exact HB.out | apply below_alloc | apply pw_below_drewN | apply below_drew1) | exact HB.out)) hb)
                          clear HB
                          have HB := n0_
                          clear n0_
                          (try clear hb)
                          (try clear hb2)
                          (try clear hk)
                          (try clear hi)
                          refine hK.out _ _ ⟨((HB.out.cell (World.block_lt_of_cell? w _ hw539_0)).trans hw539_0), ((HB.out.cell (World.block_lt_of_cell? w _ hw539_1)).trans hw539_1), ((HB.out.cell (World.block_lt_of_cell? w _ hw539_2)).trans hw539_2), ((HB.out.cell (World.block_lt_of_cell? w _ hw539_3)).trans hw539_3), ((HB.out.cell (World.block_lt_of_cell? w _ hw541_0)).trans hw541_0), ((HB.out.cell (World.block_lt_of_cell? w _ hw541_1)).trans hw541_1), ((HB.out.cell (World.block_lt_of_cell? w _ hw541_2)).trans hw541_2), ((HB.out.cell (World.block_lt_of_cell? w _ hw541_3)).trans hw541_3), ((HB.out.cell (World.block_lt_of_cell? w _ hw543_0)).trans hw543_0), ((HB.out.cell (World.block_lt_of_cell? w _ hw543_1)).trans hw543_1), ((HB.out.cell (World.block_lt_of_cell? w _ hw543_2)).trans hw543_2), ((HB.out.cell (World.block_lt_of_cell? w _ hw543_3)).trans hw543_3)⟩ (fun hHeld => ?_)
                          clear hK K
                          refine norm_ (a' := ?_) ?_ ?_
                          rotate_left
                          · show Act.put _ (some 61) _ = _
                            simp only [Act.put, List.setIfInBounds_toArray, List.set_cons_zero, List.set_cons_succ, i64_w, i32_w]
                            rfl
                          refine pure_ (i := 19) (N := some 62) (v := ?_) (a' := ?_) #[true, true, true, true, true, true, true, true, true, true, true, true, true, true, true, true, true, true, true, true, true, true, true, true, true, false, false] rfl rfl (any_of HT_.out (by kernel_rfl)) (fun _ _ _ h => h) (Or.inl ⟨by rfl, ?_⟩) ?_ ?_
                          rotate_left
                          · intro w'
                            go_simp
                            with_reducible rfl
                          rotate_left
                          · simp only [Act.put, List.setIfInBounds_toArray, List.set_cons_zero, List.set_cons_succ, i64_w, i32_w]
                            rfl
                          refine pure_ (i := 25) (N := some 68) (v := ?_) (a' := ?_) #[true, true, true, true, true, true, true, true, true, true, true, true, true, true, true, true, true, true, true, true, true, true, true, true, true, true, false] rfl rfl (any_of HT_.out (by kernel_rfl)) (fun _ _ _ h => h) (Or.inl ⟨by rfl, ?_⟩) ?_ ?_
                          rotate_left
                          · intro w'
                            go_simp
                            with_reducible rfl
                          rotate_left
                          · simp only [Act.put, List.setIfInBounds_toArray, List.set_cons_zero, List.set_cons_succ, i64_w, i32_w]
                            rfl
                          refine pure_ (i := 26) (N := some 5) (v := ?_) (a' := ?_) #[true, true, true, true, true, true, true, true, true, true, true, true, true, true, true, true, true, true, true, true, true, true, true, true, true, true, true] rfl rfl (any_of HT_.out (by kernel_rfl)) (fun _ _ _ h => h) (Or.inl ⟨by rfl, ?_⟩) ?_ ?_
                          rotate_left
                          · intro w'
                            go_simp
                            with_reducible rfl
                          rotate_left
                          · simp only [Act.put, List.setIfInBounds_toArray, List.set_cons_zero, List.set_cons_succ, i64_w, i32_w]
                            rfl
                          refine done_ (done_of HT_.out (by kernel_rfl)) ?_
                          have p544 : 0 ≤ (x7_1 : Int) := of_decide_eq_true (by first | (with_reducible assumption) | assumption)
                          have q544 : x7_1 < (l0.length : Int) := of_decide_eq_true (by first | (with_reducible assumption) | assumption)
                          obtain ⟨ad544, e544, hx544_0, hx544_1, hx544_2, hx544_3⟩ := at_T56 HR0.out x7_1 p544 q544
                          obtain rfl : ad533 = ad544 := (by injection e544)
                          replace hx544_0 := (HB.out.cell (World.block_lt_of_cell? w _ hx544_0)).trans hx544_0
                          replace hx544_1 := (HB.out.cell (World.block_lt_of_cell? w _ hx544_1)).trans hx544_1
                          replace hx544_2 := (HB.out.cell (World.block_lt_of_cell? w _ hx544_2)).trans hx544_2
                          replace hx544_3 := (HB.out.cell (World.block_lt_of_cell? w _ hx544_3)).trans hx544_3
                          replace p544 := eq_true p544
                          replace q544 := eq_true q544
                          try go_wp2
                          go_roundg k1
                          case measure => have := HK1.out; omega
                          case rel => exact ⟨(((((x5_1 ++ t538) ++ t536) ++ t540) ++ t542) ++ ((rd_T56 l0 x7_1).f3)), ((rd_T56 l0 x7_1).f0), (wrap64 (x7_1 + 1)), (by first | rfl | (simp; done) | (simp [*]; done)), (by first | rfl | (simp; done) | (simp [*]; done)), (by first | rfl | (simp; done) | (simp [*]; done)), H', ⟨by have := HK1.out; omega⟩, ⟨by repeat (first | (with_reducible first | exact HB.out | apply below_alloc | apply pw_below_drewN | apply below_drew1) | exact HB.out)⟩⟩
                        · rw [if_neg c20] at H
                          exact absurd H (by simp)
                      · rw [if_neg c19] at H
                        exact absurd H (by simp)
                    · rw [if_neg c17] at H
                      exact absurd H (by simp)
                  · rw [if_neg c15] at H
                    exact absurd H (by simp)
                · rw [if_neg c14] at H
                  exact absurd H (by simp)
              · rw [if_neg c11] at H
                exact absurd H (by simp)
            · rw [if_neg c10] at H
              exact absurd H (by simp)
          · rw [if_neg c8] at H
            exact absurd H (by simp)
        · rw [if_neg c7] at H
          have c7b0 : decide (x7_1 < (l0.length : Int)) = false := decide_eq_false c7
          clear c7
          simp only [Option.some.injEq, Prod.mk.injEq] at H
          obtain ⟨rfl, rfl⟩ := H
          go_wp2
          go_ret2
          exact ⟨by first | rfl | (simp [errW_none, errW_some] <;> rfl) | (simp [*, errW_none, errW_some] <;> rfl), by repeat (first | (with_reducible first | exact HB.out | apply below_alloc | apply pw_below_drewN | apply below_drew1) | exact HB.out)⟩
  · rw [if_neg c3] at H
    have c3b0 : (t531 == 0) = false := beq_eq_false_iff_ne.mpr c3
    have c3b1 : (t531 != 0) = true := bne_iff_ne.mpr c3
    simp only [Option.some.injEq, Prod.mk.injEq] at H
    obtain ⟨rfl, rfl⟩ := H
    go_enter Tryd.func33, Tryd.ntmps33
    go_wp2_with (first | ((with_reducible refine gate_callee (f := 35) rfl ?_); refine goesL_ (some 12) rfl rfl Tryd.func35 (by kernel_rfl) rfl #[.slice A0 l0.length c0] rfl (by (try simp only [List.map_toArray, List.map_cons, List.map_nil]); first | done | rfl | (simp only [List.length_drop, List.length_take]; rfl)) ?_; (with_reducible refine (barqueref09_Right.calls k _ _ l0 t531 _ ?side1 ?side2 A2.out).mono ?_); (case side1 => repeat (first | exact HR0.out | (with_reducible refine Kd.C_alloc ?_ _) | (with_reducible refine Kd.C_drewN ?_ _) | (with_reducible refine Kd.C_drew ?_))); (case side2 => exact HC0.out); rintro e w26 ⟨rfl, hb⟩; refine ⟨_, rfl, ?_⟩; have n0_ := Aside0.mk (below_step (by repeat (first | (with_reducible first | exact HB.out | apply below_alloc | apply pw_below_drewN | apply below_drew1) | exact HB.out)) hb); clear HB; have HB := n0_; clear n0_; (try clear hb); (try clear hb2); (try clear hk); (try clear hi)))
    go_ret2
    exact ⟨by first | rfl | (simp [errW_none, errW_some] <;> rfl) | (simp [*, errW_none, errW_some] <;> rfl), by repeat (first | (with_reducible first | exact HB.out | apply below_alloc | apply pw_below_drewN | apply below_drew1) | exact HB.out)⟩
end Go.Proofs.YtafjlibcdlihcaaDoor.G
end
section
namespace Go.Proofs.YtafjlibcdlihcaaDoor.G
open Go.RowKit Go.Proofs.YtafjlibcdlihcaaDoorW.PrintWords Go.Proofs.YtafjlibcdlihcaaDoorW.PrintLast Go.Proofs.YtafjlibcdlihcaaDoorW.PrintMore
set_option linter.unusedVariables false
set_option linter.unusedSimpArgs false
theorem ba_of_ (b : ByteArray) (l : List UInt8) (h : b.data.toList = l) : b = ⟨l.toArray⟩ := by
  subst h
  cases b
  rfl
end Go.Proofs.YtafjlibcdlihcaaDoor.G
end
section
namespace Go.Proofs.YtafjlibcdlihcaaDoor.G
open Go.RowKit Go.Proofs.YtafjlibcdlihcaaDoorW.PrintWords Go.Proofs.YtafjlibcdlihcaaDoorW.PrintLast Go.Proofs.YtafjlibcdlihcaaDoorW.PrintMore
set_option linter.unusedVariables false
set_option linter.unusedSimpArgs false
theorem comL_take : ∀ a b : List UInt8, a.take (comL a b) = b.take (comL a b)
  | [], b => by simp [comL]
  | a :: x, [] => by simp [comL]
  | a :: x, b :: y => by
    unfold comL
    by_cases h : a = b
    · rw [if_pos h, List.take_succ_cons, List.take_succ_cons, comL_take x y, h]
    · rw [if_neg h]
      rfl
theorem textS_bwd (s : ByteArray) (a : Nat) (e most : Int) (ha : a ≤ s.size) (h : (textS s a e most).2.2 = 0) : Std s a (numB ((textS s a e most).1.size : Int) ++ (textS s a e most).1.data.toList) (textS s a e most).2.1 := by
  unfold textS at h ⊢
  have hc := countS_at s a e most ha
  have h0 := rawS_e s _ _ _ h
  have h1 := countS_bwd s a e most ha h0
  obtain ⟨h2, h3⟩ := rawS_bwd s _ _ _ hc.2 h
  rw [← h3] at h1
  exact h1.trans h2
theorem itemR_fwd (s : ByteArray) (a a2 : Nat) (last : ByteArray) (x : S56) (h1 : x.f0.size ≤ 200) (h2 : 0 ≤ x.f1) (h3 : x.f1 ≤ 511) (h4 : 0 ≤ x.f2) (h5 : x.f2 ≤ 65536) (h6 : x.f3.size = 32) (h : Std s a (itemL last x) a2) :
    (itemR s a).c.1 = ((comN last x : Nat) : Int) ∧ (itemR s a).t.1 = x.f0.extract (comN last x) x.f0.size ∧ (itemR s a).m.1 = x.f1 ∧ (itemR s a).z.1 = x.f2 ∧ (itemR s a).k = (x.f3, a2, 0) := by
  have hc := comN_le last x
  obtain ⟨rest, hr⟩ : ∃ rest, (x.f0.extract (comN last x) x.f0.size).data.toList = rest := ⟨_, rfl⟩
  have hrl : rest.length = x.f0.size - comN last x := by rw [← hr, sz_, ByteArray.size_extract]; omega
  have hri : (x.f0.size : Int) - ((comN last x : Nat) : Int) = (rest.length : Int) := by omega
  unfold itemL at h
  rw [hr, hri] at h
  obtain ⟨g5, gF⟩ := h.split
  obtain ⟨g4, gE⟩ := g5.split
  obtain ⟨g3, gD⟩ := g4.split
  obtain ⟨g2, gC⟩ := g3.split
  obtain ⟨gA, gB⟩ := g2.split
  have e1 := countS_fwd s a _ ((comN last x : Nat) : Int) 200 (Int.natCast_nonneg _) (by omega) (by omega) gA
  have e2 := textS_fwd s _ _ rest 200 (by omega) (by decide) (gB.trans gC)
  have e3 := numS_fwd s _ _ x.f1 h2 (by omega) gD
  have e4 := numS_fwd s _ _ x.f2 h4 (by omega) gE
  have e5 := rawS_fwd s _ _ x.f3.data.toList gF
  have e6 : x.f3.data.toList.length = 32 := by rw [sz_]; exact h6
  rw [e6] at e5
  have e7 : (⟨x.f3.data.toList.toArray⟩ : ByteArray) = x.f3 := (ba_of_ x.f3 _ rfl).symm
  rw [e7] at e5
  have hrest : (⟨rest.toArray⟩ : ByteArray) = x.f0.extract (comN last x) x.f0.size := (ba_of_ _ _ hr).symm
  rw [hrest] at e2
  unfold itemR
  rw [e1]
  simp only
  have e200 : ((200 : Nat) : Int) = 200 := rfl
  rw [e200] at e2
  rw [e2]
  simp only
  rw [e3]
  simp only
  rw [e4]
  simp only
  refine ⟨trivial, trivial, trivial, trivial, ?_⟩
  exact e5
end Go.Proofs.YtafjlibcdlihcaaDoor.G
end
section
namespace Go.Proofs.YtafjlibcdlihcaaDoor.G
open Go.RowKit Go.Proofs.YtafjlibcdlihcaaDoorW.PrintWords Go.Proofs.YtafjlibcdlihcaaDoorW.PrintLast Go.Proofs.YtafjlibcdlihcaaDoorW.PrintMore
set_option linter.unusedVariables false
set_option linter.unusedSimpArgs false
theorem pathR_fwd (last : ByteArray) (x : S56) (r : ItemR) (h1 : r.c.1 = ((comN last x : Nat) : Int)) (h2 : r.t.1 = x.f0.extract (comN last x) x.f0.size) : pathR last r = x.f0 := by
  apply ba_ext
  unfold pathR
  rw [app_list_, h1, h2, extract_list_, extract_list_, Int.toNat_natCast]
  have e1 : x.f0.data.toList.take x.f0.size = x.f0.data.toList := List.take_of_length_le (by rw [sz_]; exact Nat.le_refl _)
  have e2 : last.data.toList.take (comN last x) = x.f0.data.toList.take (comN last x) := comL_take _ _
  rw [e1, List.drop_zero, e2, List.take_append_drop]
def okI (x : S56) : Prop := x.f0.size ≤ 200 ∧ 0 ≤ x.f1 ∧ x.f1 ≤ 511 ∧ 0 ≤ x.f2 ∧ x.f2 ≤ 65536 ∧ x.f3.size = 32
theorem right_okI (l : List S56) (h : rightE l = 0) : l.length ≤ 256 ∧ ∀ x ∈ l, okI x := by
  obtain ⟨h1, h2⟩ := rightE_ok l h
  obtain ⟨s1, s2, s3⟩ := pathsE_sorted _ h1
  rw [List.length_map] at s3
  refine ⟨s3, fun x hx => ?_⟩
  obtain ⟨m1, m2, m3, m4, m5⟩ := modesI_ok l h2 x hx
  exact ⟨pathE_size _ (s2 _ (List.mem_map.2 ⟨x, hx, rfl⟩)), m1, m2, m3, m4, m5⟩
theorem ofGo_fwd (s : ByteArray) : ∀ (l : List S56) (out : List S56) (last : ByteArray) (a : Nat), Std s a (itemsL last l) s.size → (∀ x ∈ l, okI x) → rightE (out ++ l) = 0 → ofGo s l.length out last a = (out ++ l, 0)
  | [], out, last, a, h, _, hr => by
    obtain ⟨_, h2, _⟩ := h
    rw [List.append_nil] at hr ⊢
    unfold itemsL at h2
    rw [List.length_nil, Nat.add_zero] at h2
    show ofGo s 0 out last a = _
    unfold ofGo
    have e : endS s a 0 = 0 := by unfold endS; rw [if_pos rfl, if_neg (by omega)]
    rw [if_pos e, if_pos hr]
  | x :: l, out, last, a, h, ho, hr => by
    unfold itemsL at h
    obtain ⟨h1, h2⟩ := h.split
    obtain ⟨o1, o2, o3, o4, o5, o6⟩ := ho x List.mem_cons_self
    obtain ⟨g1, g2, g3, g4, g5⟩ := itemR_fwd s a _ last x o1 o2 o3 o4 o5 o6 h1
    have hp := pathR_fwd last x (itemR s a) g1 g2
    have hcl : comN last x ≤ last.size := by
      have := (comL_le last.data.toList x.f0.data.toList).1
      rw [sz_] at this
      exact this
    rw [List.length_cons]
    unfold ofGo
    rw [hp, g1, g3, g4, g5]
    have ec : ((comL last.data.toList x.f0.data.toList : Nat) : Int) = ((comN last x : Nat) : Int) := rfl
    rw [if_pos rfl, if_neg (by omega), if_pos ec]
    have ih := ofGo_fwd s l (out ++ [x]) x.f0 _ h2 (fun y hy => ho y (List.mem_cons_of_mem _ hy)) (by rw [List.append_assoc, List.singleton_append]; exact hr)
    rw [List.append_assoc, List.singleton_append] at ih
    exact ih
theorem of_bytes (l : List S56) (h : rightE l = 0) : ofE (bytesE l).1 = (l, 0) := by
  obtain ⟨h1, h2⟩ := right_okI l h
  unfold bytesE
  rw [if_pos h]
  show ofE ⟨(numB (l.length : Int) ++ itemsL ⟨#[]⟩ l).toArray⟩ = (l, 0)
  obtain ⟨s, hs⟩ : ∃ s : ByteArray, (⟨(numB (l.length : Int) ++ itemsL ⟨#[]⟩ l).toArray⟩ : ByteArray) = s := ⟨_, rfl⟩
  rw [hs]
  have hl : s.data.toList = numB (l.length : Int) ++ itemsL ⟨#[]⟩ l := by rw [← hs]
  have hz : s.size = (numB (l.length : Int) ++ itemsL ⟨#[]⟩ l).length := by rw [← sz_, hl]
  have hall : Std s 0 (numB (l.length : Int) ++ itemsL ⟨#[]⟩ l) s.size := by
    refine ⟨?_, by omega, Nat.le_refl _⟩
    rw [List.drop_zero, List.drop_eq_nil_of_le (by rw [sz_]; exact Nat.le_refl _), List.append_nil]
    exact hl
  obtain ⟨k1, k2⟩ := hall.split
  have e1 := countS_fwd s 0 _ (l.length : Int) 256 (Int.natCast_nonneg _) (by omega) (by omega) k1
  unfold ofE
  rw [e1, if_pos rfl]
  simp only [Int.toNat_natCast]
  exact ofGo_fwd s l [] ⟨#[]⟩ _ k2 h2 (by rw [List.nil_append]; exact h)
theorem itemR_bwd (s : ByteArray) (a : Nat) (last : ByteArray) (ha : a ≤ s.size) (h : (itemR s a).k.2.2 = 0) (hc : ¬ (last.size : Int) < (itemR s a).c.1) (hcom : ((comL last.data.toList (pathR last (itemR s a)).data.toList : Nat) : Int) = (itemR s a).c.1) :
    Std s a (itemL last ⟨pathR last (itemR s a), (itemR s a).m.1, (itemR s a).z.1, (itemR s a).k.1⟩) (itemR s a).k.2.1 := by
  obtain ⟨o1, o2, o3, o4, o5, o6, o7⟩ := itemR_ok s a h
  obtain ⟨a1, a2, a3, a4, a5⟩ := itemR_at s a ha
  obtain ⟨e1, e2, e3, e4, e5⟩ := itemR_eqs s a
  have b1 := countS_bwd s a 0 200 ha (by rw [← e1]; exact o1)
  rw [← e1] at b1
  have b2 := textS_bwd s (itemR s a).c.2.1 (itemR s a).c.2.2 200 a1 (by rw [← e2]; exact o2)
  rw [← e2] at b2
  have b3 := (numS_bwd s (itemR s a).t.2.1 (itemR s a).t.2.2 a2 (by rw [← e3]; exact o3)).1
  rw [← e3] at b3
  have b4 := (numS_bwd s (itemR s a).m.2.1 (itemR s a).m.2.2 a3 (by rw [← e4]; exact o4)).1
  rw [← e4] at b4
  have b5 := (rawS_bwd s (itemR s a).z.2.1 (itemR s a).z.2.2 32 a4 (by rw [← e5]; exact h)).1
  rw [← e5] at b5
  obtain ⟨r, hr⟩ : ∃ r, itemR s a = r := ⟨_, rfl⟩
  rw [hr] at b1 b2 b3 b4 b5 hc hcom o5 o6 ⊢
  have hn : ((r.c.1.toNat : Nat) : Int) = r.c.1 := by omega
  have hcm : comN last ⟨pathR last r, r.m.1, r.z.1, r.k.1⟩ = r.c.1.toNat := by
    unfold comN
    show comL last.data.toList (pathR last r).data.toList = r.c.1.toNat
    omega
  have hle : (last.extract 0 r.c.1.toNat).size = r.c.1.toNat := by rw [ByteArray.size_extract]; omega
  have hps : (pathR last r).size = r.c.1.toNat + r.t.1.size := by unfold pathR; rw [ByteArray.size_append, hle]
  have hrest : ((pathR last r).extract r.c.1.toNat (pathR last r).size).data.toList = r.t.1.data.toList := by
    have e0 : (pathR last r).data.toList.take (pathR last r).size = (pathR last r).data.toList := List.take_of_length_le (by rw [sz_]; exact Nat.le_refl _)
    rw [extract_list_, e0]
    unfold pathR
    rw [app_list_]
    have hl2 : (last.extract 0 r.c.1.toNat).data.toList.length = r.c.1.toNat := by rw [sz_]; exact hle
    obtain ⟨q, hq⟩ : ∃ q, (last.extract 0 r.c.1.toNat).data.toList = q := ⟨_, rfl⟩
    rw [hq] at hl2 ⊢
    rw [← hl2, List.drop_left]
  unfold itemL
  rw [hcm]
  show Std s a (numB ((r.c.1.toNat : Nat) : Int) ++ numB (((pathR last r).size : Int) - ((r.c.1.toNat : Nat) : Int)) ++ ((pathR last r).extract r.c.1.toNat (pathR last r).size).data.toList ++ numB r.m.1 ++ numB r.z.1 ++ r.k.1.data.toList) r.k.2.1
  rw [hrest, hn]
  have hsub : ((pathR last r).size : Int) - r.c.1 = (r.t.1.size : Int) := by omega
  rw [hsub]
  have := (((b1.trans b2).trans b3).trans b4).trans b5
  simp only [List.append_assoc] at this ⊢
  exact this
theorem ofGo_bwd (s : ByteArray) : ∀ (d : Nat) (out : List S56) (last : ByteArray) (a : Nat), a ≤ s.size → (ofGo s d out last a).2 = 0 → ∃ l : List S56, (ofGo s d out last a).1 = out ++ l ∧ l.length = d ∧ Std s a (itemsL last l) s.size ∧ rightE (out ++ l) = 0
  | 0, out, last, a, ha, h => by
    unfold ofGo at h ⊢
    by_cases c : endS s a 0 = 0
    · rw [if_pos c] at h ⊢
      by_cases c2 : rightE out = 0
      · rw [if_pos c2]
        have e : a = s.size := by
          unfold endS at c
          rw [if_pos rfl] at c
          by_cases q : a < s.size
          · rw [if_pos q] at c
            exact absurd c (by decide)
          · omega
        refine ⟨[], by rw [List.append_nil], rfl, ?_, by rw [List.append_nil]; exact c2⟩
        unfold itemsL
        rw [e]
        exact Std.nil s _ (Nat.le_refl _)
      · rw [if_neg c2] at h
        exact absurd h c2
    · rw [if_neg c] at h
      exact absurd h c
  | d + 1, out, last, a, ha, h => by
    unfold ofGo at h ⊢
    by_cases c : (itemR s a).k.2.2 = 0
    · rw [if_pos c] at h ⊢
      by_cases c1 : (last.size : Int) < (itemR s a).c.1
      · rw [if_pos c1] at h
        exact absurd h (by show ¬ (5 : Int) = 0; decide)
      · rw [if_neg c1] at h ⊢
        by_cases c2 : ((comL last.data.toList (pathR last (itemR s a)).data.toList : Nat) : Int) = (itemR s a).c.1
        · rw [if_pos c2] at h ⊢
          have hb := itemR_bwd s a last ha c c1 c2
          have hat := (itemR_at s a ha).2.2.2.2
          obtain ⟨l, l1, l2, l3, l4⟩ := ofGo_bwd s d _ _ _ hat h
          refine ⟨⟨pathR last (itemR s a), (itemR s a).m.1, (itemR s a).z.1, (itemR s a).k.1⟩ :: l, ?_, by rw [List.length_cons, l2], ?_, ?_⟩
          · rw [l1, List.append_assoc, List.singleton_append]
          · unfold itemsL
            exact hb.trans l3
          · rw [List.append_assoc, List.singleton_append] at l4
            exact l4
        · rw [if_neg c2] at h
          exact absurd h (by show ¬ (5 : Int) = 0; decide)
    · rw [if_neg c] at h
      exact absurd h c
theorem bytes_of (s : ByteArray) (h : (ofE s).2 = 0) : bytesE (ofE s).1 = (s, 0) := by
  unfold ofE at h ⊢
  by_cases c : (countS s 0 0 256).2.2 = 0
  · rw [if_pos c] at h ⊢
    have hc := countS_e s 0 0 256 c
    have hr := countS_range s 0 0 256
    have b1 := countS_bwd s 0 0 256 (Nat.zero_le _) c
    have ha := (countS_at s 0 0 256 (Nat.zero_le _)).2
    obtain ⟨l, l1, l2, l3, l4⟩ := ofGo_bwd s _ _ _ _ ha h
    rw [List.nil_append] at l1 l4
    rw [l1]
    unfold bytesE
    rw [if_pos l4]
    have hn : (l.length : Int) = (countS s 0 0 256).1 := by rw [l2]; omega
    rw [← hn] at b1
    obtain ⟨t1, t2, t3⟩ := b1.trans l3
    rw [List.drop_zero, List.drop_eq_nil_of_le (by rw [sz_]; exact Nat.le_refl _), List.append_nil] at t1
    rw [← t1]
  · rw [if_neg c] at h
    exact absurd h c
end Go.Proofs.YtafjlibcdlihcaaDoor.G
end
section
namespace Go.Proofs.YtafjlibcdlihcaaDoor.G
open Go.RowKit Go.Proofs.YtafjlibcdlihcaaDoorW.PrintWords Go.Proofs.YtafjlibcdlihcaaDoorW.PrintLast Go.Proofs.YtafjlibcdlihcaaDoorW.PrintMore
attribute [local go_sem] max2_int min2_int max_two min_two max_three min_three max_four min_four   -- for this text's walks alone
set_option linter.unusedVariables false
set_option linter.unusedSimpArgs false
theorem eqA56 (d : Nat) (w : World) (x0 y0 : ByteArray) (x1 y1 : Int) (x2 y2 : Int) (x3 y3 : ByteArray) :
    (Op.equalIn (d + 2) 56 (.agg #[.string x0, .int .i64 x1, .int .i64 x2, .string x3]) (.agg #[.string y0, .int .i64 y1, .int .i64 y2, .string y3])).run Tryd.prog w = .ok (x0.toList == y0.toList && (x1 == y1 && (x2 == y2 && (x3.toList == y3.toList)))) w := by
  refine eqA_of Tryd.underlying56 (by kernel_rfl) ?_
  refine eqf_cons (by rfl) (by go_simp; rfl) (by go_simp; rfl) (by go_simp) ?_
  refine eqf_cons (by rfl) (by go_simp; rfl) (by go_simp; rfl) (by go_simp) ?_
  refine eqf_cons (by rfl) (by go_simp; rfl) (by go_simp; rfl) (by go_simp) ?_
  exact eqf_last (by rfl) (by go_simp; rfl) (by go_simp; rfl) (by go_simp)
end Go.Proofs.YtafjlibcdlihcaaDoor.G
end
section
namespace Go.Proofs.YtafjlibcdlihcaaDoor.G
open Go.RowKit Go.Proofs.YtafjlibcdlihcaaDoorW.PrintWords Go.Proofs.YtafjlibcdlihcaaDoorW.PrintLast Go.Proofs.YtafjlibcdlihcaaDoorW.PrintMore
attribute [local go_sem] max2_int min2_int max_two min_two max_three min_three max_four min_four   -- for this text's walks alone
set_option linter.unusedVariables false
set_option linter.unusedSimpArgs false
attribute [local go_sem high] eqA56
def barqueref09_Items.l0 : Nat → List (S56) → List (S56) → Int → Option (Bool)
  | 0, _, _, _ => none
  | k + 1, x0, x1, x5 => if x5 < (x0.length : Int) then (if 0 ≤ x5 then (if x5 < (x1.length : Int) then (if (!((((rd_T56 x0 x5).f0).toList) == (((rd_T56 x1 x5).f0).toList)) || (!(((rd_T56 x0 x5).f1) == ((rd_T56 x1 x5).f1)) || (!(((rd_T56 x0 x5).f2) == ((rd_T56 x1 x5).f2)) || (!((((rd_T56 x0 x5).f3).toList) == (((rd_T56 x1 x5).f3).toList)))))) = true then (some false) else (barqueref09_Items.l0 k x0 x1 (wrap64 (x5 + 1)))) else (none)) else (none)) else (some true)
def barqueref09_Items.f (k : Nat) (l0 : List (S56)) (l1 : List (S56)) : Option (Bool) := if (l0.length : Int) = (l1.length : Int) then (barqueref09_Items.l0 k l0 l1 0) else (some false)
theorem barqueref09_Items.mono_l : ∀ k, (∀ y0 y1 y2, LeO (barqueref09_Items.l0 k y0 y1 y2) (barqueref09_Items.l0 (k + 1) y0 y1 y2))
  | 0 => fun _ _ _ r h => by simp [barqueref09_Items.l0] at h
  | k + 1 => by
    have ih0 := barqueref09_Items.mono_l k
    · intro y0 y1 y2
      unfold barqueref09_Items.l0
      repeat' first
      | (with_reducible exact ih0 _ _ _)
      | (with_reducible exact LeO.refl _)
      | (with_reducible exact LeO.none _)
      | (with_reducible refine LeO.ite ?_ ?_)
      | (with_reducible refine LeO.bind ?_ (fun _ => ?_))
      | exact ih0 _ _ _
      | exact LeO.none _
      | refine LeO.ite ?_ ?_
      | refine LeO.bind ?_ (fun _ => ?_)
theorem barqueref09_Items.mono : ∀ a0 a1 k, LeO (barqueref09_Items.f k a0 a1) (barqueref09_Items.f (k + 1) a0 a1) := by
  intro a0 a1 k
  have ih0 := barqueref09_Items.mono_l k
  unfold barqueref09_Items.f
  repeat' first
      | (with_reducible exact ih0 _ _ _)
      | (with_reducible exact LeO.refl _)
      | (with_reducible exact LeO.none _)
      | (with_reducible refine LeO.ite ?_ ?_)
      | (with_reducible refine LeO.bind ?_ (fun _ => ?_))
      | exact ih0 _ _ _
      | exact LeO.none _
      | refine LeO.ite ?_ ?_
      | refine LeO.bind ?_ (fun _ => ?_)
set_option maxHeartbeats 8000000 in
set_option maxRecDepth 100000 in
theorem barqueref09_Items.calls (k : Nat) (A0 : Option Addr) (c0 : Nat) (l0 : List (S56)) (A1 : Option Addr) (c1 : Nat) (l1 : List (S56)) (r : Bool) (w : World) (hr0 : Kd.C k56 w A0 l0.length l0) (hc0 : l0.length ≤ c0) (hr1 : Kd.C k56 w A1 l1.length l1) (hc1 : l1.length ≤ c1) (h : barqueref09_Items.f k l0 l1 = some r) :
    Calls Tryd.prog 41 #[.slice A0 l0.length c0, .slice A1 l1.length c1] w fun e w' => e = .returned (.bool r) ∧ Drawn0 w w' := by
  have hu56 := Tryd.underlying56
  have HR0 := Aside0.mk hr0
  have HC0 := Aside0.mk hc0
  clear hr0 hc0
  have HR1 := Aside0.mk hr1
  have HC1 := Aside0.mk hc1
  clear hr1 hc1
  have H : (if (l0.length : Int) = (l1.length : Int) then (barqueref09_Items.l0 k l0 l1 0) else (some false)) = some r := h
  clear h
  by_cases c3 : (l0.length : Int) = (l1.length : Int)
  · rw [if_pos c3] at H
    have c3b0 : ((l0.length : Int) == (l1.length : Int)) = true := beq_iff_eq.mpr c3
    have c3b1 : ((l0.length : Int) != (l1.length : Int)) = false := bne_eq_false_iff_eq.mpr c3
    have c3b2 : (l0.length == l1.length) = true := by first | simpa using c3 | (simp at c3 ⊢; omega)
    clear c3
    have H' := Aside0.mk H
    clear H
    go_enter Tryd.func41, Tryd.ntmps41
    go_wp2
    repeat (go_quiet (fail); try go_wp2)
    go_loopg [5] k (fun kq v5 w' => ∃ (x5_1 : Int), v5 = .int .i64 x5_1 ∧ Aside0 (barqueref09_Items.l0 kq l0 l1 x5_1 = some r) ∧ Aside0 (kq ≤ k) ∧ Drawn0 w w')
    case atStart => exact ⟨(0), (by first | rfl | (simp; done) | (simp [*]; done)), H', ⟨Nat.le_refl _⟩, by repeat (first | exact Drawn0.refl _ | apply Drawn0.step)⟩
    case round =>
      clear H'
      try clear c1
      try clear p2
      try clear c3
      try clear c3b0
      try clear c3b1
      try clear c3b2
      obtain ⟨x5_1, rfl, HA, HK1, ⟨m1, rfl⟩⟩ := hrel
      cases gk with
      | zero => exact absurd HA.out (by simp [barqueref09_Items.l0])
      | succ k1 =>
        have H := HA.out
        clear HA
        simp only [barqueref09_Items.l0] at H
        by_cases c4 : x5_1 < (l0.length : Int)
        · rw [if_pos c4] at H
          have c4b0 : decide (x5_1 < (l0.length : Int)) = true := decide_eq_true c4
          clear c4
          by_cases c5 : 0 ≤ x5_1
          · rw [if_pos c5] at H
            have c5b0 : decide (0 ≤ x5_1) = true := decide_eq_true c5
            clear c5
            by_cases c6 : x5_1 < (l1.length : Int)
            · rw [if_pos c6] at H
              have c6b0 : decide (x5_1 < (l1.length : Int)) = true := decide_eq_true c6
              clear c6
              by_cases c7 : (!((((rd_T56 l0 x5_1).f0).toList) == (((rd_T56 l1 x5_1).f0).toList)) || (!(((rd_T56 l0 x5_1).f1) == ((rd_T56 l1 x5_1).f1)) || (!(((rd_T56 l0 x5_1).f2) == ((rd_T56 l1 x5_1).f2)) || (!((((rd_T56 l0 x5_1).f3).toList) == (((rd_T56 l1 x5_1).f3).toList)))))) = true
              · rw [if_pos c7] at H
                have c7b0 : (!((((rd_T56 l0 x5_1).f0).toList) == (((rd_T56 l1 x5_1).f0).toList)) || (!(((rd_T56 l0 x5_1).f1) == ((rd_T56 l1 x5_1).f1)) || (!(((rd_T56 l0 x5_1).f2) == ((rd_T56 l1 x5_1).f2)) || (!((((rd_T56 l0 x5_1).f3).toList) == (((rd_T56 l1 x5_1).f3).toList)))))) = true := c7
                clear c7
                obtain rfl := Option.some.inj H
                have p747 : 0 ≤ (x5_1 : Int) := of_decide_eq_true (by first | (with_reducible assumption) | assumption)
                have q747 : x5_1 < (l0.length : Int) := of_decide_eq_true (by first | (with_reducible assumption) | assumption)
                obtain ⟨ad747, e747, hx747_0, hx747_1, hx747_2, hx747_3⟩ := at_T56 HR0.out x5_1 p747 q747
                cases e747
                replace p747 := eq_true p747
                replace q747 := eq_true q747
                have p748 : 0 ≤ (x5_1 : Int) := of_decide_eq_true (by first | (with_reducible assumption) | assumption)
                have q748 : x5_1 < (l1.length : Int) := of_decide_eq_true (by first | (with_reducible assumption) | assumption)
                obtain ⟨ad748, e748, hx748_0, hx748_1, hx748_2, hx748_3⟩ := at_T56 HR1.out x5_1 p748 q748
                cases e748
                replace p748 := eq_true p748
                replace q748 := eq_true q748
                go_wp2
                repeat (go_quiet (fail); try go_wp2)
                go_ret
                exact ⟨by first | rfl | (simp; done) | (simp [*]; done), by repeat (first | exact Drawn0.refl _ | apply Drawn0.step)⟩
              · rw [if_neg c7] at H
                have c7b0 : (!((((rd_T56 l0 x5_1).f0).toList) == (((rd_T56 l1 x5_1).f0).toList)) || (!(((rd_T56 l0 x5_1).f1) == ((rd_T56 l1 x5_1).f1)) || (!(((rd_T56 l0 x5_1).f2) == ((rd_T56 l1 x5_1).f2)) || (!((((rd_T56 l0 x5_1).f3).toList) == (((rd_T56 l1 x5_1).f3).toList)))))) = false := by simpa using c7
                clear c7
                have H' := Aside0.mk H
                clear H
                have p747 : 0 ≤ (x5_1 : Int) := of_decide_eq_true (by first | (with_reducible assumption) | assumption)
                have q747 : x5_1 < (l0.length : Int) := of_decide_eq_true (by first | (with_reducible assumption) | assumption)
                obtain ⟨ad747, e747, hx747_0, hx747_1, hx747_2, hx747_3⟩ := at_T56 HR0.out x5_1 p747 q747
                cases e747
                replace p747 := eq_true p747
                replace q747 := eq_true q747
                have p748 : 0 ≤ (x5_1 : Int) := of_decide_eq_true (by first | (with_reducible assumption) | assumption)
                have q748 : x5_1 < (l1.length : Int) := of_decide_eq_true (by first | (with_reducible assumption) | assumption)
                obtain ⟨ad748, e748, hx748_0, hx748_1, hx748_2, hx748_3⟩ := at_T56 HR1.out x5_1 p748 q748
                cases e748
                replace p748 := eq_true p748
                replace q748 := eq_true q748
                go_wp2
                repeat (go_quiet (fail); try go_wp2)
                go_roundg k1
                case measure => have := HK1.out; omega
                case rel => exact ⟨(wrap64 (x5_1 + 1)), (by first | rfl | (simp; done) | (simp [*]; done)), H', ⟨by have := HK1.out; omega⟩, by repeat (first | exact Drawn0.refl _ | apply Drawn0.step)⟩
            · rw [if_neg c6] at H
              exact absurd H (by simp)
          · rw [if_neg c5] at H
            exact absurd H (by simp)
        · rw [if_neg c4] at H
          have c4b0 : decide (x5_1 < (l0.length : Int)) = false := decide_eq_false c4
          clear c4
          obtain rfl := Option.some.inj H
          go_wp2
          repeat (go_quiet (fail); try go_wp2)
          go_ret
          exact ⟨by first | rfl | (simp; done) | (simp [*]; done), by repeat (first | exact Drawn0.refl _ | apply Drawn0.step)⟩
  · rw [if_neg c3] at H
    have c3b0 : ((l0.length : Int) == (l1.length : Int)) = false := beq_eq_false_iff_ne.mpr c3
    have c3b1 : ((l0.length : Int) != (l1.length : Int)) = true := bne_iff_ne.mpr c3
    have c3b2 : (l0.length == l1.length) = false := by first | simpa using c3 | (simp at c3 ⊢; omega)
    obtain rfl := Option.some.inj H
    go_enter Tryd.func41, Tryd.ntmps41
    go_wp2
    repeat (go_quiet (fail); try go_wp2)
    go_ret
    exact ⟨by first | rfl | (simp; done) | (simp [*]; done), by repeat (first | exact Drawn0.refl _ | apply Drawn0.step)⟩
end Go.Proofs.YtafjlibcdlihcaaDoor.G
end
section
namespace Go.Proofs.YtafjlibcdlihcaaDoor.G
open Go.RowKit Go.Proofs.YtafjlibcdlihcaaDoorW.PrintWords Go.Proofs.YtafjlibcdlihcaaDoorW.PrintLast Go.Proofs.YtafjlibcdlihcaaDoorW.PrintMore
set_option linter.unusedVariables false
set_option linter.unusedSimpArgs false
theorem items_l0 (l : List S56) (hl : l.length ≤ 4294967296) : ∀ (d i : Nat), l.length - i = d → i ≤ l.length → Ev (fun k => barqueref09_Items.l0 k l l i) true := by
  intro d
  induction d with
  | zero =>
    intro i hd hi
    have e : i = l.length := by omega
    subst e
    apply Ev.step
    · intro k; rw [barqueref09_Items.l0]
    have c1 : ¬ ((l.length : Int) < (l.length : Int)) := by omega
    simp only [c1, ↓reduceIte]
    exact Ev.now _
  | succ d ih =>
    intro i hd hi
    have hlt : i < l.length := by omega
    apply Ev.step
    · intro k; rw [barqueref09_Items.l0]
    have c1 : ((i : Int) < (l.length : Int)) := by omega
    have c2 : (0 : Int) ≤ (i : Int) := by omega
    have hw : wrap64 ((i : Int) + 1) = ((i + 1 : Nat) : Int) := by rw [w64_ (by omega) (by omega)]; omega
    simp only [c1, c2, ↓reduceIte, hw, beq_self_eq_true, Bool.not_true, Bool.or_self, Bool.false_eq_true]
    exact ih (i + 1) (by omega) (by omega)
theorem items_ev (l : List S56) (hl : l.length ≤ 4294967296) : Ev (fun k => barqueref09_Items.f k l l) true := by
  unfold barqueref09_Items.f
  simp only [↓reduceIte]
  exact items_l0 l hl l.length 0 (by omega) (by omega)
theorem ofGo_length (s : ByteArray) : ∀ (d : Nat) (out : List S56) (last : ByteArray) (at_ : Nat), (ofGo s d out last at_).1.length ≤ out.length + d
  | 0, out, last, at_ => by
    unfold ofGo
    split
    · split
      · exact Nat.le_refl _
      · exact Nat.zero_le _
    · exact Nat.zero_le _
  | d + 1, out, last, at_ => by
    unfold ofGo
    split
    · split
      · exact Nat.zero_le _
      · split
        · have := ofGo_length s d (out ++ [⟨pathR last (itemR s at_), (itemR s at_).m.1, (itemR s at_).z.1, (itemR s at_).k.1⟩]) (pathR last (itemR s at_)) (itemR s at_).k.2.1
          rw [List.length_append, List.length_singleton] at this
          omega
        · exact Nat.zero_le _
    · exact Nat.zero_le _
theorem ofE_length (s : ByteArray) : (ofE s).1.length ≤ 256 := by
  unfold ofE
  split
  · rename_i q
    have h1 := countS_e s 0 0 256 q
    have h2 := ofGo_length s (countS s 0 0 256).1.toNat [] ⟨#[]⟩ (countS s 0 0 256).2.1
    rw [List.length_nil] at h2
    omega
  · exact Nat.zero_le _
end Go.Proofs.YtafjlibcdlihcaaDoor.G
end
section
namespace Go.Proofs.YtafjlibcdlihcaaDoor.G
open Go.RowKit Go.Proofs.YtafjlibcdlihcaaDoorW.PrintWords Go.Proofs.YtafjlibcdlihcaaDoorW.PrintLast Go.Proofs.YtafjlibcdlihcaaDoorW.PrintMore
attribute [local go_sem] max2_int min2_int max_two min_two max_three min_three max_four min_four   -- for this text's walks alone
set_option linter.unusedVariables false
set_option linter.unusedSimpArgs false
mutual
def tree_Check.l0 : Nat → List (S58) → List ByteArray → List (S58) → Int → Int → Option (Int)
  | 0, _, _, _, _, _ => none
  | k + 1, x0, x3, x9, x10, x11 => if x11 < x10 then (if 0 ≤ x11 then (if x11 < (x9.length : Int) then (if x3.length < 8796093022208 then (tree_Check.l0 k x0 (x3 ++ [(rd_T58 x9 x11).f0]) x9 x10 (wrap64 (x11 + 1))) else (none)) else (none)) else (none)) else ((tree_paths.f k x3).bind fun t128 => (if t128 = 0 then (tree_Check.l1 k x0 (x0.length : Int) 0) else (some t128)))
def tree_Check.l1 : Nat → List (S58) → Int → Int → Option (Int)
  | 0, _, _, _ => none
  | k + 1, x26, x27, x28 => if x28 < x27 then (if 0 ≤ x28 then (if x28 < (x26.length : Int) then ((tree_mode.f ((rd_T58 x26 x28).f1)).bind fun t131 => (if t131 = true then (if (((rd_T58 x26 x28).f2).size : Int) > 65536 then (some 4) else (tree_Check.l1 k x26 x27 (wrap64 (x28 + 1)))) else (some 11))) else (none)) else (none)) else (some 0)
end
def tree_Check.f (k : Nat) (l0 : List (S58)) : Option (Int) := tree_Check.l0 k l0 ([] : List ByteArray) l0 (l0.length : Int) 0
theorem tree_Check.mono_l : ∀ k, (∀ y0 y1 y2 y3 y4, LeO (tree_Check.l0 k y0 y1 y2 y3 y4) (tree_Check.l0 (k + 1) y0 y1 y2 y3 y4)) ∧ (∀ y0 y1 y2, LeO (tree_Check.l1 k y0 y1 y2) (tree_Check.l1 (k + 1) y0 y1 y2))
  | 0 => ⟨fun _ _ _ _ _ r h => by simp [tree_Check.l0] at h, fun _ _ _ r h => by simp [tree_Check.l1] at h⟩
  | k + 1 => by
    obtain ⟨ih0, ih1⟩ := tree_Check.mono_l k
    refine ⟨?_, ?_⟩
    · intro y0 y1 y2 y3 y4
      unfold tree_Check.l0
      repeat' first
      | (with_reducible exact ih0 _ _ _ _ _)
      | (with_reducible exact ih1 _ _ _)
      | (with_reducible exact tree_paths.mono _ _)
      | (with_reducible exact LeO.refl _)
      | (with_reducible exact LeO.none _)
      | (with_reducible refine LeO.ite ?_ ?_)
      | (with_reducible refine LeO.bind ?_ (fun _ => ?_))
      | exact ih0 _ _ _ _ _
      | exact ih1 _ _ _
      | exact tree_paths.mono _ _
      | exact LeO.none _
      | refine LeO.ite ?_ ?_
      | refine LeO.bind ?_ (fun _ => ?_)
    · intro y0 y1 y2
      unfold tree_Check.l1
      repeat' first
      | (with_reducible exact ih0 _ _ _ _ _)
      | (with_reducible exact ih1 _ _ _)
      | (with_reducible exact tree_paths.mono _ _)
      | (with_reducible exact LeO.refl _)
      | (with_reducible exact LeO.none _)
      | (with_reducible refine LeO.ite ?_ ?_)
      | (with_reducible refine LeO.bind ?_ (fun _ => ?_))
      | exact ih0 _ _ _ _ _
      | exact ih1 _ _ _
      | exact tree_paths.mono _ _
      | exact LeO.none _
      | refine LeO.ite ?_ ?_
      | refine LeO.bind ?_ (fun _ => ?_)
theorem tree_Check.mono : ∀ a0 k, LeO (tree_Check.f k a0) (tree_Check.f (k + 1) a0) := by
  intro a0 k
  obtain ⟨ih0, ih1⟩ := tree_Check.mono_l k
  unfold tree_Check.f
  repeat' first
      | (with_reducible exact ih0 _ _ _ _ _)
      | (with_reducible exact ih1 _ _ _)
      | (with_reducible exact tree_paths.mono _ _)
      | (with_reducible exact LeO.refl _)
      | (with_reducible exact LeO.none _)
      | (with_reducible refine LeO.ite ?_ ?_)
      | (with_reducible refine LeO.bind ?_ (fun _ => ?_))
      | exact ih0 _ _ _ _ _
      | exact ih1 _ _ _
      | exact tree_paths.mono _ _
      | exact LeO.none _
      | refine LeO.ite ?_ ?_
      | refine LeO.bind ?_ (fun _ => ?_)
set_option maxHeartbeats 8000000 in
set_option maxRecDepth 100000 in
theorem tree_Check.calls (k : Nat) (A0 : Option Addr) (c0 : Nat) (l0 : List (S58)) (r : Int) (w : World) (hr0 : Kd.C k58 w A0 l0.length l0) (hc0 : l0.length ≤ c0) (h : tree_Check.f k l0 = some r) :
    Calls Tryd.prog 19 #[.slice A0 l0.length c0] w fun e w' => e = .returned (.int .i64 r) ∧ Below w.heap.size w w' := by
  have hu58 := Tryd.underlying58
  have HR0 := Aside0.mk hr0
  have HC0 := Aside0.mk hc0
  clear hr0 hc0
  have HB := Aside0.mk (Below.refl w.heap.size w)
  have H : (tree_Check.l0 k l0 ([] : List ByteArray) l0 (l0.length : Int) 0) = some r := h
  clear h
  have H' := Aside0.mk H
  clear H
  go_enter Tryd.func19, Tryd.ntmps19
  go_wp2
  go_loopg [3, 11] k (fun kq v3 v11 w' => ∃ (x3_1 : List ByteArray) (x11_1 : Int), v11 = .int .i64 x11_1 ∧ Aside0 (tree_Check.l0 kq l0 x3_1 l0 (l0.length : Int) x11_1 = some r) ∧ Aside0 (kq ≤ k) ∧ Aside0 (Kd.R Kd.string 9 w' w.heap.size (fun _ => True) v3 x3_1) ∧ Aside0 (Below w.heap.size w w'))
  case atStart => exact ⟨(([] : List ByteArray)), (0), (by first | rfl | (simp; done) | (simp [*]; done)), H', ⟨Nat.le_refl _⟩, ⟨by first | exact Kd.R_nil _ _ _ _ _ | exact Kd.N_nil _ _ _ _ _ | exact Kd.V_nil _ _ _ _ _ | exact Kd.Q_nil _ _ _ _ _ | exact Kd.S_nil _ _ _ _ _⟩, ⟨by repeat (first | (with_reducible first | exact HB.out | apply below_alloc | apply pw_below_drewN | apply below_drew1) | exact HB.out)⟩⟩
  case round =>
    clear H'
    try clear c1
    obtain ⟨x3_1, x11_1, rfl, HA, HK1, HO_3, HB⟩ := hrel
    cases gk with
    | zero => exact absurd HA.out (by simp [tree_Check.l0])
    | succ k1 =>
      have H := HA.out
      clear HA
      simp only [tree_Check.l0] at H
      by_cases c2 : x11_1 < (l0.length : Int)
      · rw [if_pos c2] at H
        have c2b0 : decide (x11_1 < (l0.length : Int)) = true := decide_eq_true c2
        clear c2
        by_cases c3 : 0 ≤ x11_1
        · rw [if_pos c3] at H
          have c3b0 : decide (0 ≤ x11_1) = true := decide_eq_true c3
          clear c3
          by_cases c4 : x11_1 < (l0.length : Int)
          · rw [if_pos c4] at H
            have c4b0 : decide (x11_1 < (l0.length : Int)) = true := decide_eq_true c4
            clear c4
            by_cases c5 : x3_1.length < 8796093022208
            · rw [if_pos c5] at H
              have LMc5 := Aside0.mk c5
              clear c5
              obtain ⟨y125, hy125⟩ : ∃ y_ : List ByteArray, y_ = (x3_1 ++ [(rd_T58 l0 x11_1).f0]) := ⟨_, rfl⟩
              replace H : (tree_Check.l0 k1 l0 y125 l0 (l0.length : Int) (wrap64 (x11_1 + 1))) = some r := by first | (rw [hy125]; with_reducible exact H) | (have H2_ := (Option.bind_some _ _).symm.trans H; rw [hy125]; with_reducible exact H2_) | (have H2_ := (Option.bind_some _ _).symm.trans H; with_reducible exact H2_) | with_reducible exact H | (rw [hy125]; exact H) | exact H
              have Ny125 := Aside0.mk hy125
              clear hy125
              have H' := Aside0.mk H
              clear H
              have p123 : 0 ≤ (x11_1 : Int) := of_decide_eq_true (by first | (with_reducible assumption) | assumption)
              have q123 : x11_1 < (l0.length : Int) := of_decide_eq_true (by first | (with_reducible assumption) | assumption)
              obtain ⟨ad123, e123, hx123_0, hx123_1, hx123_2⟩ := at_T58 HR0.out x11_1 p123 q123
              cases e123
              replace hx123_0 := (HB.out.cell (World.block_lt_of_cell? w _ hx123_0)).trans hx123_0
              replace hx123_1 := (HB.out.cell (World.block_lt_of_cell? w _ hx123_1)).trans hx123_1
              replace hx123_2 := (HB.out.cell (World.block_lt_of_cell? w _ hx123_2)).trans hx123_2
              replace p123 := eq_true p123
              replace q123 := eq_true q123
              go_wp2_with (first | ((with_reducible refine gate_dst (N := 5) rfl ?_); refine box_event ?hg (N := 5) ?hd (cs := #[.string (⟨#[]⟩ : ByteArray), .int .i64 0, .string (⟨#[]⟩ : ByteArray)]) (t := 58) ?hr ?_; (case hd => rfl); (case hg => rfl); (case hr => first | (go_simp; done) | (go_simp; rfl)); intro gb124 hg w6 hbox hb; have n0_ := Aside0.mk (Kd.R_below (by (with_reducible repeat (first | apply Kd.R_alloc | apply Kd.R_drewN | apply Kd.R_drew)); exact HO_3.out) hb); have n1_ := Aside0.mk (below_step (by repeat (first | (with_reducible first | exact HB.out | apply below_alloc | apply pw_below_drewN | apply below_drew1) | exact HB.out)) hb); have n2_ := Aside0.mk (hbox); have n3_ := Aside0.mk ((by rw [hg]; exact (below_size (by repeat (first | (with_reducible first | exact HB.out | apply below_alloc | apply pw_below_drewN | apply below_drew1) | exact HB.out))) : w.heap.size ≤ gb124)); have n4_ := Aside0.mk ((by rw [hg]; exact (below_size (by repeat (first | (with_reducible first | exact HB.out | apply below_alloc | apply pw_below_drewN | apply below_drew1) | exact HB.out))) : w.heap.size ≤ gb124)); clear HO_3; clear HB; have HO_3 := n0_; have HB := n1_; have BK124 := n2_; have GW124 := n3_; have GE124 := n4_; clear n0_ n1_ n2_ n3_ n4_; clear hb hbox hg; have hcz7_0 : w6.cell? ⟨gb124, 0, none⟩ = some (.string (⟨#[]⟩ : ByteArray)) := (blk_cell BK124.out 0).trans rfl; have hcz7_1 : w6.cell? ⟨gb124, 1, none⟩ = some (.int .i64 0) := (blk_cell BK124.out 1).trans rfl; have hcz7_2 : w6.cell? ⟨gb124, 2, none⟩ = some (.string (⟨#[]⟩ : ByteArray)) := (blk_cell BK124.out 2).trans rfl; have hfz7_0 := blk_frozen BK124.out 0; have hfz7_1 := blk_frozen BK124.out 1; have hfz7_2 := blk_frozen BK124.out 2) | ((with_reducible refine gate_builtin (b := .append) (xs := #[.tmp 15, .tmp 18]) rfl ?_); at_builtin; refine Kd.R_append Kd.string (w0 := w) w.heap.size rfl (.tmp 15) (.tmp 18) 33 9 (.string ⟨#[]⟩) 16 rfl Tryd.underlying33 info9 rfl (by decide) (by omega) u3 x3_1 ((rd_T58 l0 x11_1).f0) [.string ((rd_T58 l0 x11_1).f0)] (fun _ => True) (fun _ => False) rfl (by first | (go_simp; done) | (go_simp; rfl)) ?aP (fun _ hk => hk.elim) ?aF ?aO ?aB ?aS ?aL ?_; (case aP => exact rfl); (case aB => exact (by repeat (first | (with_reducible first | exact HB.out | apply below_alloc | apply pw_below_drewN | apply below_drew1 | refine below_set ?_ GE124.out) | exact HB.out))); (case aF => exact (fun _ _ => trivial)); (case aO => exact (by (with_reducible repeat (first | apply Kd.R_alloc | apply Kd.R_drewN | apply Kd.R_drew)); exact Kd.R_mono (Kd.R_far (p := ⟨gb124, 2, none⟩) (Kd.R_far (p := ⟨gb124, 1, none⟩) (Kd.R_far (p := ⟨gb124, 0, none⟩) (Kd.R_types HO_3.out BK124.out (by decide)) (fun _ hk => hk.2) (.string ((rd_T58 l0 x11_1).f0))) (fun _ hk => hk.2) (.int .i64 ((rd_T58 l0 x11_1).f1))) (fun _ hk => hk.2) (.string ((rd_T58 l0 x11_1).f2))) (fun _ hk => trivial))); (case aS => exact (below_size (by repeat (first | (with_reducible first | exact HB.out | apply below_alloc | apply pw_below_drewN | apply below_drew1 | refine below_set ?_ GE124.out) | exact HB.out)))); (case aL => have := LMc5.out; omega); intro v126 w8 ho hb hg hat; rw [← Ny125.out] at ho; have n0_ := Aside0.mk (blk_grown (g := gb124) (o := .cells #[.string ((rd_T58 l0 x11_1).f0), .int .i64 ((rd_T58 l0 x11_1).f1), .string ((rd_T58 l0 x11_1).f2)] 58 (0, 0)) (by (with_reducible repeat (first | refine blk_drewN ?_ _ | refine blk_drew ?_ | refine blk_alloc ?_ _)); refine blk_put (cs := #[.string ((rd_T58 l0 x11_1).f0), .int .i64 ((rd_T58 l0 x11_1).f1), .string (⟨#[]⟩ : ByteArray)]) ?_ 2 _ rfl; (with_reducible repeat (first | refine blk_drewN ?_ _ | refine blk_drew ?_ | refine blk_alloc ?_ _)); refine blk_put (cs := #[.string ((rd_T58 l0 x11_1).f0), .int .i64 0, .string (⟨#[]⟩ : ByteArray)]) ?_ 1 _ rfl; (with_reducible repeat (first | refine blk_drewN ?_ _ | refine blk_drew ?_ | refine blk_alloc ?_ _)); refine blk_put (cs := #[.string (⟨#[]⟩ : ByteArray), .int .i64 0, .string (⟨#[]⟩ : ByteArray)]) ?_ 0 _ rfl; (with_reducible repeat (first | refine blk_drewN ?_ _ | refine blk_drew ?_ | refine blk_alloc ?_ _)); exact BK124.out) hg (Kd.R_ne HO_3.out BK124.out (by decide))); have n1_ := Aside0.mk (hb); have n2_ := Aside0.mk (ho); clear BK124; clear HB; clear HO_3; have BK124 := n0_; have HB := n1_; have HO127 := n2_; clear n0_ n1_ n2_; clear ho hb hg hat))
              go_roundg k1
              case measure => have := HK1.out; omega
              case rel => exact ⟨(y125), (wrap64 (x11_1 + 1)), (by first | rfl | (simp; done) | (simp [*]; done)), H', ⟨by have := HK1.out; omega⟩, ⟨by (with_reducible repeat (first | apply Kd.R_alloc | apply Kd.R_drewN | apply Kd.R_drew)); exact HO127.out⟩, ⟨by repeat (first | (with_reducible first | exact HB.out | apply below_alloc | apply pw_below_drewN | apply below_drew1 | refine below_set ?_ GE124.out) | exact HB.out)⟩⟩
            · rw [if_neg c5] at H
              exact absurd H (by simp)
          · rw [if_neg c4] at H
            exact absurd H (by simp)
        · rw [if_neg c3] at H
          exact absurd H (by simp)
      · rw [if_neg c2] at H
        have c2b0 : decide (x11_1 < (l0.length : Int)) = false := decide_eq_false c2
        clear c2
        replace H := Option.bind_eq_some_iff.mp H
        obtain ⟨t128, A90, H⟩ := H
        replace H : (if t128 = 0 then (tree_Check.l1 k1 l0 (l0.length : Int) 0) else (some t128)) = some r := H
        have A9 := Aside0.mk A90
        clear A90
        by_cases c10 : t128 = 0
        · rw [if_pos c10] at H
          have c10b0 : (t128 == 0) = true := beq_iff_eq.mpr c10
          have c10b1 : (t128 != 0) = false := bne_eq_false_iff_eq.mpr c10
          clear c10
          have H' := Aside0.mk H
          clear H
          obtain ⟨Ao11, co11, eo11⟩ := Kd.R_slice HO_3.out
          subst eo11
          go_wp2_with (first | ((with_reducible refine gate_callee (f := 48) rfl ?_); refine goesL_ (some 22) rfl rfl Tryd.func48 (by kernel_rfl) rfl #[.slice Ao11 x3_1.length co11] rfl (by (try simp only [List.map_toArray, List.map_cons, List.map_nil]); first | done | rfl | (simp only [List.length_drop, List.length_take]; rfl)) ?_; (with_reducible refine (tree_paths.calls k1 _ _ x3_1 t128 _ ?side1 ?side2 A9.out).mono ?_); (case side1 => repeat (first | exact (Kd.R_reads' HO_3.out).2.2 | (with_reducible refine Kd.C_alloc ?_ _) | (with_reducible refine Kd.C_drewN ?_ _) | (with_reducible refine Kd.C_drew ?_))); (case side2 => exact (Kd.R_reads' HO_3.out).2.1); rintro e w12 ⟨rfl, hb⟩; refine ⟨_, rfl, ?_⟩; have n0_ := Aside0.mk (Kd.R_below (by (with_reducible repeat (first | apply Kd.R_alloc | apply Kd.R_drewN | apply Kd.R_drew)); exact HO_3.out) hb); have n1_ := Aside0.mk (below_step (by repeat (first | (with_reducible first | exact HB.out | apply below_alloc | apply pw_below_drewN | apply below_drew1) | exact HB.out)) hb); clear HO_3; clear HB; have HO_3 := n0_; have HB := n1_; clear n0_ n1_; (try clear hb); (try clear hb2); (try clear hk); (try clear hi)))
          go_loopg [28] k1 (fun kq v28 w' => ∃ (x28_2 : Int), v28 = .int .i64 x28_2 ∧ Aside0 (tree_Check.l1 kq l0 (l0.length : Int) x28_2 = some r) ∧ Aside0 (kq ≤ k1) ∧ Aside0 (Below w.heap.size w w'))
          case atStart => exact ⟨(0), (by first | rfl | (simp; done) | (simp [*]; done)), H', ⟨Nat.le_refl _⟩, ⟨by repeat (first | (with_reducible first | exact HB.out | apply below_alloc | apply pw_below_drewN | apply below_drew1) | exact HB.out)⟩⟩
          case round =>
            clear H'
            try clear c1
            try clear p1
            try clear q1
            try clear hx1
            try clear c2
            try clear c2b0
            try clear p2
            try clear c3
            try clear c3b0
            try clear c4
            try clear c4b0
            try clear c5
            try clear p6
            try clear c10
            try clear c10b0
            try clear c10b1
            try clear p12
            try clear q12
            try clear hx12
            try clear hcz7_0
            try clear hcz7_1
            try clear hcz7_2
            try clear hfz7_0
            try clear hfz7_1
            try clear hfz7_2
            try clear hx123_0
            try clear hx123_1
            try clear hx123_2
            try clear p123
            try clear q123
            obtain ⟨x28_2, rfl, HA, HK2, HB⟩ := hrel
            cases gk with
            | zero => exact absurd HA.out (by simp [tree_Check.l1])
            | succ k2 =>
              have H := HA.out
              clear HA
              simp only [tree_Check.l1] at H
              by_cases c13 : x28_2 < (l0.length : Int)
              · rw [if_pos c13] at H
                have c13b0 : decide (x28_2 < (l0.length : Int)) = true := decide_eq_true c13
                clear c13
                by_cases c14 : 0 ≤ x28_2
                · rw [if_pos c14] at H
                  have c14b0 : decide (0 ≤ x28_2) = true := decide_eq_true c14
                  clear c14
                  by_cases c15 : x28_2 < (l0.length : Int)
                  · rw [if_pos c15] at H
                    have c15b0 : decide (x28_2 < (l0.length : Int)) = true := decide_eq_true c15
                    clear c15
                    replace H := Option.bind_eq_some_iff.mp H
                    obtain ⟨t131, A160, H⟩ := H
                    replace H : (if t131 = true then (if (((rd_T58 l0 x28_2).f2).size : Int) > 65536 then (some 4) else (tree_Check.l1 k2 l0 (l0.length : Int) (wrap64 (x28_2 + 1)))) else (some 11)) = some r := H
                    have A16 := Aside0.mk A160
                    clear A160
                    by_cases c17 : t131 = true
                    · subst c17
                      have H1 : (if (((rd_T58 l0 x28_2).f2).size : Int) > 65536 then (some 4) else (tree_Check.l1 k2 l0 (l0.length : Int) (wrap64 (x28_2 + 1)))) = some r := by rw [if_pos rfl] at H; exact H
                      clear H
                      have H := H1
                      clear H1
                      by_cases c18 : (((rd_T58 l0 x28_2).f2).size : Int) > 65536
                      · rw [if_pos c18] at H
                        have c18b0 : decide (65536 < (((rd_T58 l0 x28_2).f2).size : Int)) = true := decide_eq_true c18
                        have c18b1 : decide (65536 < ((rd_T58 l0 x28_2).f2).size) = true := decide_eq_true (by omega)
                        clear c18
                        obtain rfl := Option.some.inj H
                        have p129 : 0 ≤ (x28_2 : Int) := of_decide_eq_true (by first | (with_reducible assumption) | assumption)
                        have q129 : x28_2 < (l0.length : Int) := of_decide_eq_true (by first | (with_reducible assumption) | assumption)
                        obtain ⟨ad129, e129, hx129_0, hx129_1, hx129_2⟩ := at_T58 HR0.out x28_2 p129 q129
                        cases e129
                        replace hx129_0 := (HB.out.cell (World.block_lt_of_cell? w _ hx129_0)).trans hx129_0
                        replace hx129_1 := (HB.out.cell (World.block_lt_of_cell? w _ hx129_1)).trans hx129_1
                        replace hx129_2 := (HB.out.cell (World.block_lt_of_cell? w _ hx129_2)).trans hx129_2
                        replace p129 := eq_true p129
                        replace q129 := eq_true q129
                        go_wp2_with (first | ((with_reducible refine gate_dst (N := 8) rfl ?_); refine box_event ?hg (N := 8) ?hd (cs := #[.string (⟨#[]⟩ : ByteArray), .int .i64 0, .string (⟨#[]⟩ : ByteArray)]) (t := 58) ?hr ?_; (case hd => rfl); (case hg => rfl); (case hr => first | (go_simp; done) | (go_simp; rfl)); intro gb130 hg w19 hbox hb; have n0_ := Aside0.mk (below_step (by repeat (first | (with_reducible first | exact HB.out | apply below_alloc | apply pw_below_drewN | apply below_drew1) | exact HB.out)) hb); have n1_ := Aside0.mk (hbox); have n2_ := Aside0.mk ((by rw [hg]; exact (below_size (by repeat (first | (with_reducible first | exact HB.out | apply below_alloc | apply pw_below_drewN | apply below_drew1) | exact HB.out))) : w.heap.size ≤ gb130)); have n3_ := Aside0.mk ((by rw [hg]; exact (below_size (by repeat (first | (with_reducible first | exact HB.out | apply below_alloc | apply pw_below_drewN | apply below_drew1) | exact HB.out))) : w.heap.size ≤ gb130)); clear HB; have HB := n0_; have BK130 := n1_; have GW130 := n2_; have GE130 := n3_; clear n0_ n1_ n2_ n3_; clear hb hbox hg; have hcz20_0 : w19.cell? ⟨gb130, 0, none⟩ = some (.string (⟨#[]⟩ : ByteArray)) := (blk_cell BK130.out 0).trans rfl; have hcz20_1 : w19.cell? ⟨gb130, 1, none⟩ = some (.int .i64 0) := (blk_cell BK130.out 1).trans rfl; have hcz20_2 : w19.cell? ⟨gb130, 2, none⟩ = some (.string (⟨#[]⟩ : ByteArray)) := (blk_cell BK130.out 2).trans rfl; have hfz20_0 := blk_frozen BK130.out 0; have hfz20_1 := blk_frozen BK130.out 1; have hfz20_2 := blk_frozen BK130.out 2) | ((with_reducible refine gate_callee (f := 49) rfl ?_); refine goesL_ (some 35) rfl rfl Tryd.func49 (by kernel_rfl) rfl #[.int .i64 ((rd_T58 l0 x28_2).f1)] rfl (by (try simp only [List.map_toArray, List.map_cons, List.map_nil]); first | done | rfl | (simp only [List.length_drop, List.length_take]; rfl)) ?_; (with_reducible refine (tree_mode.calls ((rd_T58 l0 x28_2).f1) true _ A16.out).mono ?_); rintro e w' ⟨rfl, ⟨nd, rfl⟩⟩; refine ⟨_, rfl, ?_⟩))
                        go_ret
                        exact ⟨by first | rfl | (simp [errW_none, errW_some] <;> rfl) | (simp [*, errW_none, errW_some] <;> rfl), by repeat (first | (with_reducible first | exact HB.out | apply below_alloc | apply pw_below_drewN | apply below_drew1 | refine below_set ?_ GE130.out) | exact HB.out)⟩
                      · rw [if_neg c18] at H
                        have c18b0 : decide (65536 < (((rd_T58 l0 x28_2).f2).size : Int)) = false := decide_eq_false c18
                        have c18b1 : decide (65536 < ((rd_T58 l0 x28_2).f2).size) = false := decide_eq_false (by omega)
                        clear c18
                        have H' := Aside0.mk H
                        clear H
                        have p129 : 0 ≤ (x28_2 : Int) := of_decide_eq_true (by first | (with_reducible assumption) | assumption)
                        have q129 : x28_2 < (l0.length : Int) := of_decide_eq_true (by first | (with_reducible assumption) | assumption)
                        obtain ⟨ad129, e129, hx129_0, hx129_1, hx129_2⟩ := at_T58 HR0.out x28_2 p129 q129
                        cases e129
                        replace hx129_0 := (HB.out.cell (World.block_lt_of_cell? w _ hx129_0)).trans hx129_0
                        replace hx129_1 := (HB.out.cell (World.block_lt_of_cell? w _ hx129_1)).trans hx129_1
                        replace hx129_2 := (HB.out.cell (World.block_lt_of_cell? w _ hx129_2)).trans hx129_2
                        replace p129 := eq_true p129
                        replace q129 := eq_true q129
                        go_wp2_with (first | ((with_reducible refine gate_dst (N := 8) rfl ?_); refine box_event ?hg (N := 8) ?hd (cs := #[.string (⟨#[]⟩ : ByteArray), .int .i64 0, .string (⟨#[]⟩ : ByteArray)]) (t := 58) ?hr ?_; (case hd => rfl); (case hg => rfl); (case hr => first | (go_simp; done) | (go_simp; rfl)); intro gb130 hg w21 hbox hb; have n0_ := Aside0.mk (below_step (by repeat (first | (with_reducible first | exact HB.out | apply below_alloc | apply pw_below_drewN | apply below_drew1) | exact HB.out)) hb); have n1_ := Aside0.mk (hbox); have n2_ := Aside0.mk ((by rw [hg]; exact (below_size (by repeat (first | (with_reducible first | exact HB.out | apply below_alloc | apply pw_below_drewN | apply below_drew1) | exact HB.out))) : w.heap.size ≤ gb130)); have n3_ := Aside0.mk ((by rw [hg]; exact (below_size (by repeat (first | (with_reducible first | exact HB.out | apply below_alloc | apply pw_below_drewN | apply below_drew1) | exact HB.out))) : w.heap.size ≤ gb130)); clear HB; have HB := n0_; have BK130 := n1_; have GW130 := n2_; have GE130 := n3_; clear n0_ n1_ n2_ n3_; clear hb hbox hg; have hcz22_0 : w21.cell? ⟨gb130, 0, none⟩ = some (.string (⟨#[]⟩ : ByteArray)) := (blk_cell BK130.out 0).trans rfl; have hcz22_1 : w21.cell? ⟨gb130, 1, none⟩ = some (.int .i64 0) := (blk_cell BK130.out 1).trans rfl; have hcz22_2 : w21.cell? ⟨gb130, 2, none⟩ = some (.string (⟨#[]⟩ : ByteArray)) := (blk_cell BK130.out 2).trans rfl; have hfz22_0 := blk_frozen BK130.out 0; have hfz22_1 := blk_frozen BK130.out 1; have hfz22_2 := blk_frozen BK130.out 2) | ((with_reducible refine gate_callee (f := 49) rfl ?_); refine goesL_ (some 35) rfl rfl Tryd.func49 (by kernel_rfl) rfl #[.int .i64 ((rd_T58 l0 x28_2).f1)] rfl (by (try simp only [List.map_toArray, List.map_cons, List.map_nil]); first | done | rfl | (simp only [List.length_drop, List.length_take]; rfl)) ?_; (with_reducible refine (tree_mode.calls ((rd_T58 l0 x28_2).f1) true _ A16.out).mono ?_); rintro e w' ⟨rfl, ⟨nd, rfl⟩⟩; refine ⟨_, rfl, ?_⟩))
                        go_roundg k2
                        case measure => have := HK1.out; have := HK2.out; omega
                        case rel => exact ⟨(wrap64 (x28_2 + 1)), (by first | rfl | (simp; done) | (simp [*]; done)), H', ⟨by have := HK1.out; have := HK2.out; omega⟩, ⟨by repeat (first | (with_reducible first | exact HB.out | apply below_alloc | apply pw_below_drewN | apply below_drew1 | refine below_set ?_ GE130.out) | exact HB.out)⟩⟩
                    · replace c17 := Bool.eq_false_iff.mpr c17
                      subst c17
                      have H1 : (some 11) = some r := by rw [if_neg (show ¬ (false = true) by decide)] at H; exact H
                      clear H
                      have H := H1
                      clear H1
                      obtain rfl := Option.some.inj H
                      have p129 : 0 ≤ (x28_2 : Int) := of_decide_eq_true (by first | (with_reducible assumption) | assumption)
                      have q129 : x28_2 < (l0.length : Int) := of_decide_eq_true (by first | (with_reducible assumption) | assumption)
                      obtain ⟨ad129, e129, hx129_0, hx129_1, hx129_2⟩ := at_T58 HR0.out x28_2 p129 q129
                      cases e129
                      replace hx129_0 := (HB.out.cell (World.block_lt_of_cell? w _ hx129_0)).trans hx129_0
                      replace hx129_1 := (HB.out.cell (World.block_lt_of_cell? w _ hx129_1)).trans hx129_1
                      replace hx129_2 := (HB.out.cell (World.block_lt_of_cell? w _ hx129_2)).trans hx129_2
                      replace p129 := eq_true p129
                      replace q129 := eq_true q129
                      go_wp2_with (first | ((with_reducible refine gate_dst (N := 8) rfl ?_); refine box_event ?hg (N := 8) ?hd (cs := #[.string (⟨#[]⟩ : ByteArray), .int .i64 0, .string (⟨#[]⟩ : ByteArray)]) (t := 58) ?hr ?_; (case hd => rfl); (case hg => rfl); (case hr => first | (go_simp; done) | (go_simp; rfl)); intro gb130 hg w23 hbox hb; have n0_ := Aside0.mk (below_step (by repeat (first | (with_reducible first | exact HB.out | apply below_alloc | apply pw_below_drewN | apply below_drew1) | exact HB.out)) hb); have n1_ := Aside0.mk (hbox); have n2_ := Aside0.mk ((by rw [hg]; exact (below_size (by repeat (first | (with_reducible first | exact HB.out | apply below_alloc | apply pw_below_drewN | apply below_drew1) | exact HB.out))) : w.heap.size ≤ gb130)); have n3_ := Aside0.mk ((by rw [hg]; exact (below_size (by repeat (first | (with_reducible first | exact HB.out | apply below_alloc | apply pw_below_drewN | apply below_drew1) | exact HB.out))) : w.heap.size ≤ gb130)); clear HB; have HB := n0_; have BK130 := n1_; have GW130 := n2_; have GE130 := n3_; clear n0_ n1_ n2_ n3_; clear hb hbox hg; have hcz24_0 : w23.cell? ⟨gb130, 0, none⟩ = some (.string (⟨#[]⟩ : ByteArray)) := (blk_cell BK130.out 0).trans rfl; have hcz24_1 : w23.cell? ⟨gb130, 1, none⟩ = some (.int .i64 0) := (blk_cell BK130.out 1).trans rfl; have hcz24_2 : w23.cell? ⟨gb130, 2, none⟩ = some (.string (⟨#[]⟩ : ByteArray)) := (blk_cell BK130.out 2).trans rfl; have hfz24_0 := blk_frozen BK130.out 0; have hfz24_1 := blk_frozen BK130.out 1; have hfz24_2 := blk_frozen BK130.out 2) | ((with_reducible refine gate_callee (f := 49) rfl ?_); refine goesL_ (some 35) rfl rfl Tryd.func49 (by kernel_rfl) rfl #[.int .i64 ((rd_T58 l0 x28_2).f1)] rfl (by (try simp only [List.map_toArray, List.map_cons, List.map_nil]); first | done | rfl | (simp only [List.length_drop, List.length_take]; rfl)) ?_; (with_reducible refine (tree_mode.calls ((rd_T58 l0 x28_2).f1) false _ A16.out).mono ?_); rintro e w' ⟨rfl, ⟨nd, rfl⟩⟩; refine ⟨_, rfl, ?_⟩))
                      go_ret
                      exact ⟨by first | rfl | (simp [errW_none, errW_some] <;> rfl) | (simp [*, errW_none, errW_some] <;> rfl), by repeat (first | (with_reducible first | exact HB.out | apply below_alloc | apply pw_below_drewN | apply below_drew1 | refine below_set ?_ GE130.out) | exact HB.out)⟩
                  · rw [if_neg c15] at H
                    exact absurd H (by simp)
                · rw [if_neg c14] at H
                  exact absurd H (by simp)
              · rw [if_neg c13] at H
                have c13b0 : decide (x28_2 < (l0.length : Int)) = false := decide_eq_false c13
                clear c13
                obtain rfl := Option.some.inj H
                go_wp2
                go_ret
                exact ⟨by first | rfl | (simp [errW_none, errW_some] <;> rfl) | (simp [*, errW_none, errW_some] <;> rfl), by repeat (first | (with_reducible first | exact HB.out | apply below_alloc | apply pw_below_drewN | apply below_drew1) | exact HB.out)⟩
        · rw [if_neg c10] at H
          have c10b0 : (t128 == 0) = false := beq_eq_false_iff_ne.mpr c10
          have c10b1 : (t128 != 0) = true := bne_iff_ne.mpr c10
          obtain rfl := Option.some.inj H
          obtain ⟨Ao25, co25, eo25⟩ := Kd.R_slice HO_3.out
          subst eo25
          go_wp2_with (first | ((with_reducible refine gate_callee (f := 48) rfl ?_); refine goesL_ (some 22) rfl rfl Tryd.func48 (by kernel_rfl) rfl #[.slice Ao25 x3_1.length co25] rfl (by (try simp only [List.map_toArray, List.map_cons, List.map_nil]); first | done | rfl | (simp only [List.length_drop, List.length_take]; rfl)) ?_; (with_reducible refine (tree_paths.calls k1 _ _ x3_1 t128 _ ?side1 ?side2 A9.out).mono ?_); (case side1 => repeat (first | exact (Kd.R_reads' HO_3.out).2.2 | (with_reducible refine Kd.C_alloc ?_ _) | (with_reducible refine Kd.C_drewN ?_ _) | (with_reducible refine Kd.C_drew ?_))); (case side2 => exact (Kd.R_reads' HO_3.out).2.1); rintro e w26 ⟨rfl, hb⟩; refine ⟨_, rfl, ?_⟩; have n0_ := Aside0.mk (Kd.R_below (by (with_reducible repeat (first | apply Kd.R_alloc | apply Kd.R_drewN | apply Kd.R_drew)); exact HO_3.out) hb); have n1_ := Aside0.mk (below_step (by repeat (first | (with_reducible first | exact HB.out | apply below_alloc | apply pw_below_drewN | apply below_drew1) | exact HB.out)) hb); clear HO_3; clear HB; have HO_3 := n0_; have HB := n1_; clear n0_ n1_; (try clear hb); (try clear hb2); (try clear hk); (try clear hi)))
          go_ret
          exact ⟨by first | rfl | (simp [errW_none, errW_some] <;> rfl) | (simp [*, errW_none, errW_some] <;> rfl), by repeat (first | (with_reducible first | exact HB.out | apply below_alloc | apply pw_below_drewN | apply below_drew1) | exact HB.out)⟩
end Go.Proofs.YtafjlibcdlihcaaDoor.G
end
section
namespace Go.Proofs.YtafjlibcdlihcaaDoor.G
open Go.RowKit Go.Proofs.YtafjlibcdlihcaaDoorW.PrintWords Go.Proofs.YtafjlibcdlihcaaDoorW.PrintLast Go.Proofs.YtafjlibcdlihcaaDoorW.PrintMore
attribute [local go_sem] max2_int min2_int max_two min_two max_three min_three max_four min_four   -- for this text's walks alone
set_option linter.unusedVariables false
set_option linter.unusedSimpArgs false
def plainL (s : List UInt8) : List UInt8 := s.map fun c => if c = 42 ∨ c = 63 then 97 else c
def tree_plain.f (a0 : ByteArray) : Option ByteArray := if a0.size ≤ 140737488351232 then some ⟨(plainL a0.data.toList).toArray⟩ else none
theorem plainL_length (l : List UInt8) : (plainL l).length = l.length := by simp [plainL]
theorem plain_at_ (l : List UInt8) (k : Nat) (hk : k < l.length) : (((plainL (l.take k)) ++ l.drop k).map fun c => (c.toNat : Int)).getD k 0 = ((l[k]'hk).toNat : Int) := by
  have h1 : (plainL (l.take k)).length = k := by rw [plainL_length, List.length_take]; omega
  rw [List.getD_eq_getElem?_getD, List.getElem?_map, List.getElem?_append_right (by omega), h1]
  simp [hk]
theorem plain_len_ (l : List UInt8) (k : Nat) (hk : k ≤ l.length) : (((plainL (l.take k)) ++ l.drop k).map fun c => (c.toNat : Int)).length = l.length := by
  simp [plainL_length]
  omega
theorem plain_snoc_ (l : List UInt8) (c : UInt8) : plainL (l ++ [c]) = plainL l ++ [if c = 42 ∨ c = 63 then 97 else c] := by unfold plainL; rw [List.map_append]; rfl
theorem plain_keep_ (l : List UInt8) (k : Nat) (hk : k < l.length) (hc : ¬ (l[k]'hk = 42 ∨ l[k]'hk = 63)) : plainL (l.take k) ++ l.drop k = plainL (l.take (k + 1)) ++ l.drop (k + 1) := by
  rw [List.take_succ_eq_append_getElem hk, plain_snoc_, List.append_assoc, if_neg hc]
  rw [List.drop_eq_getElem_cons hk]
  rfl
theorem plain_set_ (l : List UInt8) (k : Nat) (hk : k < l.length) (hc : l[k]'hk = 42 ∨ l[k]'hk = 63) : ((plainL (l.take k) ++ l.drop k).map fun c => (c.toNat : Int)).set k 97 = (plainL (l.take (k + 1)) ++ l.drop (k + 1)).map fun c => (c.toNat : Int) := by
  have h1 : (plainL (l.take k)).length = k := by rw [plainL_length, List.length_take]; omega
  rw [List.take_succ_eq_append_getElem hk, plain_snoc_, List.append_assoc, if_pos hc]
  rw [List.drop_eq_getElem_cons hk, List.map_append, List.map_append]
  rw [List.set_append_right _ _ (by rw [List.length_map, h1]; exact Nat.le_refl _), List.length_map, h1, Nat.sub_self]
  rfl
theorem strOf_plain_ (l : List UInt8) : strOfNums ((plainL (l.take l.length) ++ l.drop l.length).map fun c => (c.toNat : Int)) = ⟨(plainL l).toArray⟩ := by
  simp [strOfNums, List.map_map, Function.comp_def]
set_option maxHeartbeats 2000000 in
set_option maxRecDepth 100000 in
theorem tree_plain.calls (a0 : ByteArray) (r : ByteArray) (w : World) (h : tree_plain.f a0 = some r) :
    Calls Tryd.prog 51 #[.string a0] w fun e w' => e = .returned (.string r) ∧ Below w.heap.size w w' := by
  unfold tree_plain.f at h
  by_cases hs : a0.size ≤ 140737488351232
  case neg => rw [if_neg hs] at h; exact absurd h (by simp)
  rw [if_pos hs] at h
  have hcv := fun w => Lib.run_convert_string_bytes (P := Tryd.prog) w 9 66 5 a0 Tryd.underlying9 Tryd.underlying66 Tryd.underlying5
  go_enter Tryd.func51, Tryd.ntmps51
  go_wp2
  have hr := Option.some.inj h
  have HS := Aside0.mk hr
  clear h hr hcv
  obtain ⟨wb, hwb⟩ : ∃ wb, wb = Lib.bytesWorld w 5 a0 := ⟨_, rfl⟩
  have HB0 := Aside0.mk (show Below w.heap.size w wb by rw [hwb]; exact bytesWorld_below_ _ _ _)
  have HR0 := Aside0.mk (show RowB 5 wb w.heap.size (a0.data.toList.map fun c => (c.toNat : Int)) by rw [hwb]; exact RowB.new _ _ _)
  rw [← hwb]
  clear hwb
  go_loopw [4, 5, 10] (fun v4 v5 v10 wr => ∃ (k : Nat) (xs : List Int), v10 = .int .i64 k ∧ Aside0 (k ≤ a0.size) ∧ Aside0 (xs = ((plainL (a0.data.toList.take k)) ++ a0.data.toList.drop k).map fun c => (c.toNat : Int)) ∧ Aside0 (RowB 5 wr w.heap.size xs) ∧ Aside0 (Below w.heap.size w wr)) (fun _ _ v10 _ => a0.size - (intOf v10).toNat)
  case atStart => exact ⟨0, _, rfl, ⟨Nat.zero_le _⟩, ⟨rfl⟩, HR0, HB0⟩
  case round =>
    clear HR0 HB0
    obtain ⟨k, xs, rfl, HK, HX, HR, HB⟩ := hrel
    have hsz : a0.data.toList.length = a0.size := by simp
    have HL := Aside0.mk (show xs.length = a0.size by rw [HX.out, plain_len_ _ _ (by rw [hsz]; exact HK.out), hsz])
    have HSZ := Aside0.mk hsz
    clear hsz
    by_cases hk : k < a0.size
    · have hc := HR.out.cell k (by rw [HL.out]; exact hk)
      have hfz := HR.out.frozen k (by rw [HL.out]; exact hk)
      have hkl : k < a0.data.toList.length := by rw [HSZ.out]; exact hk
      rw [HX.out, plain_at_ _ _ hkl] at hc
      obtain ⟨c, hcc⟩ : ∃ c : UInt8, a0.data.toList[k]'hkl = c := ⟨_, rfl⟩
      rw [hcc] at hc
      have HC := Aside0.mk hcc
      obtain ⟨n, hn⟩ : ∃ n : Nat, c.toNat = n := ⟨_, rfl⟩
      rw [hn] at hc
      have HN := Aside0.mk hn
      clear hcc hn
      by_cases t1 : n = 42
      · have t1b : ((n : Int) == 42) = true := by subst t1; rfl
        have HT : Aside0 (c = 42 ∨ c = 63) := ⟨.inl (by apply UInt8.toNat_inj.1; rw [HN.out, t1]; rfl)⟩
        clear t1
        go_wp2
        go_roundw
        case rel => exact ⟨k + 1, _, by go_num, ⟨hk⟩, ⟨by rw [HX.out]; exact plain_set_ _ _ hkl (by rw [HC.out]; exact HT.out)⟩, ⟨HR.out.set k 97⟩, ⟨Below.setCell HB.out (Nat.le_refl _) _⟩⟩
        case measure => simp [intOf]; omega
      · have t1b : ((n : Int) == 42) = false := by simp; omega
        by_cases t2 : n = 63
        · have t2b : ((n : Int) == 63) = true := by subst t2; rfl
          have HT : Aside0 (c = 42 ∨ c = 63) := ⟨.inr (by apply UInt8.toNat_inj.1; rw [HN.out, t2]; rfl)⟩
          clear t1 t2
          go_wp2
          go_roundw
          case rel => exact ⟨k + 1, _, by go_num, ⟨hk⟩, ⟨by rw [HX.out]; exact plain_set_ _ _ hkl (by rw [HC.out]; exact HT.out)⟩, ⟨HR.out.set k 97⟩, ⟨Below.setCell HB.out (Nat.le_refl _) _⟩⟩
          case measure => simp [intOf]; omega
        · have t2b : ((n : Int) == 63) = false := by simp; omega
          have HT : Aside0 (¬ (c = 42 ∨ c = 63)) := ⟨fun z => z.elim (fun z => t1 (by rw [← HN.out, z]; rfl)) (fun z => t2 (by rw [← HN.out, z]; rfl))⟩
          clear t1 t2
          go_wp2
          go_roundw
          case rel => exact ⟨k + 1, _, by go_num, ⟨hk⟩, ⟨by rw [HX.out, plain_keep_ _ _ hkl (by rw [HC.out]; exact HT.out)]⟩, HR, HB⟩
          case measure => simp [intOf]; omega
    · have hcv := run_convert_bytes_arg (P := Tryd.prog) wr 66 5 Tryd.underlying66 Tryd.underlying5 w.heap.size 0 a0.size (grownCap w a0.size 0 5) xs HL.out (fun i hi => by rw [Nat.zero_add]; exact HR.out.cell i (by rw [HL.out]; exact hi)) 9 Tryd.underlying9
      have hout : strOfNums xs = r := by
        have hkk : k = a0.data.toList.length := by rw [HSZ.out]; have := HK.out; omega
        rw [HX.out, hkk, strOf_plain_, HS.out]
      rw [hout] at hcv
      clear hout
      go_wp2
      go_ret
      exact ⟨rfl, HB.out⟩
end Go.Proofs.YtafjlibcdlihcaaDoor.G
end
section
namespace Go.Proofs.YtafjlibcdlihcaaDoor.G
open Go.RowKit Go.Proofs.YtafjlibcdlihcaaDoorW.PrintWords Go.Proofs.YtafjlibcdlihcaaDoorW.PrintLast Go.Proofs.YtafjlibcdlihcaaDoorW.PrintMore
attribute [local go_sem] max2_int min2_int max_two min_two max_three min_three max_four min_four   -- for this text's walks alone
set_option linter.unusedVariables false
set_option linter.unusedSimpArgs false
def tree_Pattern.l0 : Nat → List ByteArray → Int → Int → Option (Int)
  | 0, _, _, _ => none
  | k + 1, x9, x10, x11 => if x11 < x10 then (if 0 ≤ x11 then (if x11 < (x9.length : Int) then (if (rdOf ByteArray.empty x9 x11).toList = ([42, 42] : List UInt8) then (tree_Pattern.l0 k x9 x10 (wrap64 (x11 + 1))) else ((tree_plain.f (rdOf ByteArray.empty x9 x11)).bind fun t136 => ((tree_name.f t136).bind fun t137 => (if t137 = true then (tree_Pattern.l0 k x9 x10 (wrap64 (x11 + 1))) else (some 10))))) else (none)) else (none)) else (some 0)
def tree_Pattern.f (k : Nat) (a0 : ByteArray) : Option (Int) := if (a0.size : Int) > 200 then (some 4) else ((strings_Split.f a0 (⟨#[47]⟩ : ByteArray)).bind fun t132 => (tree_Pattern.l0 k t132 (t132.length : Int) 0))
theorem tree_Pattern.mono_l : ∀ k, (∀ y0 y1 y2, LeO (tree_Pattern.l0 k y0 y1 y2) (tree_Pattern.l0 (k + 1) y0 y1 y2))
  | 0 => fun _ _ _ r h => by simp [tree_Pattern.l0] at h
  | k + 1 => by
    have ih0 := tree_Pattern.mono_l k
    · intro y0 y1 y2
      unfold tree_Pattern.l0
      repeat' first
      | (with_reducible exact ih0 _ _ _)
      | (with_reducible exact LeO.refl _)
      | (with_reducible exact LeO.none _)
      | (with_reducible refine LeO.ite ?_ ?_)
      | (with_reducible refine LeO.bind ?_ (fun _ => ?_))
      | exact ih0 _ _ _
      | exact LeO.none _
      | refine LeO.ite ?_ ?_
      | refine LeO.bind ?_ (fun _ => ?_)
theorem tree_Pattern.mono : ∀ a0 k, LeO (tree_Pattern.f k a0) (tree_Pattern.f (k + 1) a0) := by
  intro a0 k
  have ih0 := tree_Pattern.mono_l k
  unfold tree_Pattern.f
  repeat' first
      | (with_reducible exact ih0 _ _ _)
      | (with_reducible exact LeO.refl _)
      | (with_reducible exact LeO.none _)
      | (with_reducible refine LeO.ite ?_ ?_)
      | (with_reducible refine LeO.bind ?_ (fun _ => ?_))
      | exact ih0 _ _ _
      | exact LeO.none _
      | refine LeO.ite ?_ ?_
      | refine LeO.bind ?_ (fun _ => ?_)
set_option maxHeartbeats 8000000 in
set_option maxRecDepth 100000 in
theorem tree_Pattern.calls (k : Nat) (a0 : ByteArray) (r : Int) (w : World) (h : tree_Pattern.f k a0 = some r) :
    Calls Tryd.prog 21 #[.string a0] w fun e w' => e = .returned (.int .i64 r) ∧ Below w.heap.size w w' := by
  have HB := Aside0.mk (Below.refl w.heap.size w)
  have H : (if (a0.size : Int) > 200 then (some 4) else ((strings_Split.f a0 (⟨#[47]⟩ : ByteArray)).bind fun t132 => (tree_Pattern.l0 k t132 (t132.length : Int) 0))) = some r := h
  clear h
  by_cases c2 : (a0.size : Int) > 200
  · rw [if_pos c2] at H
    have c2b0 : decide (200 < (a0.size : Int)) = true := decide_eq_true c2
    have c2b1 : decide (200 < a0.size) = true := decide_eq_true (by omega)
    clear c2
    obtain rfl := Option.some.inj H
    go_enter Tryd.func21, Tryd.ntmps21
    go_wp2
    go_ret
    exact ⟨by first | rfl | (simp [errW_none, errW_some] <;> rfl) | (simp [*, errW_none, errW_some] <;> rfl), by repeat (first | (with_reducible first | exact HB.out | apply below_alloc | apply pw_below_drewN | apply below_drew1) | exact HB.out)⟩
  · rw [if_neg c2] at H
    have c2b0 : decide (200 < (a0.size : Int)) = false := decide_eq_false c2
    have c2b1 : decide (200 < a0.size) = false := decide_eq_false (by omega)
    clear c2
    replace H := Option.bind_eq_some_iff.mp H
    obtain ⟨t132, A30, H⟩ := H
    replace H : (tree_Pattern.l0 k t132 (t132.length : Int) 0) = some r := H
    have A3 := Aside0.mk A30
    clear A30
    have H' := Aside0.mk H
    clear H
    go_enter Tryd.func21, Tryd.ntmps21
    go_wp2_with (first | ((with_reducible refine gate_callee (f := 44) rfl ?_); refine goesL_ (some 9) rfl rfl Tryd.func44 (by kernel_rfl) rfl #[.string a0, .string (⟨#[47]⟩ : ByteArray)] rfl (by (try simp only [List.map_toArray, List.map_cons, List.map_nil]); first | done | rfl | (simp only [List.length_drop, List.length_take]; rfl)) ?_; (with_reducible refine (strings_Split.calls a0 (⟨#[47]⟩ : ByteArray) t132 _ A3.out).mono ?_); rintro e w4 ⟨v133, rfl, ho0, hb⟩; refine ⟨_, rfl, ?_⟩; have n0_ := Aside0.mk (Kd.R_lower ho0 (below_size (by repeat (first | (with_reducible first | exact HB.out | apply below_alloc | apply pw_below_drewN | apply below_drew1) | exact HB.out)))); have n1_ := Aside0.mk (below_step (by repeat (first | (with_reducible first | exact HB.out | apply below_alloc | apply pw_below_drewN | apply below_drew1) | exact HB.out)) hb); clear HB; have HO134 := n0_; have HB := n1_; clear n0_ n1_; (try clear hb); (try clear hb2); (try clear hk); (try clear hi); (try clear ho0); obtain ⟨Ao5, co5, eo5⟩ := Kd.R_slice HO134.out; subst eo5))
    go_loopg [11] k (fun kq v11 w' => ∃ (x11_1 : Int), v11 = .int .i64 x11_1 ∧ Aside0 (tree_Pattern.l0 kq t132 (t132.length : Int) x11_1 = some r) ∧ Aside0 (kq ≤ k) ∧ Aside0 (Kd.R Kd.string 9 w' w.heap.size (fun _ => True) (.slice Ao5 t132.length co5) t132) ∧ Aside0 (Below w.heap.size w w'))
    case atStart => exact ⟨(0), (by first | rfl | (simp; done) | (simp [*]; done)), H', ⟨Nat.le_refl _⟩, ⟨by (with_reducible repeat (first | apply Kd.R_alloc | apply Kd.R_drewN | apply Kd.R_drew)); exact HO134.out⟩, ⟨by repeat (first | (with_reducible first | exact HB.out | apply below_alloc | apply pw_below_drewN | apply below_drew1) | exact HB.out)⟩⟩
    case round =>
      clear H'
      try clear c2
      try clear c2b0
      try clear c2b1
      try clear p2
      try clear c4
      obtain ⟨x11_1, rfl, HA, HK1, HO_9, HB⟩ := hrel
      cases gk with
      | zero => exact absurd HA.out (by simp [tree_Pattern.l0])
      | succ k1 =>
        have H := HA.out
        clear HA
        simp only [tree_Pattern.l0] at H
        by_cases c6 : x11_1 < (t132.length : Int)
        · rw [if_pos c6] at H
          have c6b0 : decide (x11_1 < (t132.length : Int)) = true := decide_eq_true c6
          clear c6
          by_cases c7 : 0 ≤ x11_1
          · rw [if_pos c7] at H
            have c7b0 : decide (0 ≤ x11_1) = true := decide_eq_true c7
            clear c7
            by_cases c8 : x11_1 < (t132.length : Int)
            · rw [if_pos c8] at H
              have c8b0 : decide (x11_1 < (t132.length : Int)) = true := decide_eq_true c8
              clear c8
              by_cases c9 : (rdOf ByteArray.empty t132 x11_1).toList = ([42, 42] : List UInt8)
              · rw [if_pos c9] at H
                have c9b0 : ((rdOf ByteArray.empty t132 x11_1).toList == ([42, 42] : List UInt8)) = true := beq_iff_eq.mpr c9
                have c9b1 : ((rdOf ByteArray.empty t132 x11_1).toList != ([42, 42] : List UInt8)) = false := bne_eq_false_iff_eq.mpr c9
                clear c9
                have H' := Aside0.mk H
                clear H
                have p135 : 0 ≤ (x11_1 : Int) := of_decide_eq_true (by first | (with_reducible assumption) | assumption)
                have q135 : x11_1 < (t132.length : Int) := of_decide_eq_true (by first | (with_reducible assumption) | assumption)
                obtain ⟨ad135, e135, hx135_0⟩ := Kd.at_string (Kd.R_reads' HO_9.out).2.2 x11_1 p135 q135
                cases e135
                replace p135 := eq_true p135
                replace q135 := eq_true q135
                go_wp2
                go_roundg k1
                case measure => have := HK1.out; omega
                case rel => exact ⟨(wrap64 (x11_1 + 1)), (by first | rfl | (simp; done) | (simp [*]; done)), H', ⟨by have := HK1.out; omega⟩, ⟨by (with_reducible repeat (first | apply Kd.R_alloc | apply Kd.R_drewN | apply Kd.R_drew)); exact HO_9.out⟩, ⟨by repeat (first | (with_reducible first | exact HB.out | apply below_alloc | apply pw_below_drewN | apply below_drew1) | exact HB.out)⟩⟩
              · rw [if_neg c9] at H
                have c9b0 : ((rdOf ByteArray.empty t132 x11_1).toList == ([42, 42] : List UInt8)) = false := beq_eq_false_iff_ne.mpr c9
                have c9b1 : ((rdOf ByteArray.empty t132 x11_1).toList != ([42, 42] : List UInt8)) = true := bne_iff_ne.mpr c9
                replace H := Option.bind_eq_some_iff.mp H
                obtain ⟨t136, A100, H⟩ := H
                replace H : ((tree_name.f t136).bind fun t137 => (if t137 = true then (tree_Pattern.l0 k1 t132 (t132.length : Int) (wrap64 (x11_1 + 1))) else (some 10))) = some r := H
                have A10 := Aside0.mk A100
                clear A100
                replace H := Option.bind_eq_some_iff.mp H
                obtain ⟨t137, A110, H⟩ := H
                replace H : (if t137 = true then (tree_Pattern.l0 k1 t132 (t132.length : Int) (wrap64 (x11_1 + 1))) else (some 10)) = some r := H
                have A11 := Aside0.mk A110
                clear A110
                by_cases c12 : t137 = true
                · subst c12
                  have H1 : (tree_Pattern.l0 k1 t132 (t132.length : Int) (wrap64 (x11_1 + 1))) = some r := by rw [if_pos rfl] at H; exact H
                  clear H
                  have H := H1
                  clear H1
                  have H' := Aside0.mk H
                  clear H
                  have p135 : 0 ≤ (x11_1 : Int) := of_decide_eq_true (by first | (with_reducible assumption) | assumption)
                  have q135 : x11_1 < (t132.length : Int) := of_decide_eq_true (by first | (with_reducible assumption) | assumption)
                  obtain ⟨ad135, e135, hx135_0⟩ := Kd.at_string (Kd.R_reads' HO_9.out).2.2 x11_1 p135 q135
                  cases e135
                  replace p135 := eq_true p135
                  replace q135 := eq_true q135
                  go_wp2_with (first | (go_at_call 51; (with_reducible refine (tree_plain.calls (rdOf ByteArray.empty t132 x11_1) t136 _ A10.out).mono ?_); rintro e w13 ⟨rfl, hb⟩; have n0_ := Aside0.mk (Kd.R_below (by (with_reducible repeat (first | apply Kd.R_alloc | apply Kd.R_drewN | apply Kd.R_drew)); exact HO_9.out) hb); have n1_ := Aside0.mk (below_step (by repeat (first | (with_reducible first | exact HB.out | apply below_alloc | apply pw_below_drewN | apply below_drew1) | exact HB.out)) hb); clear HO_9; clear HB; have HO_9 := n0_; have HB := n1_; clear n0_ n1_; (try clear hb); (try clear hb2); (try clear hk); (try clear hi)) | (go_at_call 45; (with_reducible refine (tree_name.calls t136 true _ A11.out).mono ?_); rintro e w14 ⟨rfl, hb⟩; have n0_ := Aside0.mk (Kd.R_below (by (with_reducible repeat (first | apply Kd.R_alloc | apply Kd.R_drewN | apply Kd.R_drew)); exact HO_9.out) hb); have n1_ := Aside0.mk (below_step (by repeat (first | (with_reducible first | exact HB.out | apply below_alloc | apply pw_below_drewN | apply below_drew1) | exact HB.out)) hb); clear HO_9; clear HB; have HO_9 := n0_; have HB := n1_; clear n0_ n1_; (try clear hb); (try clear hb2); (try clear hk); (try clear hi)))
                  go_roundg k1
                  case measure => have := HK1.out; omega
                  case rel => exact ⟨(wrap64 (x11_1 + 1)), (by first | rfl | (simp; done) | (simp [*]; done)), H', ⟨by have := HK1.out; omega⟩, ⟨by (with_reducible repeat (first | apply Kd.R_alloc | apply Kd.R_drewN | apply Kd.R_drew)); exact HO_9.out⟩, ⟨by repeat (first | (with_reducible first | exact HB.out | apply below_alloc | apply pw_below_drewN | apply below_drew1) | exact HB.out)⟩⟩
                · replace c12 := Bool.eq_false_iff.mpr c12
                  subst c12
                  have H1 : (some 10) = some r := by rw [if_neg (show ¬ (false = true) by decide)] at H; exact H
                  clear H
                  have H := H1
                  clear H1
                  obtain rfl := Option.some.inj H
                  have p135 : 0 ≤ (x11_1 : Int) := of_decide_eq_true (by first | (with_reducible assumption) | assumption)
                  have q135 : x11_1 < (t132.length : Int) := of_decide_eq_true (by first | (with_reducible assumption) | assumption)
                  obtain ⟨ad135, e135, hx135_0⟩ := Kd.at_string (Kd.R_reads' HO_9.out).2.2 x11_1 p135 q135
                  cases e135
                  replace p135 := eq_true p135
                  replace q135 := eq_true q135
                  go_wp2_with (first | (go_at_call 51; (with_reducible refine (tree_plain.calls (rdOf ByteArray.empty t132 x11_1) t136 _ A10.out).mono ?_); rintro e w15 ⟨rfl, hb⟩; have n0_ := Aside0.mk (Kd.R_below (by (with_reducible repeat (first | apply Kd.R_alloc | apply Kd.R_drewN | apply Kd.R_drew)); exact HO_9.out) hb); have n1_ := Aside0.mk (below_step (by repeat (first | (with_reducible first | exact HB.out | apply below_alloc | apply pw_below_drewN | apply below_drew1) | exact HB.out)) hb); clear HO_9; clear HB; have HO_9 := n0_; have HB := n1_; clear n0_ n1_; (try clear hb); (try clear hb2); (try clear hk); (try clear hi)) | (go_at_call 45; (with_reducible refine (tree_name.calls t136 false _ A11.out).mono ?_); rintro e w16 ⟨rfl, hb⟩; have n0_ := Aside0.mk (Kd.R_below (by (with_reducible repeat (first | apply Kd.R_alloc | apply Kd.R_drewN | apply Kd.R_drew)); exact HO_9.out) hb); have n1_ := Aside0.mk (below_step (by repeat (first | (with_reducible first | exact HB.out | apply below_alloc | apply pw_below_drewN | apply below_drew1) | exact HB.out)) hb); clear HO_9; clear HB; have HO_9 := n0_; have HB := n1_; clear n0_ n1_; (try clear hb); (try clear hb2); (try clear hk); (try clear hi)))
                  go_ret
                  exact ⟨by first | rfl | (simp [errW_none, errW_some] <;> rfl) | (simp [*, errW_none, errW_some] <;> rfl), by repeat (first | (with_reducible first | exact HB.out | apply below_alloc | apply pw_below_drewN | apply below_drew1) | exact HB.out)⟩
            · rw [if_neg c8] at H
              exact absurd H (by simp)
          · rw [if_neg c7] at H
            exact absurd H (by simp)
        · rw [if_neg c6] at H
          have c6b0 : decide (x11_1 < (t132.length : Int)) = false := decide_eq_false c6
          clear c6
          obtain rfl := Option.some.inj H
          go_wp2
          go_ret
          exact ⟨by first | rfl | (simp [errW_none, errW_some] <;> rfl) | (simp [*, errW_none, errW_some] <;> rfl), by repeat (first | (with_reducible first | exact HB.out | apply below_alloc | apply pw_below_drewN | apply below_drew1) | exact HB.out)⟩
end Go.Proofs.YtafjlibcdlihcaaDoor.G
end
