/- Texts of this session's claim of ImageDrops, less what its theorem does not reach. No condition. -/
import Derived.Test.YtmeofdpmddjbgaaDoorID12
import Derived.Test.YtmeofdpmddjbgaaDoorID14
import Derived.Test.YtmeofdpmddjbgaaDoorID15
import Derived.Test.YtmeofdpmddjbgaaDoorID16
section
namespace Go.Proofs.YtmeofdpmddjbgaaDoor.G
open Go.RowKit Go.Proofs.YtmeofdpmddjbgaaDoorW.PrintWords Go.Proofs.YtmeofdpmddjbgaaDoorW.PrintLast Go.Proofs.YtmeofdpmddjbgaaDoorW.PrintMore
attribute [local go_sem] max2_int min2_int max_two min_two max_three min_three max_four min_four   -- for this text's walks alone
set_option linter.unusedVariables false
set_option linter.unusedSimpArgs false
def image_head.l0 : Nat → ByteArray → List (S33) → List Int → Int → Int → ByteArray → Int → Int → Option ((List (S33)) × List Int × Int × Int)
  | 0, _, _, _, _, _, _, _, _ => none
  | k + 1, x0, x7, x8, x16, x17, x285000, x285001, x285002 => if x17 < x16 then ((code_Reader_Text.f k x285000 x285001 x285002 200).bind fun bt289 => ((code_Reader_Num.f k bt289.2.1 bt289.2.2.1 bt289.2.2.2).bind fun bt293 => ((code_Reader_Count.f k bt293.2.1 bt293.2.2.1 bt293.2.2.2 65536).bind fun bt298 => ((code_Reader_Err.f bt298.2.1 bt298.2.2.1 bt298.2.2.2).bind fun bt302 => (if bt302.1 = 0 then (if x7.length < 3518437208883 then (if x8.length < 17592186044416 then (image_head.l0 k x0 (x7 ++ [(⟨bt289.1, bt293.1, (⟨#[]⟩ : ByteArray)⟩ : S33)]) (x8 ++ [bt298.1]) x16 (wrap64 (x17 + 1)) bt302.2.1 bt302.2.2.1 bt302.2.2.2) else (none)) else (none)) else ((code_Reader_Err.f bt302.2.1 bt302.2.2.1 bt302.2.2.2).bind fun bt312 => (some (([] : List (S33)), ([] : List Int), 0, bt312.1)))))))) else ((code_Reader_Err.f x285000 x285001 x285002).bind fun bt316 => (if bt316.1 = 0 then ((tree_Check.f k x7).bind fun t320 => (if t320 = 0 then ((code_Reader_Left.f bt316.2.1 bt316.2.2.1 bt316.2.2.2).bind fun bt321 => (some (x7, x8, wrap64 ((x0.size : Int) - bt321.1), 0))) else (some (([] : List (S33)), ([] : List Int), 0, t320)))) else (some (([] : List (S33)), ([] : List Int), 0, bt316.1))))
def image_head.f (k : Nat) (a0 : ByteArray) : Option ((List (S33)) × List Int × Int × Int) := (code_Read.f a0).bind fun bt281 => ((code_Reader_Count.f k bt281.1 bt281.2.1 bt281.2.2 256).bind fun bt285 => (image_head.l0 k a0 ([] : List (S33)) ([] : List Int) bt285.1 0 bt285.2.1 bt285.2.2.1 bt285.2.2.2))
theorem image_head.mono_l : ∀ k, (∀ y0 y1 y2 y3 y4 y5 y6 y7, LeO (image_head.l0 k y0 y1 y2 y3 y4 y5 y6 y7) (image_head.l0 (k + 1) y0 y1 y2 y3 y4 y5 y6 y7))
  | 0 => fun _ _ _ _ _ _ _ _ r h => by simp [image_head.l0] at h
  | k + 1 => by
    have ih0 := image_head.mono_l k
    · intro y0 y1 y2 y3 y4 y5 y6 y7
      unfold image_head.l0
      repeat' first
      | (with_reducible exact ih0 _ _ _ _ _ _ _ _)
      | (with_reducible exact code_Reader_Count.mono _ _ _ _ _)
      | (with_reducible exact code_Reader_Num.mono _ _ _ _)
      | (with_reducible exact code_Reader_Text.mono _ _ _ _ _)
      | (with_reducible exact tree_Check.mono _ _)
      | (with_reducible exact LeO.refl _)
      | (with_reducible exact LeO.none _)
      | (with_reducible refine LeO.ite ?_ ?_)
      | (with_reducible refine LeO.bind ?_ (fun _ => ?_))
      | exact ih0 _ _ _ _ _ _ _ _
      | exact code_Reader_Count.mono _ _ _ _ _
      | exact code_Reader_Num.mono _ _ _ _
      | exact code_Reader_Text.mono _ _ _ _ _
      | exact tree_Check.mono _ _
      | exact LeO.none _
      | refine LeO.ite ?_ ?_
      | refine LeO.bind ?_ (fun _ => ?_)
theorem image_head.mono : ∀ a0 k, LeO (image_head.f k a0) (image_head.f (k + 1) a0) := by
  intro a0 k
  have ih0 := image_head.mono_l k
  unfold image_head.f
  repeat' first
      | (with_reducible exact ih0 _ _ _ _ _ _ _ _)
      | (with_reducible exact code_Reader_Count.mono _ _ _ _ _)
      | (with_reducible exact code_Reader_Num.mono _ _ _ _)
      | (with_reducible exact code_Reader_Text.mono _ _ _ _ _)
      | (with_reducible exact tree_Check.mono _ _)
      | (with_reducible exact LeO.refl _)
      | (with_reducible exact LeO.none _)
      | (with_reducible refine LeO.ite ?_ ?_)
      | (with_reducible refine LeO.bind ?_ (fun _ => ?_))
      | exact ih0 _ _ _ _ _ _ _ _
      | exact code_Reader_Count.mono _ _ _ _ _
      | exact code_Reader_Num.mono _ _ _ _
      | exact code_Reader_Text.mono _ _ _ _ _
      | exact tree_Check.mono _ _
      | exact LeO.none _
      | refine LeO.ite ?_ ?_
      | refine LeO.bind ?_ (fun _ => ?_)
set_option maxHeartbeats 8000000 in
set_option maxRecDepth 100000 in
theorem image_head.calls (k : Nat) (a0 : ByteArray) (r1 : List (S33)) (r2 : List Int) (r3 : Int) (r4 : Int) (w : World) (h : image_head.f k a0 = some (r1, r2, r3, r4)) :
    Calls Tryd.prog 37 #[.string a0] w fun e w' => ∃ v0_ v1_ : Value, e = .returned (.tuple #[v0_, v1_, .int .i64 r3, .int .i64 r4]) ∧ Kd.R k33 33 w' w.heap.size (fun _ => True) v0_ r1 ∧ Kd.R (Kd.int .i64) 3 w' w.heap.size (fun _ => True) v1_ r2 ∧ Below w.heap.size w w' := by
  have hu33 := Tryd.underlying33
  have HB := Aside0.mk (Below.refl w.heap.size w)
  have H : ((code_Read.f a0).bind fun bt281 => ((code_Reader_Count.f k bt281.1 bt281.2.1 bt281.2.2 256).bind fun bt285 => (image_head.l0 k a0 ([] : List (S33)) ([] : List Int) bt285.1 0 bt285.2.1 bt285.2.2.1 bt285.2.2.2))) = some (r1, r2, r3, r4) := h
  clear h
  replace H := Option.bind_eq_some_iff.mp H
  obtain ⟨⟨t281, t282, t283⟩, A20, H⟩ := H
  replace H : ((code_Reader_Count.f k t281 t282 t283 256).bind fun bt285 => (image_head.l0 k a0 ([] : List (S33)) ([] : List Int) bt285.1 0 bt285.2.1 bt285.2.2.1 bt285.2.2.2)) = some (r1, r2, r3, r4) := H
  have A2 := Aside0.mk A20
  clear A20
  replace H := Option.bind_eq_some_iff.mp H
  obtain ⟨⟨t285, t286, t287, t288⟩, A30, H⟩ := H
  replace H : (image_head.l0 k a0 ([] : List (S33)) ([] : List Int) t285 0 t286 t287 t288) = some (r1, r2, r3, r4) := H
  have A3 := Aside0.mk A30
  clear A30
  have H' := Aside0.mk H
  clear H
  go_enter Tryd.func37, Tryd.ntmps37
  go_wp2_with (first | ((with_reducible refine gate_callee (f := 54) rfl ?_); refine goesL_ (some 14) rfl rfl Tryd.func54 (by kernel_rfl) rfl #[.string a0] rfl (by (try simp only [List.map_toArray, List.map_cons, List.map_nil]); first | done | rfl | (simp only [List.length_drop, List.length_take]; rfl)) ?_; (with_reducible refine (code_Read.calls a0 t281 t282 t283 w _ ?side1 A2.out).mono ?_); (case side1 => repeat (first | (with_reducible first | exact HB.out | apply below_alloc | apply pw_below_drewN | apply below_drew1) | exact HB.out)); rintro e w4 ⟨g284, rfl, hi, hb, hb2⟩; refine ⟨_, rfl, ?_⟩; have n0_ := Aside0.mk (hb); have n1_ := Aside0.mk (hi); clear HB; have HB := n0_; have HI284 := n1_; clear n0_ n1_; (try clear hb); (try clear hb2); (try clear hk); (try clear hi)) | ((with_reducible refine gate_callee (f := 55) rfl ?_); refine goesL_ (some 16) rfl rfl Tryd.func55 (by kernel_rfl) rfl #[.pointer (some ⟨g284, 0, none⟩), .int .i64 256] rfl (by (try simp only [List.map_toArray, List.map_cons, List.map_nil]); first | done | rfl | (simp only [List.length_drop, List.length_take]; rfl)) ?_; (with_reducible refine (code_Reader_Count.calls k g284 t281 t282 t283 256 t285 t286 t287 t288 w _ ?side1 ?side2 A3.out).mono ?_); (case side1 => repeat (first | (with_reducible first | exact HI284.out | apply IsS102.alloc | apply IsS102.drewN | apply IsS102.drew | apply IsS102.set_0 | apply IsS102.set_1 | apply IsS102.set_2) | exact HI284.out)); (case side2 => repeat (first | (with_reducible first | exact HB.out | apply below_alloc | apply pw_below_drewN | apply below_drew1 | refine below_set ?_ (IsS102.ge HI284.out)) | exact HB.out)); rintro e w5 ⟨rfl, hi, hb, hk⟩; refine ⟨_, rfl, ?_⟩; have n0_ := Aside0.mk (hb); have n1_ := Aside0.mk (hi); clear HB; clear HI284; have HB := n0_; have HI284 := n1_; clear n0_ n1_; (try clear hb); (try clear hb2); (try clear hk); (try clear hi)))
  go_loopg [7, 8, 17] k (fun kq v7 v8 v17 w' => ∃ (x7_1 : List (S33)) (x8_1 : List Int) (x17_1 : Int) (x285000_1 : ByteArray) (x285001_1 : Int) (x285002_1 : Int), v17 = .int .i64 x17_1 ∧ Aside0 (image_head.l0 kq a0 x7_1 x8_1 t285 x17_1 x285000_1 x285001_1 x285002_1 = some (r1, r2, r3, r4)) ∧ Aside0 (kq ≤ k) ∧ Aside0 (Kd.R k33 33 w' w.heap.size (fun _ => True) v7 x7_1) ∧ Aside0 (Kd.R (Kd.int .i64) 3 w' w.heap.size (fun _ => True) v8 x8_1) ∧ Aside0 (IsS102 w w' g284 x285000_1 x285001_1 x285002_1) ∧ Aside0 (Below w.heap.size w w'))
  case atStart => exact ⟨(([] : List (S33))), (([] : List Int)), (0), (t286), (t287), (t288), (by first | rfl | (simp; done) | (simp [*]; done)), H', ⟨Nat.le_refl _⟩, ⟨by first | exact Kd.R_nil _ _ _ _ _ | exact Kd.N_nil _ _ _ _ _ | exact Kd.V_nil _ _ _ _ _ | exact Kd.Q_nil _ _ _ _ _ | exact Kd.S_nil _ _ _ _ _⟩, ⟨by first | exact Kd.R_nil _ _ _ _ _ | exact Kd.N_nil _ _ _ _ _ | exact Kd.V_nil _ _ _ _ _ | exact Kd.Q_nil _ _ _ _ _ | exact Kd.S_nil _ _ _ _ _⟩, ⟨by repeat (first | (with_reducible first | exact HI284.out | apply IsS102.alloc | apply IsS102.drewN | apply IsS102.drew | apply IsS102.set_0 | apply IsS102.set_1 | apply IsS102.set_2) | exact HI284.out)⟩, ⟨by repeat (first | (with_reducible first | exact HB.out | apply below_alloc | apply pw_below_drewN | apply below_drew1 | refine below_set ?_ (IsS102.ge HI284.out)) | exact HB.out)⟩⟩
  case round =>
    clear H'
    try clear p2
    try clear c3
    try clear c5
    obtain ⟨x7_1, x8_1, x17_1, x285000_1, x285001_1, x285002_1, rfl, HA, HK1, HO_7, HO_8, HI284, HB⟩ := hrel
    cases gk with
    | zero => exact absurd HA.out (by simp [image_head.l0])
    | succ k1 =>
      have H := HA.out
      clear HA
      simp only [image_head.l0] at H
      by_cases c6 : x17_1 < t285
      · rw [if_pos c6] at H
        have c6b0 : decide (x17_1 < t285) = true := decide_eq_true c6
        clear c6
        replace H := Option.bind_eq_some_iff.mp H
        obtain ⟨⟨t289, t290, t291, t292⟩, A70, H⟩ := H
        replace H : ((code_Reader_Num.f k1 t290 t291 t292).bind fun bt293 => ((code_Reader_Count.f k1 bt293.2.1 bt293.2.2.1 bt293.2.2.2 65536).bind fun bt298 => ((code_Reader_Err.f bt298.2.1 bt298.2.2.1 bt298.2.2.2).bind fun bt302 => (if bt302.1 = 0 then (if x7_1.length < 3518437208883 then (if x8_1.length < 17592186044416 then (image_head.l0 k1 a0 (x7_1 ++ [(⟨t289, bt293.1, (⟨#[]⟩ : ByteArray)⟩ : S33)]) (x8_1 ++ [bt298.1]) t285 (wrap64 (x17_1 + 1)) bt302.2.1 bt302.2.2.1 bt302.2.2.2) else (none)) else (none)) else ((code_Reader_Err.f bt302.2.1 bt302.2.2.1 bt302.2.2.2).bind fun bt312 => (some (([] : List (S33)), ([] : List Int), 0, bt312.1))))))) = some (r1, r2, r3, r4) := H
        have A7 := Aside0.mk A70
        clear A70
        replace H := Option.bind_eq_some_iff.mp H
        obtain ⟨⟨t293, t294, t295, t296⟩, A80, H⟩ := H
        replace H : ((code_Reader_Count.f k1 t294 t295 t296 65536).bind fun bt298 => ((code_Reader_Err.f bt298.2.1 bt298.2.2.1 bt298.2.2.2).bind fun bt302 => (if bt302.1 = 0 then (if x7_1.length < 3518437208883 then (if x8_1.length < 17592186044416 then (image_head.l0 k1 a0 (x7_1 ++ [(⟨t289, t293, (⟨#[]⟩ : ByteArray)⟩ : S33)]) (x8_1 ++ [bt298.1]) t285 (wrap64 (x17_1 + 1)) bt302.2.1 bt302.2.2.1 bt302.2.2.2) else (none)) else (none)) else ((code_Reader_Err.f bt302.2.1 bt302.2.2.1 bt302.2.2.2).bind fun bt312 => (some (([] : List (S33)), ([] : List Int), 0, bt312.1)))))) = some (r1, r2, r3, r4) := H
        have A8 := Aside0.mk A80
        clear A80
        replace H := Option.bind_eq_some_iff.mp H
        obtain ⟨⟨t298, t299, t300, t301⟩, A90, H⟩ := H
        replace H : ((code_Reader_Err.f t299 t300 t301).bind fun bt302 => (if bt302.1 = 0 then (if x7_1.length < 3518437208883 then (if x8_1.length < 17592186044416 then (image_head.l0 k1 a0 (x7_1 ++ [(⟨t289, t293, (⟨#[]⟩ : ByteArray)⟩ : S33)]) (x8_1 ++ [t298]) t285 (wrap64 (x17_1 + 1)) bt302.2.1 bt302.2.2.1 bt302.2.2.2) else (none)) else (none)) else ((code_Reader_Err.f bt302.2.1 bt302.2.2.1 bt302.2.2.2).bind fun bt312 => (some (([] : List (S33)), ([] : List Int), 0, bt312.1))))) = some (r1, r2, r3, r4) := H
        have A9 := Aside0.mk A90
        clear A90
        replace H := Option.bind_eq_some_iff.mp H
        obtain ⟨⟨t302, t303, t304, t305⟩, A100, H⟩ := H
        replace H : (if t302 = 0 then (if x7_1.length < 3518437208883 then (if x8_1.length < 17592186044416 then (image_head.l0 k1 a0 (x7_1 ++ [(⟨t289, t293, (⟨#[]⟩ : ByteArray)⟩ : S33)]) (x8_1 ++ [t298]) t285 (wrap64 (x17_1 + 1)) t303 t304 t305) else (none)) else (none)) else ((code_Reader_Err.f t303 t304 t305).bind fun bt312 => (some (([] : List (S33)), ([] : List Int), 0, bt312.1)))) = some (r1, r2, r3, r4) := H
        have A10 := Aside0.mk A100
        clear A100
        by_cases c11 : t302 = 0
        · rw [if_pos c11] at H
          have c11b0 : (t302 == 0) = true := beq_iff_eq.mpr c11
          have c11b1 : (t302 != 0) = false := bne_eq_false_iff_eq.mpr c11
          clear c11
          by_cases c12 : x7_1.length < 3518437208883
          · rw [if_pos c12] at H
            have LMc12 := Aside0.mk c12
            clear c12
            obtain ⟨y306, hy306⟩ : ∃ y_ : List (S33), y_ = (x7_1 ++ [(⟨t289, t293, (⟨#[]⟩ : ByteArray)⟩ : S33)]) := ⟨_, rfl⟩
            replace H : (if x8_1.length < 17592186044416 then (image_head.l0 k1 a0 y306 (x8_1 ++ [t298]) t285 (wrap64 (x17_1 + 1)) t303 t304 t305) else (none)) = some (r1, r2, r3, r4) := by first | (rw [hy306]; with_reducible exact H) | (have H2_ := (Option.bind_some _ _).symm.trans H; rw [hy306]; with_reducible exact H2_) | (have H2_ := (Option.bind_some _ _).symm.trans H; with_reducible exact H2_) | with_reducible exact H | (rw [hy306]; exact H) | exact H
            have Ny306 := Aside0.mk hy306
            clear hy306
            by_cases c13 : x8_1.length < 17592186044416
            · rw [if_pos c13] at H
              have LMc13 := Aside0.mk c13
              clear c13
              obtain ⟨y309, hy309⟩ : ∃ y_ : List Int, y_ = (x8_1 ++ [t298]) := ⟨_, rfl⟩
              replace H : (image_head.l0 k1 a0 y306 y309 t285 (wrap64 (x17_1 + 1)) t303 t304 t305) = some (r1, r2, r3, r4) := by first | (rw [hy309]; with_reducible exact H) | (have H2_ := (Option.bind_some _ _).symm.trans H; rw [hy309]; with_reducible exact H2_) | (have H2_ := (Option.bind_some _ _).symm.trans H; with_reducible exact H2_) | with_reducible exact H | (rw [hy309]; exact H) | exact H
              have Ny309 := Aside0.mk hy309
              clear hy309
              have H' := Aside0.mk H
              clear H
              go_wp2_with (first | ((with_reducible refine gate_callee (f := 56) rfl ?_); refine goesL_ (some 20) rfl rfl Tryd.func56 (by kernel_rfl) rfl #[.pointer (some ⟨g284, 0, none⟩), .int .i64 200] rfl (by (try simp only [List.map_toArray, List.map_cons, List.map_nil]); first | done | rfl | (simp only [List.length_drop, List.length_take]; rfl)) ?_; (with_reducible refine (code_Reader_Text.calls k1 g284 x285000_1 x285001_1 x285002_1 200 t289 t290 t291 t292 w _ ?side1 ?side2 A7.out).mono ?_); (case side1 => repeat (first | (with_reducible first | exact HI284.out | apply IsS102.alloc | apply IsS102.drewN | apply IsS102.drew | apply IsS102.set_0 | apply IsS102.set_1 | apply IsS102.set_2) | exact HI284.out)); (case side2 => repeat (first | (with_reducible first | exact HB.out | apply below_alloc | apply pw_below_drewN | apply below_drew1 | refine below_set ?_ (IsS102.ge HI284.out)) | exact HB.out)); rintro e w14 ⟨rfl, hi, hb, hk⟩; refine ⟨_, rfl, ?_⟩; have n0_ := Aside0.mk (Kd.R_mono (Kd.R_keep (IsS102.apart (show IsS102 w _ g284 x285000_1 x285001_1 x285002_1 from by repeat (first | (with_reducible first | exact HI284.out | apply IsS102.alloc | apply IsS102.drewN | apply IsS102.drew | apply IsS102.set_0 | apply IsS102.set_1 | apply IsS102.set_2) | exact HI284.out)) (by (with_reducible repeat (first | apply Kd.R_alloc | apply Kd.R_drewN | apply Kd.R_drew)); exact HO_7.out) (by decide)) hk (fun _ h => h.2)) (fun _ h => h.1)); have n1_ := Aside0.mk (Kd.R_mono (Kd.R_keep (IsS102.apart (show IsS102 w _ g284 x285000_1 x285001_1 x285002_1 from by repeat (first | (with_reducible first | exact HI284.out | apply IsS102.alloc | apply IsS102.drewN | apply IsS102.drew | apply IsS102.set_0 | apply IsS102.set_1 | apply IsS102.set_2) | exact HI284.out)) (by (with_reducible repeat (first | apply Kd.R_alloc | apply Kd.R_drewN | apply Kd.R_drew)); exact HO_8.out) (by decide)) hk (fun _ h => h.2)) (fun _ h => h.1)); have n2_ := Aside0.mk (hb); have n3_ := Aside0.mk (hi); clear HO_7; clear HO_8; clear HB; clear HI284; have HO_7 := n0_; have HO_8 := n1_; have HB := n2_; have HI284 := n3_; clear n0_ n1_ n2_ n3_; (try clear hb); (try clear hb2); (try clear hk); (try clear hi)) | ((with_reducible refine gate_callee (f := 57) rfl ?_); refine goesL_ (some 22) rfl rfl Tryd.func57 (by kernel_rfl) rfl #[.pointer (some ⟨g284, 0, none⟩)] rfl (by (try simp only [List.map_toArray, List.map_cons, List.map_nil]); first | done | rfl | (simp only [List.length_drop, List.length_take]; rfl)) ?_; (with_reducible refine (code_Reader_Num.calls k1 g284 t290 t291 t292 t293 t294 t295 t296 w _ ?side1 ?side2 A8.out).mono ?_); (case side1 => repeat (first | (with_reducible first | exact HI284.out | apply IsS102.alloc | apply IsS102.drewN | apply IsS102.drew | apply IsS102.set_0 | apply IsS102.set_1 | apply IsS102.set_2) | exact HI284.out)); (case side2 => repeat (first | (with_reducible first | exact HB.out | apply below_alloc | apply pw_below_drewN | apply below_drew1 | refine below_set ?_ (IsS102.ge HI284.out)) | exact HB.out)); rintro e w15 ⟨rfl, hi, hb, hk⟩; refine ⟨_, rfl, ?_⟩; have n0_ := Aside0.mk (Kd.R_mono (Kd.R_keep (IsS102.apart (show IsS102 w _ g284 t290 t291 t292 from by repeat (first | (with_reducible first | exact HI284.out | apply IsS102.alloc | apply IsS102.drewN | apply IsS102.drew | apply IsS102.set_0 | apply IsS102.set_1 | apply IsS102.set_2) | exact HI284.out)) (by (with_reducible repeat (first | apply Kd.R_alloc | apply Kd.R_drewN | apply Kd.R_drew)); exact HO_7.out) (by decide)) hk (fun _ h => h.2)) (fun _ h => h.1)); have n1_ := Aside0.mk (Kd.R_mono (Kd.R_keep (IsS102.apart (show IsS102 w _ g284 t290 t291 t292 from by repeat (first | (with_reducible first | exact HI284.out | apply IsS102.alloc | apply IsS102.drewN | apply IsS102.drew | apply IsS102.set_0 | apply IsS102.set_1 | apply IsS102.set_2) | exact HI284.out)) (by (with_reducible repeat (first | apply Kd.R_alloc | apply Kd.R_drewN | apply Kd.R_drew)); exact HO_8.out) (by decide)) hk (fun _ h => h.2)) (fun _ h => h.1)); have n2_ := Aside0.mk (hb); have n3_ := Aside0.mk (hi); clear HO_7; clear HO_8; clear HB; clear HI284; have HO_7 := n0_; have HO_8 := n1_; have HB := n2_; have HI284 := n3_; clear n0_ n1_ n2_ n3_; (try clear hb); (try clear hb2); (try clear hk); (try clear hi)) | ((with_reducible refine gate_dst (N := 9) rfl ?_); refine box_event ?hg (N := 9) ?hd (cs := #[.string (⟨#[]⟩ : ByteArray), .int .i64 0, .string (⟨#[]⟩ : ByteArray)]) (t := 33) ?hr ?_; (case hd => rfl); (case hg => rfl); (case hr => first | (go_simp; done) | (go_simp; rfl)); intro gb297 hg w16 hbox hb; have n0_ := Aside0.mk (Kd.R_below (Kd.R_elderB (by (with_reducible repeat (first | apply Kd.R_alloc | apply Kd.R_drewN | apply Kd.R_drew)); exact HO_7.out) gb297 (Nat.le_of_eq hg.symm)) hb); have n1_ := Aside0.mk (Kd.R_below (by (with_reducible repeat (first | apply Kd.R_alloc | apply Kd.R_drewN | apply Kd.R_drew)); exact HO_8.out) hb); have n2_ := Aside0.mk (IsS102.below (by repeat (first | (with_reducible first | exact HI284.out | apply IsS102.alloc | apply IsS102.drewN | apply IsS102.drew | apply IsS102.set_0 | apply IsS102.set_1 | apply IsS102.set_2) | exact HI284.out)) hb); have n3_ := Aside0.mk (below_step (by repeat (first | (with_reducible first | exact HB.out | apply below_alloc | apply pw_below_drewN | apply below_drew1 | refine below_set ?_ (IsS102.ge HI284.out)) | exact HB.out)) hb); have n4_ := Aside0.mk (hbox); have n5_ := Aside0.mk ((by rw [hg]; exact (below_size (by repeat (first | (with_reducible first | exact HB.out | apply below_alloc | apply pw_below_drewN | apply below_drew1 | refine below_set ?_ (IsS102.ge HI284.out)) | exact HB.out))) : w.heap.size ≤ gb297)); have n6_ := Aside0.mk ((by rw [hg]; exact (below_size (by repeat (first | (with_reducible first | exact HB.out | apply below_alloc | apply pw_below_drewN | apply below_drew1 | refine below_set ?_ (IsS102.ge HI284.out)) | exact HB.out))) : w.heap.size ≤ gb297)); have n7_ := Aside0.mk ((by rw [hg]; exact Nat.ne_of_lt (IsS102.lt (show IsS102 w _ g284 t294 t295 t296 from by repeat (first | (with_reducible first | exact HI284.out | apply IsS102.alloc | apply IsS102.drewN | apply IsS102.drew | apply IsS102.set_0 | apply IsS102.set_1 | apply IsS102.set_2) | exact HI284.out))) : g284 ≠ gb297)); have n8_ := Aside0.mk ((by rw [hg]; exact Nat.ne_of_gt (IsS102.lt (show IsS102 w _ g284 t294 t295 t296 from by repeat (first | (with_reducible first | exact HI284.out | apply IsS102.alloc | apply IsS102.drewN | apply IsS102.drew | apply IsS102.set_0 | apply IsS102.set_1 | apply IsS102.set_2) | exact HI284.out))) : gb297 ≠ g284)); clear HO_7; clear HO_8; clear HI284; clear HB; have HO_7 := n0_; have HO_8 := n1_; have HI284 := n2_; have HB := n3_; have BK297 := n4_; have GW297 := n5_; have GE297 := n6_; have NB284_297 := n7_; have NB297_284 := n8_; clear n0_ n1_ n2_ n3_ n4_ n5_ n6_ n7_ n8_; clear hb hbox hg; have hnb17 := NB297_284.out; have hnc17 := NB284_297.out; have hcz18_0 : w16.cell? ⟨gb297, 0, none⟩ = some (.string (⟨#[]⟩ : ByteArray)) := (blk_cell BK297.out 0).trans rfl; have hcz18_1 : w16.cell? ⟨gb297, 1, none⟩ = some (.int .i64 0) := (blk_cell BK297.out 1).trans rfl; have hcz18_2 : w16.cell? ⟨gb297, 2, none⟩ = some (.string (⟨#[]⟩ : ByteArray)) := (blk_cell BK297.out 2).trans rfl; have hfz18_0 := blk_frozen BK297.out 0; have hfz18_1 := blk_frozen BK297.out 1; have hfz18_2 := blk_frozen BK297.out 2) | ((with_reducible refine gate_callee (f := 55) rfl ?_); refine goesL_ (some 25) rfl rfl Tryd.func55 (by kernel_rfl) rfl #[.pointer (some ⟨g284, 0, none⟩), .int .i64 65536] rfl (by (try simp only [List.map_toArray, List.map_cons, List.map_nil]); first | done | rfl | (simp only [List.length_drop, List.length_take]; rfl)) ?_; (with_reducible refine (code_Reader_Count.calls k1 g284 t294 t295 t296 65536 t298 t299 t300 t301 w _ ?side1 ?side2 A9.out).mono ?_); (case side1 => repeat (first | (with_reducible first | exact HI284.out | apply IsS102.alloc | apply IsS102.drewN | apply IsS102.drew | apply IsS102.set_0 | apply IsS102.set_1 | apply IsS102.set_2) | refine IsS102.far ?_ NB284_297.out _ | exact HI284.out)); (case side2 => repeat (first | (with_reducible first | exact HB.out | apply below_alloc | apply pw_below_drewN | apply below_drew1 | refine below_set ?_ (IsS102.ge HI284.out) | refine below_set ?_ GE297.out) | exact HB.out)); rintro e w19 ⟨rfl, hi, hb, hk⟩; refine ⟨_, rfl, ?_⟩; have n0_ := Aside0.mk (Kd.R_mono (Kd.R_keep (IsS102.apart (show IsS102 w _ g284 t294 t295 t296 from by repeat (first | (with_reducible first | exact HI284.out | apply IsS102.alloc | apply IsS102.drewN | apply IsS102.drew | apply IsS102.set_0 | apply IsS102.set_1 | apply IsS102.set_2) | refine IsS102.far ?_ NB284_297.out _ | exact HI284.out)) (by (with_reducible repeat (first | apply Kd.R_alloc | apply Kd.R_drewN | apply Kd.R_drew)); exact (Kd.R_mono (Kd.R_far (p := ⟨gb297, 2, none⟩) (Kd.R_far (p := ⟨gb297, 1, none⟩) (Kd.R_far (p := ⟨gb297, 0, none⟩) (Kd.R_mono HO_7.out (fun k_ hk => (⟨hk, hk.2⟩ : _ ∧ k_ ≠ gb297))) (fun _ hk => hk.2) (.string t289)) (fun _ hk => hk.2) (.int .i64 t293)) (fun _ hk => hk.2) (.string (⟨#[]⟩ : ByteArray))) (fun _ h_ => h_.1))) (by decide)) hk (fun _ h => h.2)) (fun _ h => h.1)); have n1_ := Aside0.mk (Kd.R_mono (Kd.R_keep (IsS102.apart (show IsS102 w _ g284 t294 t295 t296 from by repeat (first | (with_reducible first | exact HI284.out | apply IsS102.alloc | apply IsS102.drewN | apply IsS102.drew | apply IsS102.set_0 | apply IsS102.set_1 | apply IsS102.set_2) | refine IsS102.far ?_ NB284_297.out _ | exact HI284.out)) (by (with_reducible repeat (first | apply Kd.R_alloc | apply Kd.R_drewN | apply Kd.R_drew)); exact (Kd.R_mono (Kd.R_far (p := ⟨gb297, 2, none⟩) (Kd.R_far (p := ⟨gb297, 1, none⟩) (Kd.R_far (p := ⟨gb297, 0, none⟩) (Kd.R_types HO_8.out BK297.out (by decide)) (fun _ hk => hk.2) (.string t289)) (fun _ hk => hk.2) (.int .i64 t293)) (fun _ hk => hk.2) (.string (⟨#[]⟩ : ByteArray))) (fun _ h_ => h_.1))) (by decide)) hk (fun _ h => h.2)) (fun _ h => h.1)); have n2_ := Aside0.mk (KeepBut.blk hk (g' := gb297) (o := .cells #[.string t289, .int .i64 t293, .string (⟨#[]⟩ : ByteArray)] 33 (0, 0)) (by (with_reducible repeat (first | refine blk_drewN ?_ _ | refine blk_drew ?_ | refine blk_alloc ?_ _)); refine blk_put (cs := #[.string t289, .int .i64 t293, .string (⟨#[]⟩ : ByteArray)]) ?_ 2 _ rfl; (with_reducible repeat (first | refine blk_drewN ?_ _ | refine blk_drew ?_ | refine blk_alloc ?_ _)); refine blk_put (cs := #[.string t289, .int .i64 0, .string (⟨#[]⟩ : ByteArray)]) ?_ 1 _ rfl; (with_reducible repeat (first | refine blk_drewN ?_ _ | refine blk_drew ?_ | refine blk_alloc ?_ _)); refine blk_put (cs := #[.string (⟨#[]⟩ : ByteArray), .int .i64 0, .string (⟨#[]⟩ : ByteArray)]) ?_ 0 _ rfl; (with_reducible repeat (first | refine blk_drewN ?_ _ | refine blk_drew ?_ | refine blk_alloc ?_ _)); exact BK297.out) NB297_284.out (by simp)); have n3_ := Aside0.mk (hb); have n4_ := Aside0.mk (hi); clear HO_7; clear HO_8; clear BK297; clear HB; clear HI284; have HO_7 := n0_; have HO_8 := n1_; have BK297 := n2_; have HB := n3_; have HI284 := n4_; clear n0_ n1_ n2_ n3_ n4_; (try clear hb); (try clear hb2); (try clear hk); (try clear hi)) | ((with_reducible refine gate_callee (f := 58) rfl ?_); refine goesL_ (some 27) rfl rfl Tryd.func58 (by kernel_rfl) rfl #[.pointer (some ⟨g284, 0, none⟩)] rfl (by (try simp only [List.map_toArray, List.map_cons, List.map_nil]); first | done | rfl | (simp only [List.length_drop, List.length_take]; rfl)) ?_; (with_reducible refine (code_Reader_Err.calls g284 t299 t300 t301 t302 t303 t304 t305 w _ ?side1 ?side2 A10.out).mono ?_); (case side1 => repeat (first | (with_reducible first | exact HI284.out | apply IsS102.alloc | apply IsS102.drewN | apply IsS102.drew | apply IsS102.set_0 | apply IsS102.set_1 | apply IsS102.set_2) | refine IsS102.far ?_ NB284_297.out _ | exact HI284.out)); (case side2 => repeat (first | (with_reducible first | exact HB.out | apply below_alloc | apply pw_below_drewN | apply below_drew1 | refine below_set ?_ (IsS102.ge HI284.out) | refine below_set ?_ GE297.out) | exact HB.out)); rintro e w20 ⟨rfl, hi, hb, hk⟩; refine ⟨_, rfl, ?_⟩; have n0_ := Aside0.mk (Kd.R_mono (Kd.R_keep (IsS102.apart (show IsS102 w _ g284 t299 t300 t301 from by repeat (first | (with_reducible first | exact HI284.out | apply IsS102.alloc | apply IsS102.drewN | apply IsS102.drew | apply IsS102.set_0 | apply IsS102.set_1 | apply IsS102.set_2) | refine IsS102.far ?_ NB284_297.out _ | exact HI284.out)) (by (with_reducible repeat (first | apply Kd.R_alloc | apply Kd.R_drewN | apply Kd.R_drew)); exact HO_7.out) (by decide)) hk (fun _ h => h.2)) (fun _ h => h.1)); have n1_ := Aside0.mk (Kd.R_mono (Kd.R_keep (IsS102.apart (show IsS102 w _ g284 t299 t300 t301 from by repeat (first | (with_reducible first | exact HI284.out | apply IsS102.alloc | apply IsS102.drewN | apply IsS102.drew | apply IsS102.set_0 | apply IsS102.set_1 | apply IsS102.set_2) | refine IsS102.far ?_ NB284_297.out _ | exact HI284.out)) (by (with_reducible repeat (first | apply Kd.R_alloc | apply Kd.R_drewN | apply Kd.R_drew)); exact HO_8.out) (by decide)) hk (fun _ h => h.2)) (fun _ h => h.1)); have n2_ := Aside0.mk (KeepBut.blk hk (g' := gb297) (o := .cells #[.string t289, .int .i64 t293, .string (⟨#[]⟩ : ByteArray)] 33 (0, 0)) (by (with_reducible repeat (first | refine blk_drewN ?_ _ | refine blk_drew ?_ | refine blk_alloc ?_ _)); exact BK297.out) NB297_284.out (by simp)); have n3_ := Aside0.mk (hb); have n4_ := Aside0.mk (hi); clear HO_7; clear HO_8; clear BK297; clear HB; clear HI284; have HO_7 := n0_; have HO_8 := n1_; have BK297 := n2_; have HB := n3_; have HI284 := n4_; clear n0_ n1_ n2_ n3_ n4_; (try clear hb); (try clear hb2); (try clear hk); (try clear hi); have hcz21_0 : w20.cell? ⟨gb297, 0, none⟩ = some (.string t289) := (blk_cell BK297.out 0).trans rfl; have hcz21_1 : w20.cell? ⟨gb297, 1, none⟩ = some (.int .i64 t293) := (blk_cell BK297.out 1).trans rfl; have hcz21_2 : w20.cell? ⟨gb297, 2, none⟩ = some (.string (⟨#[]⟩ : ByteArray)) := (blk_cell BK297.out 2).trans rfl; have hfz21_0 := blk_frozen BK297.out 0; have hfz21_1 := blk_frozen BK297.out 1; have hfz21_2 := blk_frozen BK297.out 2) | ((with_reducible refine gate_builtin (b := .append) (xs := #[.tmp 31, .tmp 33]) rfl ?_); at_builtin; refine Kd.R_append k33 (w0 := w) w.heap.size rfl (.tmp 31) (.tmp 33) 22 33 (.agg #[(.string ⟨#[]⟩), (.int .i64 0), (.string ⟨#[]⟩)]) 40 rfl Tryd.underlying22 info33 rfl (by decide) (by omega) u7 x7_1 (⟨t289, t293, (⟨#[]⟩ : ByteArray)⟩ : S33) [.string t289, .int .i64 t293, .string (⟨#[]⟩ : ByteArray)] (fun k_ => k_ ≠ gb297) (fun _ => False) rfl rfl ?aP (fun _ hk => hk.elim) ?aF ?aO ?aB ?aS ?aL ?_; (case aP => exact k33_mkM _ _ _ (⟨t289, t293, (⟨#[]⟩ : ByteArray)⟩ : S33)); (case aB => exact (by repeat (first | (with_reducible first | exact HB.out | apply below_alloc | apply pw_below_drewN | apply below_drew1 | refine below_set ?_ (IsS102.ge HI284.out) | refine below_set ?_ GE297.out) | exact HB.out))); (case aF => exact (fun k_ hk => Kd.freshB (g := gb297) (o := .cells #[.string t289, .int .i64 t293, .string (⟨#[]⟩ : ByteArray)] 33 (0, 0)) (by (with_reducible repeat (first | refine blk_drewN ?_ _ | refine blk_drew ?_ | refine blk_alloc ?_ _)); exact BK297.out) k_ hk)); (case aO => exact (by (with_reducible repeat (first | apply Kd.R_alloc | apply Kd.R_drewN | apply Kd.R_drew)); exact Kd.R_mono HO_7.out (fun _ hk => hk.2))); (case aS => exact (below_size (by repeat (first | (with_reducible first | exact HB.out | apply below_alloc | apply pw_below_drewN | apply below_drew1 | refine below_set ?_ (IsS102.ge HI284.out) | refine below_set ?_ GE297.out) | exact HB.out)))); (case aL => have := LMc12.out; omega); intro v307 w22 ho hb hg hat; rw [← Ny306.out] at ho; have n0_ := Aside0.mk (Kd.R_over' (by (with_reducible repeat (first | apply Kd.R_alloc | apply Kd.R_drewN | apply Kd.R_drew)); exact HO_8.out) (Kd.R_typed (by (with_reducible repeat (first | apply Kd.R_alloc | apply Kd.R_drewN | apply Kd.R_drew)); exact HO_7.out)) (by decide) hg); have n1_ := Aside0.mk (IsS102.grown (by repeat (first | (with_reducible first | exact HI284.out | apply IsS102.alloc | apply IsS102.drewN | apply IsS102.drew | apply IsS102.set_0 | apply IsS102.set_1 | apply IsS102.set_2) | refine IsS102.far ?_ NB284_297.out _ | exact HI284.out)) hg (IsS102.own_ne HI284.out HO_7.out (by decide))); have n2_ := Aside0.mk (blk_grown (g := gb297) (o := .cells #[.string t289, .int .i64 t293, .string (⟨#[]⟩ : ByteArray)] 33 (0, 0)) (by (with_reducible repeat (first | refine blk_drewN ?_ _ | refine blk_drew ?_ | refine blk_alloc ?_ _)); exact BK297.out) hg (Kd.R_away HO_7.out (fun _ hk => hk.2))); have n3_ := Aside0.mk (hb); have n4_ := Aside0.mk (ho); clear HO_8; clear HI284; clear BK297; clear HB; clear HO_7; have HO_8 := n0_; have HI284 := n1_; have BK297 := n2_; have HB := n3_; have HO308 := n4_; clear n0_ n1_ n2_ n3_ n4_; clear ho hb hg hat) | ((with_reducible refine gate_builtin (b := .append) (xs := #[.tmp 35, .tmp 37]) rfl ?_); at_builtin; refine Kd.R_append (Kd.int .i64) (w0 := w) w.heap.size rfl (.tmp 35) (.tmp 37) 66 3 (.int .i64 0) 8 rfl Tryd.underlying66 info3 rfl (by decide) (by omega) u8 x8_1 t298 [.int .i64 t298] (fun _ => True) (fun _ => False) rfl rfl ?aP (fun _ hk => hk.elim) ?aF ?aO ?aB ?aS ?aL ?_; (case aP => exact rfl); (case aB => exact (by repeat (first | (with_reducible first | exact HB.out | apply below_alloc | apply pw_below_drewN | apply below_drew1 | refine below_set ?_ (IsS102.ge HI284.out) | refine below_set ?_ GE297.out) | exact HB.out))); (case aF => exact (fun _ _ => trivial)); (case aO => exact (by (with_reducible repeat (first | apply Kd.R_alloc | apply Kd.R_drewN | apply Kd.R_drew)); exact HO_8.out)); (case aS => exact (below_size (by repeat (first | (with_reducible first | exact HB.out | apply below_alloc | apply pw_below_drewN | apply below_drew1 | refine below_set ?_ (IsS102.ge HI284.out) | refine below_set ?_ GE297.out) | exact HB.out)))); (case aL => have := LMc13.out; omega); intro v310 w23 ho hb hg hat; rw [← Ny309.out] at ho; have n0_ := Aside0.mk (IsS102.grown (by repeat (first | (with_reducible first | exact HI284.out | apply IsS102.alloc | apply IsS102.drewN | apply IsS102.drew | apply IsS102.set_0 | apply IsS102.set_1 | apply IsS102.set_2) | refine IsS102.far ?_ NB284_297.out _ | exact HI284.out)) hg (IsS102.own_ne HI284.out HO_8.out (by decide))); have n1_ := Aside0.mk (blk_grown (g := gb297) (o := .cells #[.string t289, .int .i64 t293, .string (⟨#[]⟩ : ByteArray)] 33 (0, 0)) (by (with_reducible repeat (first | refine blk_drewN ?_ _ | refine blk_drew ?_ | refine blk_alloc ?_ _)); exact BK297.out) hg (Kd.R_ne HO_8.out BK297.out (by decide))); have n2_ := Aside0.mk (Kd.R_over' (by (with_reducible repeat (first | apply Kd.R_alloc | apply Kd.R_drewN | apply Kd.R_drew)); exact HO308.out) (Kd.R_typed (by (with_reducible repeat (first | apply Kd.R_alloc | apply Kd.R_drewN | apply Kd.R_drew)); exact HO_8.out)) (by decide) hg); have n3_ := Aside0.mk (hb); have n4_ := Aside0.mk (ho); clear HI284; clear BK297; clear HO308; clear HB; clear HO_8; have HI284 := n0_; have BK297 := n1_; have HO308 := n2_; have HB := n3_; have HO311 := n4_; clear n0_ n1_ n2_ n3_ n4_; clear ho hb hg hat))
              go_roundg k1
              case measure => have := HK1.out; omega
              case rel => exact ⟨(y306), (y309), (wrap64 (x17_1 + 1)), (t303), (t304), (t305), (by first | rfl | (simp; done) | (simp [*]; done)), H', ⟨by have := HK1.out; omega⟩, ⟨by (with_reducible repeat (first | apply Kd.R_alloc | apply Kd.R_drewN | apply Kd.R_drew)); exact Kd.R_mono HO308.out (fun _ hk => trivial)⟩, ⟨by (with_reducible repeat (first | apply Kd.R_alloc | apply Kd.R_drewN | apply Kd.R_drew)); exact HO311.out⟩, ⟨by repeat (first | (with_reducible first | exact HI284.out | apply IsS102.alloc | apply IsS102.drewN | apply IsS102.drew | apply IsS102.set_0 | apply IsS102.set_1 | apply IsS102.set_2) | refine IsS102.far ?_ NB284_297.out _ | exact HI284.out)⟩, ⟨by repeat (first | (with_reducible first | exact HB.out | apply below_alloc | apply pw_below_drewN | apply below_drew1 | refine below_set ?_ (IsS102.ge HI284.out) | refine below_set ?_ GE297.out) | exact HB.out)⟩⟩
            · rw [if_neg c13] at H
              exact absurd H (by simp)
          · rw [if_neg c12] at H
            exact absurd H (by simp)
        · rw [if_neg c11] at H
          have c11b0 : (t302 == 0) = false := beq_eq_false_iff_ne.mpr c11
          have c11b1 : (t302 != 0) = true := bne_iff_ne.mpr c11
          replace H := Option.bind_eq_some_iff.mp H
          obtain ⟨⟨t312, t313, t314, t315⟩, A240, H⟩ := H
          replace H : (some (([] : List (S33)), ([] : List Int), 0, t312)) = some (r1, r2, r3, r4) := H
          have A24 := Aside0.mk A240
          clear A240
          simp only [Option.some.injEq, Prod.mk.injEq] at H
          obtain ⟨rfl, rfl, rfl, rfl⟩ := H
          go_wp2_with (first | ((with_reducible refine gate_callee (f := 56) rfl ?_); refine goesL_ (some 20) rfl rfl Tryd.func56 (by kernel_rfl) rfl #[.pointer (some ⟨g284, 0, none⟩), .int .i64 200] rfl (by (try simp only [List.map_toArray, List.map_cons, List.map_nil]); first | done | rfl | (simp only [List.length_drop, List.length_take]; rfl)) ?_; (with_reducible refine (code_Reader_Text.calls k1 g284 x285000_1 x285001_1 x285002_1 200 t289 t290 t291 t292 w _ ?side1 ?side2 A7.out).mono ?_); (case side1 => repeat (first | (with_reducible first | exact HI284.out | apply IsS102.alloc | apply IsS102.drewN | apply IsS102.drew | apply IsS102.set_0 | apply IsS102.set_1 | apply IsS102.set_2) | exact HI284.out)); (case side2 => repeat (first | (with_reducible first | exact HB.out | apply below_alloc | apply pw_below_drewN | apply below_drew1 | refine below_set ?_ (IsS102.ge HI284.out)) | exact HB.out)); rintro e w25 ⟨rfl, hi, hb, hk⟩; refine ⟨_, rfl, ?_⟩; have n0_ := Aside0.mk (Kd.R_mono (Kd.R_keep (IsS102.apart (show IsS102 w _ g284 x285000_1 x285001_1 x285002_1 from by repeat (first | (with_reducible first | exact HI284.out | apply IsS102.alloc | apply IsS102.drewN | apply IsS102.drew | apply IsS102.set_0 | apply IsS102.set_1 | apply IsS102.set_2) | exact HI284.out)) (by (with_reducible repeat (first | apply Kd.R_alloc | apply Kd.R_drewN | apply Kd.R_drew)); exact HO_7.out) (by decide)) hk (fun _ h => h.2)) (fun _ h => h.1)); have n1_ := Aside0.mk (Kd.R_mono (Kd.R_keep (IsS102.apart (show IsS102 w _ g284 x285000_1 x285001_1 x285002_1 from by repeat (first | (with_reducible first | exact HI284.out | apply IsS102.alloc | apply IsS102.drewN | apply IsS102.drew | apply IsS102.set_0 | apply IsS102.set_1 | apply IsS102.set_2) | exact HI284.out)) (by (with_reducible repeat (first | apply Kd.R_alloc | apply Kd.R_drewN | apply Kd.R_drew)); exact HO_8.out) (by decide)) hk (fun _ h => h.2)) (fun _ h => h.1)); have n2_ := Aside0.mk (hb); have n3_ := Aside0.mk (hi); clear HO_7; clear HO_8; clear HB; clear HI284; have HO_7 := n0_; have HO_8 := n1_; have HB := n2_; have HI284 := n3_; clear n0_ n1_ n2_ n3_; (try clear hb); (try clear hb2); (try clear hk); (try clear hi)) | ((with_reducible refine gate_callee (f := 57) rfl ?_); refine goesL_ (some 22) rfl rfl Tryd.func57 (by kernel_rfl) rfl #[.pointer (some ⟨g284, 0, none⟩)] rfl (by (try simp only [List.map_toArray, List.map_cons, List.map_nil]); first | done | rfl | (simp only [List.length_drop, List.length_take]; rfl)) ?_; (with_reducible refine (code_Reader_Num.calls k1 g284 t290 t291 t292 t293 t294 t295 t296 w _ ?side1 ?side2 A8.out).mono ?_); (case side1 => repeat (first | (with_reducible first | exact HI284.out | apply IsS102.alloc | apply IsS102.drewN | apply IsS102.drew | apply IsS102.set_0 | apply IsS102.set_1 | apply IsS102.set_2) | exact HI284.out)); (case side2 => repeat (first | (with_reducible first | exact HB.out | apply below_alloc | apply pw_below_drewN | apply below_drew1 | refine below_set ?_ (IsS102.ge HI284.out)) | exact HB.out)); rintro e w26 ⟨rfl, hi, hb, hk⟩; refine ⟨_, rfl, ?_⟩; have n0_ := Aside0.mk (Kd.R_mono (Kd.R_keep (IsS102.apart (show IsS102 w _ g284 t290 t291 t292 from by repeat (first | (with_reducible first | exact HI284.out | apply IsS102.alloc | apply IsS102.drewN | apply IsS102.drew | apply IsS102.set_0 | apply IsS102.set_1 | apply IsS102.set_2) | exact HI284.out)) (by (with_reducible repeat (first | apply Kd.R_alloc | apply Kd.R_drewN | apply Kd.R_drew)); exact HO_7.out) (by decide)) hk (fun _ h => h.2)) (fun _ h => h.1)); have n1_ := Aside0.mk (Kd.R_mono (Kd.R_keep (IsS102.apart (show IsS102 w _ g284 t290 t291 t292 from by repeat (first | (with_reducible first | exact HI284.out | apply IsS102.alloc | apply IsS102.drewN | apply IsS102.drew | apply IsS102.set_0 | apply IsS102.set_1 | apply IsS102.set_2) | exact HI284.out)) (by (with_reducible repeat (first | apply Kd.R_alloc | apply Kd.R_drewN | apply Kd.R_drew)); exact HO_8.out) (by decide)) hk (fun _ h => h.2)) (fun _ h => h.1)); have n2_ := Aside0.mk (hb); have n3_ := Aside0.mk (hi); clear HO_7; clear HO_8; clear HB; clear HI284; have HO_7 := n0_; have HO_8 := n1_; have HB := n2_; have HI284 := n3_; clear n0_ n1_ n2_ n3_; (try clear hb); (try clear hb2); (try clear hk); (try clear hi)) | ((with_reducible refine gate_dst (N := 9) rfl ?_); refine box_event ?hg (N := 9) ?hd (cs := #[.string (⟨#[]⟩ : ByteArray), .int .i64 0, .string (⟨#[]⟩ : ByteArray)]) (t := 33) ?hr ?_; (case hd => rfl); (case hg => rfl); (case hr => first | (go_simp; done) | (go_simp; rfl)); intro gb297 hg w27 hbox hb; have n0_ := Aside0.mk (Kd.R_below (Kd.R_elderB (by (with_reducible repeat (first | apply Kd.R_alloc | apply Kd.R_drewN | apply Kd.R_drew)); exact HO_7.out) gb297 (Nat.le_of_eq hg.symm)) hb); have n1_ := Aside0.mk (Kd.R_below (by (with_reducible repeat (first | apply Kd.R_alloc | apply Kd.R_drewN | apply Kd.R_drew)); exact HO_8.out) hb); have n2_ := Aside0.mk (IsS102.below (by repeat (first | (with_reducible first | exact HI284.out | apply IsS102.alloc | apply IsS102.drewN | apply IsS102.drew | apply IsS102.set_0 | apply IsS102.set_1 | apply IsS102.set_2) | exact HI284.out)) hb); have n3_ := Aside0.mk (below_step (by repeat (first | (with_reducible first | exact HB.out | apply below_alloc | apply pw_below_drewN | apply below_drew1 | refine below_set ?_ (IsS102.ge HI284.out)) | exact HB.out)) hb); have n4_ := Aside0.mk (hbox); have n5_ := Aside0.mk ((by rw [hg]; exact (below_size (by repeat (first | (with_reducible first | exact HB.out | apply below_alloc | apply pw_below_drewN | apply below_drew1 | refine below_set ?_ (IsS102.ge HI284.out)) | exact HB.out))) : w.heap.size ≤ gb297)); have n6_ := Aside0.mk ((by rw [hg]; exact (below_size (by repeat (first | (with_reducible first | exact HB.out | apply below_alloc | apply pw_below_drewN | apply below_drew1 | refine below_set ?_ (IsS102.ge HI284.out)) | exact HB.out))) : w.heap.size ≤ gb297)); have n7_ := Aside0.mk ((by rw [hg]; exact Nat.ne_of_lt (IsS102.lt (show IsS102 w _ g284 t294 t295 t296 from by repeat (first | (with_reducible first | exact HI284.out | apply IsS102.alloc | apply IsS102.drewN | apply IsS102.drew | apply IsS102.set_0 | apply IsS102.set_1 | apply IsS102.set_2) | exact HI284.out))) : g284 ≠ gb297)); have n8_ := Aside0.mk ((by rw [hg]; exact Nat.ne_of_gt (IsS102.lt (show IsS102 w _ g284 t294 t295 t296 from by repeat (first | (with_reducible first | exact HI284.out | apply IsS102.alloc | apply IsS102.drewN | apply IsS102.drew | apply IsS102.set_0 | apply IsS102.set_1 | apply IsS102.set_2) | exact HI284.out))) : gb297 ≠ g284)); clear HO_7; clear HO_8; clear HI284; clear HB; have HO_7 := n0_; have HO_8 := n1_; have HI284 := n2_; have HB := n3_; have BK297 := n4_; have GW297 := n5_; have GE297 := n6_; have NB284_297 := n7_; have NB297_284 := n8_; clear n0_ n1_ n2_ n3_ n4_ n5_ n6_ n7_ n8_; clear hb hbox hg; have hnb28 := NB297_284.out; have hnc28 := NB284_297.out; have hcz29_0 : w27.cell? ⟨gb297, 0, none⟩ = some (.string (⟨#[]⟩ : ByteArray)) := (blk_cell BK297.out 0).trans rfl; have hcz29_1 : w27.cell? ⟨gb297, 1, none⟩ = some (.int .i64 0) := (blk_cell BK297.out 1).trans rfl; have hcz29_2 : w27.cell? ⟨gb297, 2, none⟩ = some (.string (⟨#[]⟩ : ByteArray)) := (blk_cell BK297.out 2).trans rfl; have hfz29_0 := blk_frozen BK297.out 0; have hfz29_1 := blk_frozen BK297.out 1; have hfz29_2 := blk_frozen BK297.out 2) | ((with_reducible refine gate_callee (f := 55) rfl ?_); refine goesL_ (some 25) rfl rfl Tryd.func55 (by kernel_rfl) rfl #[.pointer (some ⟨g284, 0, none⟩), .int .i64 65536] rfl (by (try simp only [List.map_toArray, List.map_cons, List.map_nil]); first | done | rfl | (simp only [List.length_drop, List.length_take]; rfl)) ?_; (with_reducible refine (code_Reader_Count.calls k1 g284 t294 t295 t296 65536 t298 t299 t300 t301 w _ ?side1 ?side2 A9.out).mono ?_); (case side1 => repeat (first | (with_reducible first | exact HI284.out | apply IsS102.alloc | apply IsS102.drewN | apply IsS102.drew | apply IsS102.set_0 | apply IsS102.set_1 | apply IsS102.set_2) | refine IsS102.far ?_ NB284_297.out _ | exact HI284.out)); (case side2 => repeat (first | (with_reducible first | exact HB.out | apply below_alloc | apply pw_below_drewN | apply below_drew1 | refine below_set ?_ (IsS102.ge HI284.out) | refine below_set ?_ GE297.out) | exact HB.out)); rintro e w30 ⟨rfl, hi, hb, hk⟩; refine ⟨_, rfl, ?_⟩; have n0_ := Aside0.mk (Kd.R_mono (Kd.R_keep (IsS102.apart (show IsS102 w _ g284 t294 t295 t296 from by repeat (first | (with_reducible first | exact HI284.out | apply IsS102.alloc | apply IsS102.drewN | apply IsS102.drew | apply IsS102.set_0 | apply IsS102.set_1 | apply IsS102.set_2) | refine IsS102.far ?_ NB284_297.out _ | exact HI284.out)) (by (with_reducible repeat (first | apply Kd.R_alloc | apply Kd.R_drewN | apply Kd.R_drew)); exact (Kd.R_mono (Kd.R_far (p := ⟨gb297, 2, none⟩) (Kd.R_far (p := ⟨gb297, 1, none⟩) (Kd.R_far (p := ⟨gb297, 0, none⟩) (Kd.R_mono HO_7.out (fun k_ hk => (⟨hk, hk.2⟩ : _ ∧ k_ ≠ gb297))) (fun _ hk => hk.2) (.string t289)) (fun _ hk => hk.2) (.int .i64 t293)) (fun _ hk => hk.2) (.string (⟨#[]⟩ : ByteArray))) (fun _ h_ => h_.1))) (by decide)) hk (fun _ h => h.2)) (fun _ h => h.1)); have n1_ := Aside0.mk (Kd.R_mono (Kd.R_keep (IsS102.apart (show IsS102 w _ g284 t294 t295 t296 from by repeat (first | (with_reducible first | exact HI284.out | apply IsS102.alloc | apply IsS102.drewN | apply IsS102.drew | apply IsS102.set_0 | apply IsS102.set_1 | apply IsS102.set_2) | refine IsS102.far ?_ NB284_297.out _ | exact HI284.out)) (by (with_reducible repeat (first | apply Kd.R_alloc | apply Kd.R_drewN | apply Kd.R_drew)); exact (Kd.R_mono (Kd.R_far (p := ⟨gb297, 2, none⟩) (Kd.R_far (p := ⟨gb297, 1, none⟩) (Kd.R_far (p := ⟨gb297, 0, none⟩) (Kd.R_types HO_8.out BK297.out (by decide)) (fun _ hk => hk.2) (.string t289)) (fun _ hk => hk.2) (.int .i64 t293)) (fun _ hk => hk.2) (.string (⟨#[]⟩ : ByteArray))) (fun _ h_ => h_.1))) (by decide)) hk (fun _ h => h.2)) (fun _ h => h.1)); have n2_ := Aside0.mk (KeepBut.blk hk (g' := gb297) (o := .cells #[.string t289, .int .i64 t293, .string (⟨#[]⟩ : ByteArray)] 33 (0, 0)) (by (with_reducible repeat (first | refine blk_drewN ?_ _ | refine blk_drew ?_ | refine blk_alloc ?_ _)); refine blk_put (cs := #[.string t289, .int .i64 t293, .string (⟨#[]⟩ : ByteArray)]) ?_ 2 _ rfl; (with_reducible repeat (first | refine blk_drewN ?_ _ | refine blk_drew ?_ | refine blk_alloc ?_ _)); refine blk_put (cs := #[.string t289, .int .i64 0, .string (⟨#[]⟩ : ByteArray)]) ?_ 1 _ rfl; (with_reducible repeat (first | refine blk_drewN ?_ _ | refine blk_drew ?_ | refine blk_alloc ?_ _)); refine blk_put (cs := #[.string (⟨#[]⟩ : ByteArray), .int .i64 0, .string (⟨#[]⟩ : ByteArray)]) ?_ 0 _ rfl; (with_reducible repeat (first | refine blk_drewN ?_ _ | refine blk_drew ?_ | refine blk_alloc ?_ _)); exact BK297.out) NB297_284.out (by simp)); have n3_ := Aside0.mk (hb); have n4_ := Aside0.mk (hi); clear HO_7; clear HO_8; clear BK297; clear HB; clear HI284; have HO_7 := n0_; have HO_8 := n1_; have BK297 := n2_; have HB := n3_; have HI284 := n4_; clear n0_ n1_ n2_ n3_ n4_; (try clear hb); (try clear hb2); (try clear hk); (try clear hi)) | ((with_reducible refine gate_callee (f := 58) rfl ?_); refine goesL_ (some 27) rfl rfl Tryd.func58 (by kernel_rfl) rfl #[.pointer (some ⟨g284, 0, none⟩)] rfl (by (try simp only [List.map_toArray, List.map_cons, List.map_nil]); first | done | rfl | (simp only [List.length_drop, List.length_take]; rfl)) ?_; (with_reducible refine (code_Reader_Err.calls g284 t299 t300 t301 t302 t303 t304 t305 w _ ?side1 ?side2 A10.out).mono ?_); (case side1 => repeat (first | (with_reducible first | exact HI284.out | apply IsS102.alloc | apply IsS102.drewN | apply IsS102.drew | apply IsS102.set_0 | apply IsS102.set_1 | apply IsS102.set_2) | refine IsS102.far ?_ NB284_297.out _ | exact HI284.out)); (case side2 => repeat (first | (with_reducible first | exact HB.out | apply below_alloc | apply pw_below_drewN | apply below_drew1 | refine below_set ?_ (IsS102.ge HI284.out) | refine below_set ?_ GE297.out) | exact HB.out)); rintro e w31 ⟨rfl, hi, hb, hk⟩; refine ⟨_, rfl, ?_⟩; have n0_ := Aside0.mk (Kd.R_mono (Kd.R_keep (IsS102.apart (show IsS102 w _ g284 t299 t300 t301 from by repeat (first | (with_reducible first | exact HI284.out | apply IsS102.alloc | apply IsS102.drewN | apply IsS102.drew | apply IsS102.set_0 | apply IsS102.set_1 | apply IsS102.set_2) | refine IsS102.far ?_ NB284_297.out _ | exact HI284.out)) (by (with_reducible repeat (first | apply Kd.R_alloc | apply Kd.R_drewN | apply Kd.R_drew)); exact HO_7.out) (by decide)) hk (fun _ h => h.2)) (fun _ h => h.1)); have n1_ := Aside0.mk (Kd.R_mono (Kd.R_keep (IsS102.apart (show IsS102 w _ g284 t299 t300 t301 from by repeat (first | (with_reducible first | exact HI284.out | apply IsS102.alloc | apply IsS102.drewN | apply IsS102.drew | apply IsS102.set_0 | apply IsS102.set_1 | apply IsS102.set_2) | refine IsS102.far ?_ NB284_297.out _ | exact HI284.out)) (by (with_reducible repeat (first | apply Kd.R_alloc | apply Kd.R_drewN | apply Kd.R_drew)); exact HO_8.out) (by decide)) hk (fun _ h => h.2)) (fun _ h => h.1)); have n2_ := Aside0.mk (KeepBut.blk hk (g' := gb297) (o := .cells #[.string t289, .int .i64 t293, .string (⟨#[]⟩ : ByteArray)] 33 (0, 0)) (by (with_reducible repeat (first | refine blk_drewN ?_ _ | refine blk_drew ?_ | refine blk_alloc ?_ _)); exact BK297.out) NB297_284.out (by simp)); have n3_ := Aside0.mk (hb); have n4_ := Aside0.mk (hi); clear HO_7; clear HO_8; clear BK297; clear HB; clear HI284; have HO_7 := n0_; have HO_8 := n1_; have BK297 := n2_; have HB := n3_; have HI284 := n4_; clear n0_ n1_ n2_ n3_ n4_; (try clear hb); (try clear hb2); (try clear hk); (try clear hi)) | ((with_reducible refine gate_callee (f := 58) rfl ?_); refine goesL_ (some 30) rfl rfl Tryd.func58 (by kernel_rfl) rfl #[.pointer (some ⟨g284, 0, none⟩)] rfl (by (try simp only [List.map_toArray, List.map_cons, List.map_nil]); first | done | rfl | (simp only [List.length_drop, List.length_take]; rfl)) ?_; (with_reducible refine (code_Reader_Err.calls g284 t303 t304 t305 t312 t313 t314 t315 w _ ?side1 ?side2 A24.out).mono ?_); (case side1 => repeat (first | (with_reducible first | exact HI284.out | apply IsS102.alloc | apply IsS102.drewN | apply IsS102.drew | apply IsS102.set_0 | apply IsS102.set_1 | apply IsS102.set_2) | refine IsS102.far ?_ NB284_297.out _ | exact HI284.out)); (case side2 => repeat (first | (with_reducible first | exact HB.out | apply below_alloc | apply pw_below_drewN | apply below_drew1 | refine below_set ?_ (IsS102.ge HI284.out) | refine below_set ?_ GE297.out) | exact HB.out)); rintro e w32 ⟨rfl, hi, hb, hk⟩; refine ⟨_, rfl, ?_⟩; have n0_ := Aside0.mk (Kd.R_mono (Kd.R_keep (IsS102.apart (show IsS102 w _ g284 t303 t304 t305 from by repeat (first | (with_reducible first | exact HI284.out | apply IsS102.alloc | apply IsS102.drewN | apply IsS102.drew | apply IsS102.set_0 | apply IsS102.set_1 | apply IsS102.set_2) | refine IsS102.far ?_ NB284_297.out _ | exact HI284.out)) (by (with_reducible repeat (first | apply Kd.R_alloc | apply Kd.R_drewN | apply Kd.R_drew)); exact HO_7.out) (by decide)) hk (fun _ h => h.2)) (fun _ h => h.1)); have n1_ := Aside0.mk (Kd.R_mono (Kd.R_keep (IsS102.apart (show IsS102 w _ g284 t303 t304 t305 from by repeat (first | (with_reducible first | exact HI284.out | apply IsS102.alloc | apply IsS102.drewN | apply IsS102.drew | apply IsS102.set_0 | apply IsS102.set_1 | apply IsS102.set_2) | refine IsS102.far ?_ NB284_297.out _ | exact HI284.out)) (by (with_reducible repeat (first | apply Kd.R_alloc | apply Kd.R_drewN | apply Kd.R_drew)); exact HO_8.out) (by decide)) hk (fun _ h => h.2)) (fun _ h => h.1)); have n2_ := Aside0.mk (KeepBut.blk hk (g' := gb297) (o := .cells #[.string t289, .int .i64 t293, .string (⟨#[]⟩ : ByteArray)] 33 (0, 0)) (by (with_reducible repeat (first | refine blk_drewN ?_ _ | refine blk_drew ?_ | refine blk_alloc ?_ _)); exact BK297.out) NB297_284.out (by simp)); have n3_ := Aside0.mk (hb); have n4_ := Aside0.mk (hi); clear HO_7; clear HO_8; clear BK297; clear HB; clear HI284; have HO_7 := n0_; have HO_8 := n1_; have BK297 := n2_; have HB := n3_; have HI284 := n4_; clear n0_ n1_ n2_ n3_ n4_; (try clear hb); (try clear hb2); (try clear hk); (try clear hi)))
          refine bodyPost_ret (results_list (rs := [.tmp 2, .tmp 3, .tmp 4, .tmp 5]) rfl (by simp) (.tmp (.tmp (.tmp (.tmp .nil))))) rfl ?_
          exact ⟨_, _, by first | rfl | (simp [errW_none, errW_some] <;> rfl) | (simp [*, errW_none, errW_some] <;> rfl), by first | exact Kd.R_nil _ _ _ _ _ | exact Kd.N_nil _ _ _ _ _ | exact Kd.V_nil _ _ _ _ _ | exact Kd.Q_nil _ _ _ _ _ | exact Kd.S_nil _ _ _ _ _, by first | exact Kd.R_nil _ _ _ _ _ | exact Kd.N_nil _ _ _ _ _ | exact Kd.V_nil _ _ _ _ _ | exact Kd.Q_nil _ _ _ _ _ | exact Kd.S_nil _ _ _ _ _, by repeat (first | (with_reducible first | exact HB.out | apply below_alloc | apply pw_below_drewN | apply below_drew1 | refine below_set ?_ (IsS102.ge HI284.out) | refine below_set ?_ GE297.out) | exact HB.out)⟩
      · rw [if_neg c6] at H
        have c6b0 : decide (x17_1 < t285) = false := decide_eq_false c6
        clear c6
        replace H := Option.bind_eq_some_iff.mp H
        obtain ⟨⟨t316, t317, t318, t319⟩, A330, H⟩ := H
        replace H : (if t316 = 0 then ((tree_Check.f k1 x7_1).bind fun t320 => (if t320 = 0 then ((code_Reader_Left.f t317 t318 t319).bind fun bt321 => (some (x7_1, x8_1, wrap64 ((a0.size : Int) - bt321.1), 0))) else (some (([] : List (S33)), ([] : List Int), 0, t320)))) else (some (([] : List (S33)), ([] : List Int), 0, t316))) = some (r1, r2, r3, r4) := H
        have A33 := Aside0.mk A330
        clear A330
        by_cases c34 : t316 = 0
        · rw [if_pos c34] at H
          have c34b0 : (t316 == 0) = true := beq_iff_eq.mpr c34
          have c34b1 : (t316 != 0) = false := bne_eq_false_iff_eq.mpr c34
          clear c34
          replace H := Option.bind_eq_some_iff.mp H
          obtain ⟨t320, A350, H⟩ := H
          replace H : (if t320 = 0 then ((code_Reader_Left.f t317 t318 t319).bind fun bt321 => (some (x7_1, x8_1, wrap64 ((a0.size : Int) - bt321.1), 0))) else (some (([] : List (S33)), ([] : List Int), 0, t320))) = some (r1, r2, r3, r4) := H
          have A35 := Aside0.mk A350
          clear A350
          by_cases c36 : t320 = 0
          · rw [if_pos c36] at H
            have c36b0 : (t320 == 0) = true := beq_iff_eq.mpr c36
            have c36b1 : (t320 != 0) = false := bne_eq_false_iff_eq.mpr c36
            clear c36
            replace H := Option.bind_eq_some_iff.mp H
            obtain ⟨⟨t321, t322, t323, t324⟩, A370, H⟩ := H
            replace H : (some (x7_1, x8_1, wrap64 ((a0.size : Int) - t321), 0)) = some (r1, r2, r3, r4) := H
            have A37 := Aside0.mk A370
            clear A370
            simp only [Option.some.injEq, Prod.mk.injEq] at H
            obtain ⟨rfl, rfl, rfl, rfl⟩ := H
            go_wp2_with (first | ((with_reducible refine gate_callee (f := 58) rfl ?_); refine goesL_ (some 41) rfl rfl Tryd.func58 (by kernel_rfl) rfl #[.pointer (some ⟨g284, 0, none⟩)] rfl (by (try simp only [List.map_toArray, List.map_cons, List.map_nil]); first | done | rfl | (simp only [List.length_drop, List.length_take]; rfl)) ?_; (with_reducible refine (code_Reader_Err.calls g284 x285000_1 x285001_1 x285002_1 t316 t317 t318 t319 w _ ?side1 ?side2 A33.out).mono ?_); (case side1 => repeat (first | (with_reducible first | exact HI284.out | apply IsS102.alloc | apply IsS102.drewN | apply IsS102.drew | apply IsS102.set_0 | apply IsS102.set_1 | apply IsS102.set_2) | exact HI284.out)); (case side2 => repeat (first | (with_reducible first | exact HB.out | apply below_alloc | apply pw_below_drewN | apply below_drew1 | refine below_set ?_ (IsS102.ge HI284.out)) | exact HB.out)); rintro e w38 ⟨rfl, hi, hb, hk⟩; refine ⟨_, rfl, ?_⟩; have n0_ := Aside0.mk (Kd.R_mono (Kd.R_keep (IsS102.apart (show IsS102 w _ g284 x285000_1 x285001_1 x285002_1 from by repeat (first | (with_reducible first | exact HI284.out | apply IsS102.alloc | apply IsS102.drewN | apply IsS102.drew | apply IsS102.set_0 | apply IsS102.set_1 | apply IsS102.set_2) | exact HI284.out)) (by (with_reducible repeat (first | apply Kd.R_alloc | apply Kd.R_drewN | apply Kd.R_drew)); exact HO_7.out) (by decide)) hk (fun _ h => h.2)) (fun _ h => h.1)); have n1_ := Aside0.mk (Kd.R_mono (Kd.R_keep (IsS102.apart (show IsS102 w _ g284 x285000_1 x285001_1 x285002_1 from by repeat (first | (with_reducible first | exact HI284.out | apply IsS102.alloc | apply IsS102.drewN | apply IsS102.drew | apply IsS102.set_0 | apply IsS102.set_1 | apply IsS102.set_2) | exact HI284.out)) (by (with_reducible repeat (first | apply Kd.R_alloc | apply Kd.R_drewN | apply Kd.R_drew)); exact HO_8.out) (by decide)) hk (fun _ h => h.2)) (fun _ h => h.1)); have n2_ := Aside0.mk (hb); have n3_ := Aside0.mk (hi); clear HO_7; clear HO_8; clear HB; clear HI284; have HO_7 := n0_; have HO_8 := n1_; have HB := n2_; have HI284 := n3_; clear n0_ n1_ n2_ n3_; (try clear hb); (try clear hb2); (try clear hk); (try clear hi); obtain ⟨Ao39, co39, eo39⟩ := Kd.R_slice HO_7.out; subst eo39) | ((with_reducible refine gate_callee (f := 27) rfl ?_); refine goesL_ (some 46) rfl rfl Tryd.func27 (by kernel_rfl) rfl #[.slice Ao39 x7_1.length co39] rfl (by (try simp only [List.map_toArray, List.map_cons, List.map_nil]); first | done | rfl | (simp only [List.length_drop, List.length_take]; rfl)) ?_; (with_reducible refine (tree_Check.calls k1 _ _ x7_1 t320 _ ?side1 ?side2 A35.out).mono ?_); (case side1 => repeat (first | exact (Kd.R_reads' HO_7.out).2.2 | (with_reducible refine Kd.C_alloc ?_ _) | (with_reducible refine Kd.C_drewN ?_ _) | (with_reducible refine Kd.C_drew ?_))); (case side2 => exact (Kd.R_reads' HO_7.out).2.1); rintro e w40 ⟨rfl, hb⟩; refine ⟨_, rfl, ?_⟩; have n0_ := Aside0.mk (Kd.R_below (by (with_reducible repeat (first | apply Kd.R_alloc | apply Kd.R_drewN | apply Kd.R_drew)); exact HO_7.out) hb); have n1_ := Aside0.mk (Kd.R_below (by (with_reducible repeat (first | apply Kd.R_alloc | apply Kd.R_drewN | apply Kd.R_drew)); exact HO_8.out) hb); have n2_ := Aside0.mk (IsS102.below (by repeat (first | (with_reducible first | exact HI284.out | apply IsS102.alloc | apply IsS102.drewN | apply IsS102.drew | apply IsS102.set_0 | apply IsS102.set_1 | apply IsS102.set_2) | exact HI284.out)) hb); have n3_ := Aside0.mk (below_step (by repeat (first | (with_reducible first | exact HB.out | apply below_alloc | apply pw_below_drewN | apply below_drew1 | refine below_set ?_ (IsS102.ge HI284.out)) | exact HB.out)) hb); clear HO_7; clear HO_8; clear HI284; clear HB; have HO_7 := n0_; have HO_8 := n1_; have HI284 := n2_; have HB := n3_; clear n0_ n1_ n2_ n3_; (try clear hb); (try clear hb2); (try clear hk); (try clear hi)) | ((with_reducible refine gate_callee (f := 59) rfl ?_); refine goesL_ (some 55) rfl rfl Tryd.func59 (by kernel_rfl) rfl #[.pointer (some ⟨g284, 0, none⟩)] rfl (by (try simp only [List.map_toArray, List.map_cons, List.map_nil]); first | done | rfl | (simp only [List.length_drop, List.length_take]; rfl)) ?_; (with_reducible refine (code_Reader_Left.calls g284 t317 t318 t319 t321 t322 t323 t324 w _ ?side1 ?side2 A37.out).mono ?_); (case side1 => repeat (first | (with_reducible first | exact HI284.out | apply IsS102.alloc | apply IsS102.drewN | apply IsS102.drew | apply IsS102.set_0 | apply IsS102.set_1 | apply IsS102.set_2) | exact HI284.out)); (case side2 => repeat (first | (with_reducible first | exact HB.out | apply below_alloc | apply pw_below_drewN | apply below_drew1 | refine below_set ?_ (IsS102.ge HI284.out)) | exact HB.out)); rintro e w41 ⟨rfl, hi, hb, hk⟩; refine ⟨_, rfl, ?_⟩; have n0_ := Aside0.mk (Kd.R_mono (Kd.R_keep (IsS102.apart (show IsS102 w _ g284 t317 t318 t319 from by repeat (first | (with_reducible first | exact HI284.out | apply IsS102.alloc | apply IsS102.drewN | apply IsS102.drew | apply IsS102.set_0 | apply IsS102.set_1 | apply IsS102.set_2) | exact HI284.out)) (by (with_reducible repeat (first | apply Kd.R_alloc | apply Kd.R_drewN | apply Kd.R_drew)); exact HO_7.out) (by decide)) hk (fun _ h => h.2)) (fun _ h => h.1)); have n1_ := Aside0.mk (Kd.R_mono (Kd.R_keep (IsS102.apart (show IsS102 w _ g284 t317 t318 t319 from by repeat (first | (with_reducible first | exact HI284.out | apply IsS102.alloc | apply IsS102.drewN | apply IsS102.drew | apply IsS102.set_0 | apply IsS102.set_1 | apply IsS102.set_2) | exact HI284.out)) (by (with_reducible repeat (first | apply Kd.R_alloc | apply Kd.R_drewN | apply Kd.R_drew)); exact HO_8.out) (by decide)) hk (fun _ h => h.2)) (fun _ h => h.1)); have n2_ := Aside0.mk (hb); have n3_ := Aside0.mk (hi); clear HO_7; clear HO_8; clear HB; clear HI284; have HO_7 := n0_; have HO_8 := n1_; have HB := n2_; have HI284 := n3_; clear n0_ n1_ n2_ n3_; (try clear hb); (try clear hb2); (try clear hk); (try clear hi)))
            refine bodyPost_ret (results_list (rs := [.tmp 2, .tmp 3, .tmp 4, .tmp 5]) rfl (by simp) (.tmp (.tmp (.tmp (.tmp .nil))))) rfl ?_
            exact ⟨_, _, by first | rfl | (simp [errW_none, errW_some] <;> rfl) | (simp [*, errW_none, errW_some] <;> rfl), by (with_reducible repeat (first | apply Kd.R_alloc | apply Kd.R_drewN | apply Kd.R_drew)); exact HO_7.out, by (with_reducible repeat (first | apply Kd.R_alloc | apply Kd.R_drewN | apply Kd.R_drew)); exact HO_8.out, by repeat (first | (with_reducible first | exact HB.out | apply below_alloc | apply pw_below_drewN | apply below_drew1 | refine below_set ?_ (IsS102.ge HI284.out)) | exact HB.out)⟩
          · rw [if_neg c36] at H
            have c36b0 : (t320 == 0) = false := beq_eq_false_iff_ne.mpr c36
            have c36b1 : (t320 != 0) = true := bne_iff_ne.mpr c36
            simp only [Option.some.injEq, Prod.mk.injEq] at H
            obtain ⟨rfl, rfl, rfl, rfl⟩ := H
            go_wp2_with (first | ((with_reducible refine gate_callee (f := 58) rfl ?_); refine goesL_ (some 41) rfl rfl Tryd.func58 (by kernel_rfl) rfl #[.pointer (some ⟨g284, 0, none⟩)] rfl (by (try simp only [List.map_toArray, List.map_cons, List.map_nil]); first | done | rfl | (simp only [List.length_drop, List.length_take]; rfl)) ?_; (with_reducible refine (code_Reader_Err.calls g284 x285000_1 x285001_1 x285002_1 t316 t317 t318 t319 w _ ?side1 ?side2 A33.out).mono ?_); (case side1 => repeat (first | (with_reducible first | exact HI284.out | apply IsS102.alloc | apply IsS102.drewN | apply IsS102.drew | apply IsS102.set_0 | apply IsS102.set_1 | apply IsS102.set_2) | exact HI284.out)); (case side2 => repeat (first | (with_reducible first | exact HB.out | apply below_alloc | apply pw_below_drewN | apply below_drew1 | refine below_set ?_ (IsS102.ge HI284.out)) | exact HB.out)); rintro e w42 ⟨rfl, hi, hb, hk⟩; refine ⟨_, rfl, ?_⟩; have n0_ := Aside0.mk (Kd.R_mono (Kd.R_keep (IsS102.apart (show IsS102 w _ g284 x285000_1 x285001_1 x285002_1 from by repeat (first | (with_reducible first | exact HI284.out | apply IsS102.alloc | apply IsS102.drewN | apply IsS102.drew | apply IsS102.set_0 | apply IsS102.set_1 | apply IsS102.set_2) | exact HI284.out)) (by (with_reducible repeat (first | apply Kd.R_alloc | apply Kd.R_drewN | apply Kd.R_drew)); exact HO_7.out) (by decide)) hk (fun _ h => h.2)) (fun _ h => h.1)); have n1_ := Aside0.mk (Kd.R_mono (Kd.R_keep (IsS102.apart (show IsS102 w _ g284 x285000_1 x285001_1 x285002_1 from by repeat (first | (with_reducible first | exact HI284.out | apply IsS102.alloc | apply IsS102.drewN | apply IsS102.drew | apply IsS102.set_0 | apply IsS102.set_1 | apply IsS102.set_2) | exact HI284.out)) (by (with_reducible repeat (first | apply Kd.R_alloc | apply Kd.R_drewN | apply Kd.R_drew)); exact HO_8.out) (by decide)) hk (fun _ h => h.2)) (fun _ h => h.1)); have n2_ := Aside0.mk (hb); have n3_ := Aside0.mk (hi); clear HO_7; clear HO_8; clear HB; clear HI284; have HO_7 := n0_; have HO_8 := n1_; have HB := n2_; have HI284 := n3_; clear n0_ n1_ n2_ n3_; (try clear hb); (try clear hb2); (try clear hk); (try clear hi); obtain ⟨Ao43, co43, eo43⟩ := Kd.R_slice HO_7.out; subst eo43) | ((with_reducible refine gate_callee (f := 27) rfl ?_); refine goesL_ (some 46) rfl rfl Tryd.func27 (by kernel_rfl) rfl #[.slice Ao43 x7_1.length co43] rfl (by (try simp only [List.map_toArray, List.map_cons, List.map_nil]); first | done | rfl | (simp only [List.length_drop, List.length_take]; rfl)) ?_; (with_reducible refine (tree_Check.calls k1 _ _ x7_1 t320 _ ?side1 ?side2 A35.out).mono ?_); (case side1 => repeat (first | exact (Kd.R_reads' HO_7.out).2.2 | (with_reducible refine Kd.C_alloc ?_ _) | (with_reducible refine Kd.C_drewN ?_ _) | (with_reducible refine Kd.C_drew ?_))); (case side2 => exact (Kd.R_reads' HO_7.out).2.1); rintro e w44 ⟨rfl, hb⟩; refine ⟨_, rfl, ?_⟩; have n0_ := Aside0.mk (Kd.R_below (by (with_reducible repeat (first | apply Kd.R_alloc | apply Kd.R_drewN | apply Kd.R_drew)); exact HO_7.out) hb); have n1_ := Aside0.mk (Kd.R_below (by (with_reducible repeat (first | apply Kd.R_alloc | apply Kd.R_drewN | apply Kd.R_drew)); exact HO_8.out) hb); have n2_ := Aside0.mk (IsS102.below (by repeat (first | (with_reducible first | exact HI284.out | apply IsS102.alloc | apply IsS102.drewN | apply IsS102.drew | apply IsS102.set_0 | apply IsS102.set_1 | apply IsS102.set_2) | exact HI284.out)) hb); have n3_ := Aside0.mk (below_step (by repeat (first | (with_reducible first | exact HB.out | apply below_alloc | apply pw_below_drewN | apply below_drew1 | refine below_set ?_ (IsS102.ge HI284.out)) | exact HB.out)) hb); clear HO_7; clear HO_8; clear HI284; clear HB; have HO_7 := n0_; have HO_8 := n1_; have HI284 := n2_; have HB := n3_; clear n0_ n1_ n2_ n3_; (try clear hb); (try clear hb2); (try clear hk); (try clear hi)))
            refine bodyPost_ret (results_list (rs := [.tmp 2, .tmp 3, .tmp 4, .tmp 5]) rfl (by simp) (.tmp (.tmp (.tmp (.tmp .nil))))) rfl ?_
            exact ⟨_, _, by first | rfl | (simp [errW_none, errW_some] <;> rfl) | (simp [*, errW_none, errW_some] <;> rfl), by first | exact Kd.R_nil _ _ _ _ _ | exact Kd.N_nil _ _ _ _ _ | exact Kd.V_nil _ _ _ _ _ | exact Kd.Q_nil _ _ _ _ _ | exact Kd.S_nil _ _ _ _ _, by first | exact Kd.R_nil _ _ _ _ _ | exact Kd.N_nil _ _ _ _ _ | exact Kd.V_nil _ _ _ _ _ | exact Kd.Q_nil _ _ _ _ _ | exact Kd.S_nil _ _ _ _ _, by repeat (first | (with_reducible first | exact HB.out | apply below_alloc | apply pw_below_drewN | apply below_drew1 | refine below_set ?_ (IsS102.ge HI284.out)) | exact HB.out)⟩
        · rw [if_neg c34] at H
          have c34b0 : (t316 == 0) = false := beq_eq_false_iff_ne.mpr c34
          have c34b1 : (t316 != 0) = true := bne_iff_ne.mpr c34
          simp only [Option.some.injEq, Prod.mk.injEq] at H
          obtain ⟨rfl, rfl, rfl, rfl⟩ := H
          go_wp2_with (first | ((with_reducible refine gate_callee (f := 58) rfl ?_); refine goesL_ (some 41) rfl rfl Tryd.func58 (by kernel_rfl) rfl #[.pointer (some ⟨g284, 0, none⟩)] rfl (by (try simp only [List.map_toArray, List.map_cons, List.map_nil]); first | done | rfl | (simp only [List.length_drop, List.length_take]; rfl)) ?_; (with_reducible refine (code_Reader_Err.calls g284 x285000_1 x285001_1 x285002_1 t316 t317 t318 t319 w _ ?side1 ?side2 A33.out).mono ?_); (case side1 => repeat (first | (with_reducible first | exact HI284.out | apply IsS102.alloc | apply IsS102.drewN | apply IsS102.drew | apply IsS102.set_0 | apply IsS102.set_1 | apply IsS102.set_2) | exact HI284.out)); (case side2 => repeat (first | (with_reducible first | exact HB.out | apply below_alloc | apply pw_below_drewN | apply below_drew1 | refine below_set ?_ (IsS102.ge HI284.out)) | exact HB.out)); rintro e w45 ⟨rfl, hi, hb, hk⟩; refine ⟨_, rfl, ?_⟩; have n0_ := Aside0.mk (Kd.R_mono (Kd.R_keep (IsS102.apart (show IsS102 w _ g284 x285000_1 x285001_1 x285002_1 from by repeat (first | (with_reducible first | exact HI284.out | apply IsS102.alloc | apply IsS102.drewN | apply IsS102.drew | apply IsS102.set_0 | apply IsS102.set_1 | apply IsS102.set_2) | exact HI284.out)) (by (with_reducible repeat (first | apply Kd.R_alloc | apply Kd.R_drewN | apply Kd.R_drew)); exact HO_7.out) (by decide)) hk (fun _ h => h.2)) (fun _ h => h.1)); have n1_ := Aside0.mk (Kd.R_mono (Kd.R_keep (IsS102.apart (show IsS102 w _ g284 x285000_1 x285001_1 x285002_1 from by repeat (first | (with_reducible first | exact HI284.out | apply IsS102.alloc | apply IsS102.drewN | apply IsS102.drew | apply IsS102.set_0 | apply IsS102.set_1 | apply IsS102.set_2) | exact HI284.out)) (by (with_reducible repeat (first | apply Kd.R_alloc | apply Kd.R_drewN | apply Kd.R_drew)); exact HO_8.out) (by decide)) hk (fun _ h => h.2)) (fun _ h => h.1)); have n2_ := Aside0.mk (hb); have n3_ := Aside0.mk (hi); clear HO_7; clear HO_8; clear HB; clear HI284; have HO_7 := n0_; have HO_8 := n1_; have HB := n2_; have HI284 := n3_; clear n0_ n1_ n2_ n3_; (try clear hb); (try clear hb2); (try clear hk); (try clear hi)))
          refine bodyPost_ret (results_list (rs := [.tmp 2, .tmp 3, .tmp 4, .tmp 5]) rfl (by simp) (.tmp (.tmp (.tmp (.tmp .nil))))) rfl ?_
          exact ⟨_, _, by first | rfl | (simp [errW_none, errW_some] <;> rfl) | (simp [*, errW_none, errW_some] <;> rfl), by first | exact Kd.R_nil _ _ _ _ _ | exact Kd.N_nil _ _ _ _ _ | exact Kd.V_nil _ _ _ _ _ | exact Kd.Q_nil _ _ _ _ _ | exact Kd.S_nil _ _ _ _ _, by first | exact Kd.R_nil _ _ _ _ _ | exact Kd.N_nil _ _ _ _ _ | exact Kd.V_nil _ _ _ _ _ | exact Kd.Q_nil _ _ _ _ _ | exact Kd.S_nil _ _ _ _ _, by repeat (first | (with_reducible first | exact HB.out | apply below_alloc | apply pw_below_drewN | apply below_drew1 | refine below_set ?_ (IsS102.ge HI284.out)) | exact HB.out)⟩
end Go.Proofs.YtmeofdpmddjbgaaDoor.G
end
section
namespace Go.Proofs.YtmeofdpmddjbgaaDoor.G
open Go.RowKit Go.Proofs.YtmeofdpmddjbgaaDoorW.PrintWords Go.Proofs.YtmeofdpmddjbgaaDoorW.PrintLast Go.Proofs.YtmeofdpmddjbgaaDoorW.PrintMore
attribute [local go_sem] max2_int min2_int max_two min_two max_three min_three max_four min_four   -- for this text's walks alone
set_option linter.unusedVariables false
set_option linter.unusedSimpArgs false
def told_l0 : Nat → Int → List S75 → Int → ByteArray → Int → Int → Option (List S75 × ByteArray × Int × Int)
  | 0, _, _, _, _, _, _ => none
  | k + 1, n, fs, i, s, p, e => if i < n then (if e = 0 then (barqueref01_Reader_Text.f k s p e 200).bind fun t => (barqueref01_Reader_Num.f k t.2.1 t.2.2.1 t.2.2.2).bind fun m => (barqueref01_Reader_Count.f k m.2.1 m.2.2.1 m.2.2.2 65536).bind fun c =>
      if fs.length < 2932031007402 then told_l0 k n (fs ++ [⟨⟨t.1, m.1, ⟨#[]⟩⟩, c.1⟩]) (wrap64 (i + 1)) c.2.1 c.2.2.1 c.2.2.2 else none else some (fs, s, p, e)) else some (fs, s, p, e)
def barqueref10_Told.f (k : Nat) (a0 : ByteArray) : Option (List S75 × Int × Int) :=
  (barqueref01_Reader_Count.f k a0 0 0 256).bind fun c => (told_l0 k c.1 [] 0 c.2.1 c.2.2.1 c.2.2.2).bind fun x =>
    if x.2.2.2 = 0 then (barqueref09_Check.f k (x.1.map fun y => y.f0)).bind fun t => if t = 0 then some (x.1, x.2.2.1, 0) else some ([], 0, t) else some ([], 0, x.2.2.2)
theorem told_l0_mono : ∀ (k : Nat) (n : Int) (fs : List S75) (i : Int) (s : ByteArray) (p e : Int), LeO (told_l0 k n fs i s p e) (told_l0 (k + 1) n fs i s p e)
  | 0, _, _, _, _, _, _ => LeO.none _
  | k + 1, n, fs, i, s, p, e => by
    unfold told_l0
    exact LeO.ite (LeO.ite (LeO.bind (barqueref01_Reader_Text.mono _ _ _ _ _) (fun t => LeO.bind (barqueref01_Reader_Num.mono _ _ _ _) (fun m => LeO.bind (barqueref01_Reader_Count.mono _ _ _ _ _) (fun c => LeO.ite (told_l0_mono k _ _ _ _ _ _) (LeO.refl _))))) (LeO.refl _)) (LeO.refl _)
theorem barqueref10_Told.mono : ∀ a0 k, LeO (barqueref10_Told.f k a0) (barqueref10_Told.f (k + 1) a0) := by
  intro a0 k
  unfold barqueref10_Told.f
  exact LeO.bind (barqueref01_Reader_Count.mono _ _ _ _ _) (fun c => LeO.bind (told_l0_mono _ _ _ _ _ _ _) (fun x => LeO.ite (LeO.bind (barqueref09_Check.mono _ _) (fun t => LeO.refl _)) (LeO.refl _)))
theorem keep_fresh {w w1 : World} {g : Nat} {row : Option Nat} (h : KeepBut w w1 g row) {p : Addr} (hp : w.heap.size ≤ p.block) (u : Value) : KeepBut w (w1.setCell p u) g row :=
  ⟨by simpa [World.setCell] using h.1, fun i hi hg hr => (Below.heap_setCell w1 p u i (by omega)).trans (h.2 i hi hg hr)⟩
/-- What the walk of Told holds between two steps: the reader, the head, the answer's cell. -/
structure ToldI (w W : World) (g gh gr : Nat) (s : ByteArray) (p e : Int) (v : Value) (fs : List S75) : Prop where
  rd : IsS90 w W g s p e
  row : Kd.R k75 75 W w.heap.size (fun _ => True) v fs
  hd : W.heap[gh]? = some (.cells #[v, .int .i64 0] 71 (0, 0))
  an : W.heap[gr]? = some (.cells #[.slice none 0 0, .int .i64 0] 71 (0, 0))
  bl : Below w.heap.size w W
theorem ToldI.keep {w W W' : World} {g gh gr : Nat} {s s' : ByteArray} {p e p' e' : Int} {v : Value} {fs : List S75} (h : ToldI w W g gh gr s p e v fs) (hi : IsS90 w W' g s' p' e') (hb : Below w.heap.size w W') (hk : KeepBut W W' g none) : ToldI w W' g gh gr s' p' e' v fs where
  rd := hi
  row := Kd.R_mono (Kd.R_keep (IsS90.apart h.rd h.row (by decide)) hk (fun _ h => h.2)) (fun _ h => h.1)
  hd := (hk.2 gh (blk_lt h.hd) (Ne.symm (h.rd.ne_blk h.hd (by decide))) (by simp)).trans h.hd
  an := (hk.2 gr (blk_lt h.an) (Ne.symm (h.rd.ne_blk h.an (by decide))) (by simp)).trans h.an
  bl := hb
theorem ToldI.drewN {w W : World} {g gh gr : Nat} {s : ByteArray} {p e : Int} {v : Value} {fs : List S75} (h : ToldI w W g gh gr s p e v fs) (m : Nat) : ToldI w (W.drewN m) g gh gr s p e v fs where
  rd := h.rd.drewN m
  row := Kd.R_drewN h.row m
  hd := blk_drewN h.hd m
  an := blk_drewN h.an m
  bl := pw_below_drewN h.bl m
/-- While a file is being read: the reader, the file's box, all else as it was. -/
structure ToldJ (w W0 W : World) (g gb : Nat) (s : ByteArray) (p e : Int) (a : ByteArray) (m : Int) (d : ByteArray) : Prop where
  rd : IsS90 w W g s p e
  bl : Below w.heap.size w W
  kp : KeepBut W0 W g none
  bk : W.heap[gb]? = some (.cells #[.string a, .int .i64 m, .string d] 33 (0, 0))
  ge : W0.heap.size ≤ gb
  le : w.heap.size ≤ W0.heap.size
theorem ToldJ.new {w W : World} {g gh gr : Nat} {s : ByteArray} {p e : Int} {v : Value} {fs : List S75} (h : ToldI w W g gh gr s p e v fs) (a : ByteArray) (m : Int) (d : ByteArray) : ToldJ w W (W.alloc (.cells #[.string a, .int .i64 m, .string d] 33)) g W.heap.size s p e a m d where
  rd := h.rd.alloc _
  bl := below_alloc h.bl _
  kp := KeepBut.of_below (below_alloc (Below.refl _ _) _) _ _
  bk := blk_new _ _
  ge := Nat.le_refl _
  le := h.bl.size
theorem ToldJ.call {w W0 W W' : World} {g gb : Nat} {s s' : ByteArray} {p e p' e' : Int} {a d : ByteArray} {m : Int} (h : ToldJ w W0 W g gb s p e a m d) (hi : IsS90 w W' g s' p' e') (hb : Below w.heap.size w W') (hk : KeepBut W W' g none) : ToldJ w W0 W' g gb s' p' e' a m d where
  rd := hi
  bl := hb
  kp := h.kp.trans hk (.inl rfl)
  bk := (hk.2 gb (blk_lt h.bk) (Ne.symm (h.rd.ne_blk h.bk (by decide))) (by simp)).trans h.bk
  ge := h.ge
  le := h.le
theorem ToldJ.set0 {w W0 W : World} {g gb : Nat} {s : ByteArray} {p e : Int} {a d : ByteArray} {m : Int} (h : ToldJ w W0 W g gb s p e a m d) (x : ByteArray) : ToldJ w W0 (W.setCell ⟨gb, 0, none⟩ (.string x)) g gb s p e x m d where
  rd := h.rd.far (p := ⟨gb, 0, none⟩) (h.rd.ne_blk h.bk (by decide)) _
  bl := below_set h.bl (Nat.le_trans h.le h.ge)
  kp := keep_fresh h.kp (p := ⟨gb, 0, none⟩) h.ge _
  bk := blk_put h.bk 0 _ rfl
  ge := h.ge
  le := h.le
theorem ToldJ.set1 {w W0 W : World} {g gb : Nat} {s : ByteArray} {p e : Int} {a d : ByteArray} {m : Int} (h : ToldJ w W0 W g gb s p e a m d) (x : Int) : ToldJ w W0 (W.setCell ⟨gb, 1, none⟩ (.int .i64 x)) g gb s p e a x d where
  rd := h.rd.far (p := ⟨gb, 1, none⟩) (h.rd.ne_blk h.bk (by decide)) _
  bl := below_set h.bl (Nat.le_trans h.le h.ge)
  kp := keep_fresh h.kp (p := ⟨gb, 1, none⟩) h.ge _
  bk := blk_put h.bk 1 _ rfl
  ge := h.ge
  le := h.le
theorem ToldI.appended {w W w1 : World} {g gh gr : Nat} {s : ByteArray} {p e : Int} {v v1 : Value} {fs fs1 : List S75} (h : ToldI w W g gh gr s p e v fs) (hw : w.heap.size ≤ gh) (hr : gr ≠ gh) (ho : Kd.R k75 75 w1 w.heap.size (fun _ => True) v1 fs1) (hb : Below w.heap.size w w1) (hg : W.grownBy w1 v.ownBlock) : ToldI w (w1.setCell ⟨gh, 0, none⟩ v1) g gh gr s p e v1 fs1 := by
  have a1 := blk_grown h.hd hg (Kd.R_ne h.row h.hd (by decide))
  have a2 := blk_grown h.an hg (Kd.R_ne h.row h.an (by decide))
  have a3 := IsS90.grown h.rd hg (IsS90.own_ne h.rd h.row (by decide))
  exact { rd := a3.far (p := ⟨gh, 0, none⟩) (a3.ne_blk a1 (by decide)) _, row := Kd.R_mono (Kd.R_move (Kd.R_types ho a1 (by decide)) (fun k hk => Below.heap_setCell w1 ⟨gh, 0, none⟩ v1 k hk.2)) (fun _ hk => hk.1), hd := blk_put a1 0 _ rfl, an := blk_far a2 (p := ⟨gh, 0, none⟩) hr _, bl := below_set hb hw }
theorem ToldI.grown {w W w1 : World} {g gh gr : Nat} {s : ByteArray} {p e : Int} {v u : Value} {fs : List S75} {us : List S33} (h : ToldI w W g gh gr s p e v fs) (hu : Kd.R k33 33 W w.heap.size (fun _ => True) u us) (hb : Below w.heap.size w w1) (hg : W.grownBy w1 u.ownBlock) : ToldI w w1 g gh gr s p e v fs where
  rd := IsS90.grown h.rd hg (IsS90.own_ne h.rd hu (by decide))
  row := Kd.R_over' h.row (Kd.R_typed hu) (by decide) hg
  hd := blk_grown h.hd hg (Kd.R_ne hu h.hd (by decide))
  an := blk_grown h.an hg (Kd.R_ne hu h.an (by decide))
  bl := hb
theorem ToldI.below {w W W' : World} {g gh gr : Nat} {s : ByteArray} {p e : Int} {v : Value} {fs : List S75} (h : ToldI w W g gh gr s p e v fs) (hb : Below W.heap.size W W') : ToldI w W' g gh gr s p e v fs :=
  h.keep (h.rd.below hb) (below_step h.bl hb) (KeepBut.of_below hb _ _)
theorem ToldI.done {w W : World} {g gh : Nat} {s : ByteArray} {p e : Int} {v : Value} {fs : List S75} (h : ToldI w W g gh w.heap.size s p e v fs) (hgh : w.heap.size < gh) (p' : Int) :
    (W.setCell ⟨gh, 1, none⟩ (.int .i64 p')).heap[gh]? = some (.cells #[v, .int .i64 p'] 71 (0, 0)) ∧ (W.setCell ⟨gh, 1, none⟩ (.int .i64 p')).heap[w.heap.size]? = some (.cells #[.slice none 0 0, .int .i64 0] 71 (0, 0)) ∧
    ((W.setCell ⟨gh, 1, none⟩ (.int .i64 p')).setCell ⟨w.heap.size, 0, none⟩ v).heap[w.heap.size]? = some (.cells #[v, .int .i64 0] 71 (0, 0)) ∧
    (((W.setCell ⟨gh, 1, none⟩ (.int .i64 p')).setCell ⟨w.heap.size, 0, none⟩ v).setCell ⟨w.heap.size, 1, none⟩ (.int .i64 p')).heap[w.heap.size]? = some (.cells #[v, .int .i64 p'] 71 (0, 0)) ∧
    Kd.R k75 75 (((W.setCell ⟨gh, 1, none⟩ (.int .i64 p')).setCell ⟨w.heap.size, 0, none⟩ v).setCell ⟨w.heap.size, 1, none⟩ (.int .i64 p')) w.heap.size (fun _ => True) v fs ∧
    Below w.heap.size w (((W.setCell ⟨gh, 1, none⟩ (.int .i64 p')).setCell ⟨w.heap.size, 0, none⟩ v).setCell ⟨w.heap.size, 1, none⟩ (.int .i64 p')) := by
  have h1 := blk_put h.hd 1 (.int .i64 p') rfl
  have a1 := blk_far h.an (p := ⟨gh, 1, none⟩) (by show w.heap.size ≠ gh; omega) (.int .i64 p')
  have a2 := blk_put a1 0 v rfl
  have a3 := blk_put a2 1 (.int .i64 p') rfl
  have r1 := Kd.R_move (Kd.R_types h.row h.hd (by decide)) (fun k hk => Below.heap_setCell W ⟨gh, 1, none⟩ (.int .i64 p') k hk.2)
  have r2 := Kd.R_move (Kd.R_types (Kd.R_mono r1 (fun _ hk => hk.1)) a1 (by decide)) (fun k hk => Below.heap_setCell _ ⟨w.heap.size, 0, none⟩ v k hk.2)
  have r3 := Kd.R_move (Kd.R_types (Kd.R_mono r2 (fun _ hk => hk.1)) a2 (by decide)) (fun k hk => Below.heap_setCell _ ⟨w.heap.size, 1, none⟩ (.int .i64 p') k hk.2)
  exact ⟨h1, a1, a2, a3, Kd.R_mono r3 (fun _ hk => hk.1), below_set (below_set (below_set h.bl (Nat.le_of_lt hgh)) (Nat.le_refl _)) (Nat.le_refl _)⟩
theorem told_rd (l : List S75) (i : Nat) (h : i < l.length) : rd_T75 l (i : Int) = l[i] := by
  unfold rd_T75
  simp [List.getD_eq_getElem?_getD, h]
theorem told_results (tmps : Array Value) (w : World) (b : Nat) (A : Option Addr) (n c : Nat) (p x : Int) (h2 : tmps.getD 2 undef = .pointer (some ⟨b, 0, none⟩)) (h3 : tmps.getD 3 undef = .int .i64 x) (hb : w.heap[b]? = some (.cells #[.slice A n c, .int .i64 p] 71 (0, 0))) : (results Tryd.f38 tmps).run Tryd.prog w = .ok (.tuple #[.agg #[.slice A n c, .int .i64 p], .int .i64 x]) w := by
  have c0 : w.cell? ⟨b, 0, none⟩ = some (.slice A n c) := (blk_cell hb 0).trans rfl
  have c1 : w.cell? ⟨b, 1, none⟩ = some (.int .i64 p) := (blk_cell hb 1).trans rfl
  have hr : Tryd.f38.results = #[.cell 2 71, .tmp 3] := rfl
  have hu71 := Tryd.underlying71
  unfold results
  simp only [hr, Array.mapM_eq_mapM_toList, List.mapM_cons, List.mapM_nil, h2, h3]
  go_simp
theorem told_info75 : (Tryd.prog.info? 75).map (fun i => (i.zero, i.size, i.bytes)) = some (some (.agg #[.string ⟨#[]⟩, .int .i64 0, .string ⟨#[]⟩, .int .i64 0]), 4, 48) := by kernel_rfl
set_option maxHeartbeats 16000000 in
set_option maxRecDepth 100000 in
theorem barqueref10_Told.calls (k : Nat) (a0 : ByteArray) (r1 : List S75) (r2 r3 : Int) (w : World) (h : barqueref10_Told.f k a0 = some (r1, r2, r3)) :
    Calls Tryd.prog 38 #[.string a0] w fun e w' => ∃ v, e = .returned (.tuple #[.agg #[v, .int .i64 r2], .int .i64 r3]) ∧ Kd.R k75 75 w' w.heap.size (fun _ => True) v r1 ∧ Below w.heap.size w w' := by
  have hu90 := Tryd.underlying90
  have hu75 := Tryd.underlying75
  have hu71 := Tryd.underlying71
  have hu33 := Tryd.underlying33
  have HB := Aside0.mk (Below.refl w.heap.size w)
  unfold barqueref10_Told.f at h
  obtain ⟨⟨n, s1, p1, e1⟩, A1, H⟩ := Option.bind_eq_some_iff.mp h
  obtain ⟨⟨fs, s2, p2, e2⟩, A2, H⟩ := Option.bind_eq_some_iff.mp H
  simp only at A1 A2 H
  have A1 := Aside0.mk A1
  have A2 := Aside0.mk A2
  have HF := Aside0.mk H
  clear h H
  go_enter Tryd.func38, Tryd.ntmps38
  have b1 := below_alloc (Below.refl w.heap.size w) (.cells #[.slice none 0 0, .int .i64 0] 71)
  have b2 := below_alloc b1 (.cells #[.string a0, .int .i64 0, .int .i64 0] 90)
  have z1 : (w.alloc (.cells #[.slice none 0 0, .int .i64 0] 71)).heap.size = w.heap.size + 1 := by simp
  have z2 : ((w.alloc (.cells #[.slice none 0 0, .int .i64 0] 71)).alloc (.cells #[.string a0, .int .i64 0, .int .i64 0] 90)).heap.size = w.heap.size + 1 + 1 := by simp
  have n1 := IsS90.new w (w.alloc (.cells #[.slice none 0 0, .int .i64 0] 71)) a0 0 0 b1
  rw [z1] at n1
  have n2 := blk_new ((w.alloc (.cells #[.slice none 0 0, .int .i64 0] 71)).alloc (.cells #[.string a0, .int .i64 0, .int .i64 0] 90)) (.cells #[.slice none 0 0, .int .i64 0] 71)
  rw [z2] at n2
  have n3 := n1.alloc (.cells #[.slice none 0 0, .int .i64 0] 71)
  have n4 := blk_alloc (blk_alloc (blk_new w (.cells #[.slice none 0 0, .int .i64 0] 71)) (.cells #[.string a0, .int .i64 0, .int .i64 0] 90)) (.cells #[.slice none 0 0, .int .i64 0] 71)
  have n5 := below_alloc b2 (.cells #[.slice none 0 0, .int .i64 0] 71)
  have I0 : Aside0 (ToldI w (((w.alloc (.cells #[.slice none 0 0, .int .i64 0] 71)).alloc (.cells #[.string a0, .int .i64 0, .int .i64 0] 90)).alloc (.cells #[.slice none 0 0, .int .i64 0] 71)) (w.heap.size + 1) (w.heap.size + 1 + 1) w.heap.size a0 0 0 (.slice none 0 0) []) := ⟨{ rd := n3, row := Kd.R_nil _ _ _ _ _, hd := n2, an := n4, bl := n5 }⟩
  clear b1 b2 z1 z2 n1 n2 n3 n4 n5
  go_wp2_with (go_at_call 60; refine (barqueref01_Reader_Count.calls k (w.heap.size + 1) a0 0 0 256 n s1 p1 e1 w _ I0.out.rd I0.out.bl A1.out).mono ?_; rintro e w4 ⟨rfl, hi, hb, hk⟩; have I1 := Aside0.mk (I0.out.keep hi hb hk); clear I0 hi hb hk)
  obtain ⟨g, hg⟩ : ∃ g, w.heap.size + 1 = g := ⟨_, rfl⟩
  obtain ⟨gh, hgh⟩ : ∃ gh, g + 1 = gh := ⟨_, rfl⟩
  have GG : Aside0 (w.heap.size < g ∧ g < gh) := ⟨by omega⟩
  rw [hg, hgh] at I1
  simp only [hg, hgh]
  clear hg hgh
  go_loopg [7] k (fun kq v7 w' => ∃ (i : Int) (xs : List S75) (s : ByteArray) (p e : Int) (v : Value), v7 = .int .i64 i ∧ Aside0 (told_l0 kq n xs i s p e = some (fs, s2, p2, e2)) ∧ Aside0 (kq ≤ k ∧ xs.length ≤ 2932031007402) ∧ Aside0 (ToldI w w' g gh w.heap.size s p e v xs))
  case atStart => exact ⟨0, [], s1, p1, e1, .slice none 0 0, rfl, A2, ⟨Nat.le_refl _, by decide⟩, I1⟩
  case round =>
    clear I1 A2
    obtain ⟨i, xs, s, p, e, vh, rfl, HA, HK, HI⟩ := hrel
    cases gk with
    | zero => exact absurd HA.out (by simp [told_l0])
    | succ k1 =>
      have H := HA.out
      clear HA
      rw [told_l0] at H
      have HC := Aside0.mk H
      clear H
      have q0 := cellS90_2 HI.out.rd.1
      have q1 := blk_frozen HI.out.rd.1 2
      by_cases c1 : i < n
      · have c1b : decide (i < n) = true := decide_eq_true c1
        have H := HC.out
        clear HC
        rw [if_pos c1] at H
        clear c1
        by_cases c2 : e = 0
        · subst c2
          rw [if_pos rfl] at H
          obtain ⟨⟨t1, s3, p3, e3⟩, B1, H⟩ := Option.bind_eq_some_iff.mp H
          obtain ⟨⟨t2, s4, p4, e4⟩, B2, H⟩ := Option.bind_eq_some_iff.mp H
          obtain ⟨⟨t3, s5, p5, e5⟩, B3, H⟩ := Option.bind_eq_some_iff.mp H
          simp only at B1 B2 B3 H
          have B1 := Aside0.mk B1
          have B2 := Aside0.mk B2
          have B3 := Aside0.mk B3
          by_cases c3 : xs.length < 2932031007402
          case neg => rw [if_neg c3] at H; cases H
          rw [if_pos c3] at H
          have HN := Aside0.mk H
          have C3 := Aside0.mk c3
          clear H c3
          have J0 := Aside0.mk (ToldJ.new HI.out ⟨#[]⟩ 0 ⟨#[]⟩)
          obtain ⟨gb, hgb⟩ : ∃ gb, wr.heap.size = gb := ⟨_, rfl⟩
          rw [hgb] at J0
          go_wp2_with (first
            | (go_at_call 61; refine (barqueref01_Reader_Text.calls k1 g s p 0 200 t1 s3 p3 e3 w _ J0.out.rd J0.out.bl B1.out).mono ?_; rintro e w5 ⟨rfl, hi, hb, hk⟩; have J1 := Aside0.mk (J0.out.call hi hb hk); clear J0 q0 q1 hi hb hk; have f0 := blk_frozen J1.out.bk 0; have c0 := blk_cell J1.out.bk 0; have J2 := Aside0.mk (J1.out.set0 t1))
            | (go_at_call 62; refine (barqueref01_Reader_Num.calls k1 g s3 p3 e3 t2 s4 p4 e4 w _ J2.out.rd J2.out.bl B2.out).mono ?_; rintro e w6 ⟨rfl, hi, hb, hk⟩; have J3 := Aside0.mk (J2.out.call hi hb hk); clear J2 J1 f0 c0 hi hb hk; have f1 := blk_frozen J3.out.bk 1; have c1 := blk_cell J3.out.bk 1; have J4 := Aside0.mk (J3.out.set1 t2))
            | (go_at_call 60; refine (barqueref01_Reader_Count.calls k1 g s4 p4 e4 65536 t3 s5 p5 e5 w _ J4.out.rd J4.out.bl B3.out).mono ?_; rintro e w7 ⟨rfl, hi, hb, hk⟩; have J5 := Aside0.mk (J4.out.call hi hb hk); clear J4 J3 f1 c1 hi hb hk; have IW := Aside0.mk (HI.out.keep J5.out.rd J5.out.bl J5.out.kp); have d0 := (blk_cell J5.out.bk 0).trans rfl; have d1 := (blk_cell J5.out.bk 1).trans rfl; have d2 := (blk_cell J5.out.bk 2).trans rfl; have d3 := (blk_cell IW.out.hd 0).trans rfl)
            | ((with_reducible refine gate_builtin (b := .append) (xs := #[.tmp 41, .tmp 45]) rfl ?_); at_builtin; refine Kd.R_append k75 (w0 := w) w.heap.size rfl (.tmp 41) (.tmp 45) 69 75 (.agg #[.string ⟨#[]⟩, .int .i64 0, .string ⟨#[]⟩, .int .i64 0]) 48 rfl Tryd.underlying69 told_info75 rfl (by decide) (by omega) vh xs ⟨⟨t1, t2, ⟨#[]⟩⟩, t3⟩ [.string t1, .int .i64 t2, .string ⟨#[]⟩, .int .i64 t3] (fun _ => True) (fun _ => False) rfl (by first | (go_simp; done) | (go_simp; rfl)) ?aP (fun _ hk => hk.elim) ?aF ?aO ?aB ?aS ?aL ?_; (case aP => exact k75_mkM _ _ _ ⟨⟨t1, t2, ⟨#[]⟩⟩, t3⟩); (case aF => exact fun _ _ => trivial); (case aO => exact IW.out.row); (case aB => exact IW.out.bl); (case aS => exact below_size IW.out.bl); (case aL => have := C3.out; omega); intro v1 w8 ho hb hg _; obtain ⟨Av_, cv_, ev_⟩ := Kd.R_slice ho; generalize List.length _ = ln_ at ev_; subst ev_; have IX := Aside0.mk (IW.out.appended (by have := GG.out; omega) (by have := GG.out; omega) ho hb hg); have x0 := blk_cell (blk_grown IW.out.hd hg (Kd.R_ne IW.out.row IW.out.hd (by decide))) 0; have x1 := blk_frozen (blk_grown IW.out.hd hg (Kd.R_ne IW.out.row IW.out.hd (by decide))) 0; clear ho hb hg IW J5 d0 d1 d2 d3 HI))
          go_roundg k1
          case measure => have := HK.out; omega
          case rel => exact ⟨wrap64 (i + 1), _, s5, p5, e5, _, rfl, HN, ⟨by have := HK.out; omega, by rw [List.length_append]; have := C3.out; simp only [List.length_cons, List.length_nil]; omega⟩, IX⟩
        · rw [if_neg c2] at H
          have c2b : (e == 0) = false := beq_eq_false_iff_ne.mpr c2
          have c2c : (e != 0) = true := bne_iff_ne.mpr c2
          simp only [Option.some.injEq, Prod.mk.injEq] at H
          obtain ⟨rfl, rfl, rfl, rfl⟩ := H
          have H := HF.out
          rw [if_neg c2] at H
          simp only [Option.some.injEq, Prod.mk.injEq] at H
          obtain ⟨rfl, rfl, rfl⟩ := H
          clear c2 HF
          have h0 := (blk_cell HI.out.an 0)
          have h1 := (blk_cell HI.out.an 1)
          have an2 := Aside0.mk (blk_put (blk_put HI.out.an 0 (.slice none 0 0) rfl) 1 (.int .i64 0) rfl)
          have bl2 := Aside0.mk (below_set (j := 1) (v := .int .i64 0) (below_set (j := 0) (v := .slice none 0 0) HI.out.bl (Nat.le_refl _)) (Nat.le_refl _))
          have z0 := blk_frozen HI.out.an 0
          have z1 := blk_frozen HI.out.an 1
          go_wp2
          go_region
          have y0 : ((wr.setCell ⟨w.heap.size, 0, none⟩ (.slice none 0 0)).setCell ⟨w.heap.size, 1, none⟩ (.int .i64 0)).cell? ⟨w.heap.size, 0, none⟩ = some (.slice none 0 0) := (blk_cell an2.out 0).trans rfl
          have y1 : ((wr.setCell ⟨w.heap.size, 0, none⟩ (.slice none 0 0)).setCell ⟨w.heap.size, 1, none⟩ (.int .i64 0)).cell? ⟨w.heap.size, 1, none⟩ = some (.int .i64 0) := (blk_cell an2.out 1).trans rfl
          go_wp2
          exact bodyPost_ret (told_results _ _ w.heap.size none 0 0 0 e rfl rfl (blk_drew an2.out)) rfl ⟨_, rfl, Kd.R_nil _ _ _ _ _, bl2.out.drew⟩
      · have c1b : decide (i < n) = false := decide_eq_false c1
        have H := HC.out
        clear HC
        rw [if_neg c1] at H
        clear c1
        simp only [Option.some.injEq, Prod.mk.injEq] at H
        obtain ⟨rfl, rfl, rfl, rfl⟩ := H
        by_cases c2 : e = 0
        · subst c2
          have H := HF.out
          clear HF
          rw [if_pos rfl] at H
          obtain ⟨t, D1, H⟩ := Option.bind_eq_some_iff.mp H
          have D1 := Aside0.mk D1
          have HF := Aside0.mk H
          clear H
          obtain ⟨Av, cv, ev⟩ := Kd.R_slice HI.out.row
          subst ev
          go_wp2
          go_loopg [10, 11] (xs.length + 1) (fun kq v10 v11 w' => ∃ (j : Nat), v11 = .int .i64 j ∧ Aside0 (j ≤ xs.length ∧ kq = xs.length + 1 - j) ∧ Aside0 (Kd.R k33 33 w' w.heap.size (fun _ => True) v10 ((xs.take j).map fun y => y.f0)) ∧ Aside0 (ToldI w w' g gh w.heap.size s p 0 (.slice Av xs.length cv) xs))
          case atStart => exact ⟨0, rfl, ⟨⟨Nat.zero_le _, rfl⟩⟩, ⟨Kd.R_nil _ _ _ _ _⟩, HI⟩
          case round =>
            clear q0 q1 HI
            obtain ⟨j, rfl, HJ, HO, HI⟩ := hrel
            have d3 : wr.cell? ⟨gh, 0, none⟩ = some (.slice Av xs.length cv) := (blk_cell HI.out.hd 0).trans rfl
            by_cases hj : j < xs.length
            · have hj1 : decide ((j : Int) < (xs.length : Int)) = true := decide_eq_true (by omega)
              obtain ⟨_, hcv, hC⟩ := Kd.R_reads' HI.out.row
              obtain ⟨ad, ea, x0, x1, x2, x3⟩ := at_T75 hC (j : Int) (by omega) (by omega)
              rw [told_rd xs j hj] at x0 x1 x2 x3
              cases ea
              simp only [Int.toNat_natCast] at x0 x1 x2 x3
              clear hC
              obtain ⟨us, hus⟩ : ∃ us : List S33, us = (xs.take j).map (fun y => y.f0) := ⟨_, rfl⟩
              have US := Aside0.mk hus
              rw [← hus] at HO
              clear hus
              obtain ⟨x, hx⟩ : ∃ x, xs[j]'hj = x := ⟨_, rfl⟩
              rw [hx] at x0 x1 x2 x3
              have HX := Aside0.mk hx
              clear hx
              go_wp2_with (first
                | ((with_reducible refine gate_builtin (b := .append) (xs := #[.tmp 65, .tmp 72]) rfl ?_); at_builtin; refine Kd.R_append k33 (w0 := w) w.heap.size rfl (.tmp 65) (.tmp 72) 22 33 (.agg #[.string ⟨#[]⟩, .int .i64 0, .string ⟨#[]⟩]) 40 rfl Tryd.underlying22 info33 rfl (by decide) (by omega) u10 us x.f0 [.string x.f0.f0, .int .i64 x.f0.f1, .string x.f0.f2] (fun _ => True) (fun _ => False) rfl (by first | (go_simp; done) | (go_simp; rfl)) ?aP (fun _ hk => hk.elim) ?aF ?aO ?aB ?aS ?aL ?_; (case aP => exact k33_mkM _ _ _ x.f0); (case aF => exact fun _ _ => trivial); (case aO => exact HO.out); (case aB => exact HI.out.bl); (case aS => exact below_size HI.out.bl); (case aL => have := HK.out; rw [US.out, List.length_map, List.length_take]; omega); intro v1 w8 ho hb hg _; have IX : Aside0 (ToldI w w8 g gh w.heap.size s p 0 (.slice (some ad) xs.length cv) xs) := ⟨ToldI.grown (W := wr) (us := us) HI.out HO.out hb hg⟩; have OX := Aside0.mk ho; clear ho hb hg HI HO d3 x0 x1 x2 x3))
              have hw : wrap64 ((j : Int) + 1) = ((j + 1 : Nat) : Int) := by
                have := HK.out
                unfold wrap64; omega
              rw [hw]
              go_roundg (xs.length + 1 - (j + 1))
              case measure => have := HJ.out; omega
              case rel => exact ⟨j + 1, rfl, ⟨⟨by omega, rfl⟩⟩, ⟨by have h_ := OX.out; rw [← HX.out, US.out] at h_; rw [List.take_succ_eq_append_getElem hj, List.map_append]; exact h_⟩, IX⟩
            · have hj1 : decide ((j : Int) < (xs.length : Int)) = false := decide_eq_false (by omega)
              have ej : j = xs.length := by have := HJ.out; omega
              subst ej
              rw [List.take_length] at HO
              obtain ⟨us, hus⟩ : ∃ us : List S33, us = xs.map (fun y => y.f0) := ⟨_, rfl⟩
              rw [← hus] at HO D1
              have US := Aside0.mk hus
              clear hus
              obtain ⟨Au, cu, eu⟩ := Kd.R_slice HO.out
              subst eu
              have HCU := Aside0.mk (Kd.R_reads' HO.out).2.2
              have HCC := Aside0.mk (Kd.R_reads' HO.out).2.1
              clear hj HJ H A2
              by_cases c5 : t = 0
              · subst c5
                have H := HF.out
                rw [if_pos rfl] at H
                simp only [Option.some.injEq, Prod.mk.injEq] at H
                obtain ⟨rfl, rfl, rfl⟩ := H
                clear HF
                have GH := Aside0.mk (show w.heap.size < gh by have := GG.out; omega)
                go_wp2_with (go_at_call 33; refine (barqueref09_Check.calls k Au cu us 0 _ HCU.out HCC.out D1.out).mono ?_; rintro e w5 ⟨rfl, hb⟩; have I5 := Aside0.mk (HI.out.below hb); clear hb HI HO HCU HCC US d3 hj1; have DN := Aside0.mk (I5.out.done GH.out p); have x0 := (cellS90_1 I5.out.rd.1); have x1 := blk_frozen I5.out.hd 1; have x1c : w5.cell? ⟨gh, 1, none⟩ = some (.int .i64 0) := (blk_cell I5.out.hd 1).trans rfl; have x2 : (w5.setCell ⟨gh, 1, none⟩ (.int .i64 p)).cell? ⟨gh, 0, none⟩ = some (.slice Av xs.length cv) := (blk_cell DN.out.1 0).trans rfl; have x3 : (w5.setCell ⟨gh, 1, none⟩ (.int .i64 p)).cell? ⟨gh, 1, none⟩ = some (.int .i64 p) := (blk_cell DN.out.1 1).trans rfl; have x4 := blk_frozen DN.out.2.1 0; have x5 := blk_frozen DN.out.2.2.1 1; have x6 : (w5.setCell ⟨gh, 1, none⟩ (.int .i64 p)).cell? ⟨w.heap.size, 0, none⟩ = some (.slice none 0 0) := (blk_cell DN.out.2.1 0).trans rfl; have x7 : ((w5.setCell ⟨gh, 1, none⟩ (.int .i64 p)).setCell ⟨w.heap.size, 0, none⟩ (.slice Av xs.length cv)).cell? ⟨w.heap.size, 1, none⟩ = some (.int .i64 0) := (blk_cell DN.out.2.2.1 1).trans rfl)
                exact bodyPost_ret (told_results _ _ w.heap.size Av xs.length cv p 0 rfl rfl DN.out.2.2.2.1) rfl ⟨_, rfl, DN.out.2.2.2.2.1, DN.out.2.2.2.2.2⟩
              · have c5b : (t == 0) = false := beq_eq_false_iff_ne.mpr c5
                have c5c : (t != 0) = true := bne_iff_ne.mpr c5
                have H := HF.out
                rw [if_neg c5] at H
                simp only [Option.some.injEq, Prod.mk.injEq] at H
                obtain ⟨rfl, rfl, rfl⟩ := H
                clear c5 HF
                have h0 := (blk_cell HI.out.an 0)
                go_wp2_with (go_at_call 33; refine (barqueref09_Check.calls k Au cu us t _ HCU.out HCC.out D1.out).mono ?_; rintro e w5 ⟨rfl, hb⟩; have I5 := Aside0.mk (HI.out.below hb); clear hb HI HO HCU HCC US d3 hj1; have an2 := Aside0.mk (blk_put (blk_put I5.out.an 0 (.slice none 0 0) rfl) 1 (.int .i64 0) rfl); have bl2 := Aside0.mk (below_set (j := 1) (v := .int .i64 0) (below_set (j := 0) (v := .slice none 0 0) I5.out.bl (Nat.le_refl _)) (Nat.le_refl _)); have z0 := blk_frozen I5.out.an 0; have z1 := blk_frozen (blk_put I5.out.an 0 (.slice none 0 0) rfl) 1; have z2 : w5.cell? ⟨w.heap.size, 0, none⟩ = some (.slice none 0 0) := (blk_cell I5.out.an 0).trans rfl; have z3 : (w5.setCell ⟨w.heap.size, 0, none⟩ (.slice none 0 0)).cell? ⟨w.heap.size, 1, none⟩ = some (.int .i64 0) := (blk_cell (blk_put I5.out.an 0 (.slice none 0 0) rfl) 1).trans rfl)
                exact bodyPost_ret (told_results _ _ w.heap.size none 0 0 0 t rfl rfl an2.out) rfl ⟨_, rfl, Kd.R_nil _ _ _ _ _, bl2.out⟩
        · have c2b : (e == 0) = false := beq_eq_false_iff_ne.mpr c2
          have c2c : (e != 0) = true := bne_iff_ne.mpr c2
          have H := HF.out
          rw [if_neg c2] at H
          simp only [Option.some.injEq, Prod.mk.injEq] at H
          obtain ⟨rfl, rfl, rfl⟩ := H
          clear c2 HF
          have h0 := (blk_cell HI.out.an 0)
          have h1 := (blk_cell HI.out.an 1)
          have an2 := Aside0.mk (blk_put (blk_put HI.out.an 0 (.slice none 0 0) rfl) 1 (.int .i64 0) rfl)
          have bl2 := Aside0.mk (below_set (j := 1) (v := .int .i64 0) (below_set (j := 0) (v := .slice none 0 0) HI.out.bl (Nat.le_refl _)) (Nat.le_refl _))
          have z0 := blk_frozen HI.out.an 0
          have z1 := blk_frozen HI.out.an 1
          go_wp2
          go_region
          have y0 : ((wr.setCell ⟨w.heap.size, 0, none⟩ (.slice none 0 0)).setCell ⟨w.heap.size, 1, none⟩ (.int .i64 0)).cell? ⟨w.heap.size, 0, none⟩ = some (.slice none 0 0) := (blk_cell an2.out 0).trans rfl
          have y1 : ((wr.setCell ⟨w.heap.size, 0, none⟩ (.slice none 0 0)).setCell ⟨w.heap.size, 1, none⟩ (.int .i64 0)).cell? ⟨w.heap.size, 1, none⟩ = some (.int .i64 0) := (blk_cell an2.out 1).trans rfl
          go_wp2
          exact bodyPost_ret (told_results _ _ w.heap.size none 0 0 0 e rfl rfl (blk_drew an2.out)) rfl ⟨_, rfl, Kd.R_nil _ _ _ _ _, bl2.out.drew⟩
end Go.Proofs.YtmeofdpmddjbgaaDoor.G
end
section
namespace Go.Proofs.YtmeofdpmddjbgaaDoor.G
open Go.RowKit Go.Proofs.YtmeofdpmddjbgaaDoorW.PrintWords Go.Proofs.YtmeofdpmddjbgaaDoorW.PrintLast Go.Proofs.YtmeofdpmddjbgaaDoorW.PrintMore
set_option linter.unusedVariables false
set_option linter.unusedSimpArgs false
theorem rawS_e (s : ByteArray) (at_ : Nat) (e n : Int) (h : (rawS s at_ e n).2.2 = 0) : e = 0 := by
  unfold rawS at h
  by_cases c : e = 0
  · exact c
  · rw [if_neg c] at h; exact h
theorem numS_e (s : ByteArray) (at_ : Nat) (e : Int) (h : (numS s at_ e).2.2 = 0) : e = 0 := by
  unfold numS at h
  by_cases c : e = 0
  · exact c
  · rw [if_neg c] at h; exact h
theorem countS_e (s : ByteArray) (at_ : Nat) (e most : Int) (h : (countS s at_ e most).2.2 = 0) : e = 0 ∧ (countS s at_ e most).1 ≤ most := by
  unfold countS at h ⊢
  by_cases c : (numS s at_ e).2.2 = 0 ∧ most < (numS s at_ e).1
  · rw [if_pos c] at h
    exact absurd h (by show ¬ (4 : Int) = 0; decide)
  · rw [if_neg c] at h ⊢
    exact ⟨numS_e s at_ e h, by
      apply Int.not_lt.1
      exact fun q => c ⟨h, q⟩⟩
theorem rawS_size (s : ByteArray) (at_ : Nat) (e n : Int) (m : Nat) (hn : n ≤ m) : (rawS s at_ e n).1.size ≤ m := by
  unfold rawS
  split
  · split
    · exact Nat.zero_le _
    · split
      · exact Nat.zero_le _
      · show (s.extract at_ (at_ + n.toNat)).size ≤ m
        rw [ByteArray.size_extract]
        omega
  · exact Nat.zero_le _
theorem textS_e (s : ByteArray) (at_ : Nat) (e : Int) (most : Nat) (h : (textS s at_ e most).2.2 = 0) : e = 0 ∧ (textS s at_ e most).1.size ≤ most := by
  unfold textS at h ⊢
  have h1 := rawS_e s _ _ _ h
  obtain ⟨h2, h3⟩ := countS_e s at_ e most h1
  exact ⟨h2, rawS_size s _ _ _ most h3⟩
theorem countS_bad (s : ByteArray) (at_ : Nat) (most : Int) (h : (countS s at_ 0 most).2.2 ≠ 0) : (countS s at_ 0 most).1 = 0 := by
  have key : ∀ (d i n a : Nat), (numGo s d i n a).2.2 ≠ 0 → (numGo s d i n a).1 = 0 := by
    intro d
    induction d with
    | zero => intro i n a h; exact absurd rfl h
    | succ d ih =>
      intro i n a h
      unfold numGo at h ⊢
      split
      · rename_i c
        rw [if_pos c] at h
        split
        · rfl
        · rename_i c1
          rw [if_neg c1] at h
          split
          · rename_i c2
            rw [if_pos c2] at h
            exact absurd rfl h
          · rename_i c2
            rw [if_neg c2] at h
            exact ih _ _ _ h
      · rfl
  unfold countS at h ⊢
  by_cases c : (numS s at_ 0).2.2 = 0 ∧ most < (numS s at_ 0).1
  · rw [if_pos c]
  · rw [if_neg c] at h ⊢
    unfold numS at h ⊢
    rw [if_pos rfl] at h ⊢
    exact key _ _ _ _ h
/-- What a file's reading in an image's head gives: the path, the mode, how long; each with the place and the error behind it. -/
structure FileR where
  t : ByteArray × Nat × Int
  m : Int × Nat × Int
  c : Int × Nat × Int
def fileR (s : ByteArray) (at_ : Nat) : FileR :=
  let t := textS s at_ 0 200
  let m := numS s t.2.1 t.2.2
  ⟨t, m, countS s m.2.1 m.2.2 65536⟩
theorem fileR_eqs (s : ByteArray) (at_ : Nat) : (fileR s at_).t = textS s at_ 0 200 ∧ (fileR s at_).m = numS s (fileR s at_).t.2.1 (fileR s at_).t.2.2 ∧ (fileR s at_).c = countS s (fileR s at_).m.2.1 (fileR s at_).m.2.2 65536 := ⟨rfl, rfl, rfl⟩
theorem fileR_at (s : ByteArray) (at_ : Nat) (h : at_ ≤ s.size) : (fileR s at_).t.2.1 ≤ s.size ∧ (fileR s at_).m.2.1 ≤ s.size ∧ (fileR s at_).c.2.1 ≤ s.size := by
  obtain ⟨e1, e2, e3⟩ := fileR_eqs s at_
  have a1 := (textS_at s at_ 0 200 h).2
  rw [← e1] at a1
  have a2 := (numS_at s _ (fileR s at_).t.2.2 a1).2
  rw [← e2] at a2
  have a3 := (countS_at s _ (fileR s at_).m.2.2 65536 a2).2
  rw [← e3] at a3
  exact ⟨a1, a2, a3⟩
theorem fileR_ok (s : ByteArray) (at_ : Nat) (h : (fileR s at_).c.2.2 = 0) : (fileR s at_).t.2.2 = 0 ∧ (fileR s at_).m.2.2 = 0 ∧ 0 ≤ (fileR s at_).c.1 ∧ (fileR s at_).c.1 ≤ 65536 ∧ (fileR s at_).t.1.size ≤ 200 := by
  obtain ⟨e1, e2, e3⟩ := fileR_eqs s at_
  have h3 := h
  rw [e3] at h3
  obtain ⟨o1, o2⟩ := countS_e s _ _ _ h3
  rw [← e3] at o2
  have o3 := (countS_range s (fileR s at_).m.2.1 (fileR s at_).m.2.2 65536).1
  rw [← e3] at o3
  have h2 := o1
  rw [e2] at h2
  have o4 := numS_e s _ _ h2
  have h1 := o4
  rw [e1] at h1
  have o5 : (textS s at_ 0 200).1.size ≤ 200 := (textS_e s at_ 0 200 h1).2
  rw [← e1] at o5
  exact ⟨o4, o1, o3, o2, o5⟩
def headGo (s : ByteArray) : Nat → List S75 → Nat → List S75 × Nat × Int
  | 0, fs, at_ => (fs, at_, 0)
  | d + 1, fs, at_ => if (fileR s at_).c.2.2 = 0 then headGo s d (fs ++ [⟨⟨(fileR s at_).t.1, (fileR s at_).m.1, ⟨#[]⟩⟩, (fileR s at_).c.1⟩]) (fileR s at_).c.2.1 else ([], 0, (fileR s at_).c.2.2)
/-- Behind the last file: is what was read a tree? -/
def headFin (x : List S75 × Nat × Int) : List S75 × Nat × Int := if x.2.2 = 0 then (if checkE (x.1.map (·.f0)) = 0 then x else ([], 0, checkE (x.1.map (·.f0)))) else ([], 0, x.2.2)
def headE (s : ByteArray) : List S75 × Nat × Int := if (countS s 0 0 256).2.2 = 0 then headFin (headGo s (countS s 0 0 256).1.toNat [] (countS s 0 0 256).2.1) else ([], 0, (countS s 0 0 256).2.2)
def imgh (x : List S75 × Nat × Int) : List S33 × List Int × Int × Int := (x.1.map (·.f0), x.1.map (·.f1), (x.2.1 : Int), x.2.2)
theorem imghead_end (s : ByteArray) (hs : s.size ≤ 140737488351232) (fs : List S75) (at_ : Nat) (n : Int) (hf : fs.length ≤ 256) (ha : at_ ≤ s.size) :
    Ev (fun k => image_head.l0 k s (fs.map (·.f0)) (fs.map (·.f1)) n n s (at_ : Int) 0) (imgh (headFin (fs, at_, 0))) := by
  apply Ev.step
  · intro k; rw [image_head.l0]
  have c1 : ¬ (n < n) := Int.lt_irrefl n
  simp only [c1, ↓reduceIte, code_Reader_Err.f, code_Reader_Left.f, Option.bind_some]
  refine Ev.bind (check_ev _ (by rw [List.length_map]; omega)) ?_
  have hw : wrap64 ((s.size : Int) - wrap64 ((s.size : Int) - (at_ : Int))) = (at_ : Int) := by rw [w64_ (i := (s.size : Int) - (at_ : Int)) (by omega) (by omega), w64_ (by omega) (by omega)]; omega
  unfold headFin
  by_cases q : checkE (fs.map (·.f0)) = 0
  · simp only [q, ↓reduceIte, hw]
    exact Ev.now _
  · simp only [q, ↓reduceIte]
    exact Ev.now _
theorem imghead_l0 (s : ByteArray) (hs : s.size ≤ 140737488351232) (cnt : Nat) (hc : cnt ≤ 256) : ∀ (d i : Nat) (fs : List S75) (at_ : Nat), cnt - i = d → i ≤ cnt → fs.length = i → at_ ≤ s.size →
    Ev (fun k => image_head.l0 k s (fs.map (·.f0)) (fs.map (·.f1)) (cnt : Int) (i : Int) s (at_ : Int) 0) (imgh (headFin (headGo s d fs at_))) := by
  intro d
  induction d with
  | zero =>
    intro i fs at_ hd hi hf ha
    have e : i = cnt := by omega
    subst e
    exact imghead_end s hs fs at_ _ (by omega) ha
  | succ d ih =>
    intro i fs at_ hd hi hf ha
    have hd1 : cnt - (i + 1) = d := by omega
    have hi1 : i + 1 ≤ cnt := by omega
    have c1 : ((i : Int) < (cnt : Int)) := by omega
    have c7 : (fs.map (fun y => y.f0)).length < 3518437208883 := by rw [List.length_map]; omega
    have c8 : (fs.map (fun y => y.f1)).length < 17592186044416 := by rw [List.length_map]; omega
    have ho1 : ∀ x : S75, (fs ++ [x]).length = i + 1 := fun x => by rw [List.length_append, List.length_singleton]; omega
    have hw : wrap64 ((i : Int) + 1) = ((i + 1 : Nat) : Int) := by rw [w64_ (by omega) (by omega)]; omega
    obtain ⟨e1, e2, e3⟩ := fileR_eqs s at_
    obtain ⟨a1, a2, a3⟩ := fileR_at s at_ ha
    have t1 := codetext_ev s hs at_ 0 200 ha
    rw [← e1] at t1
    have t2 := codenum_ev s hs _ (fileR s at_).t.2.2 a1
    rw [← e2] at t2
    have t3 := codecount_ev s hs _ (fileR s at_).m.2.2 65536 a2
    rw [← e3] at t3
    unfold headGo
    obtain ⟨r, hr⟩ : ∃ r, fileR s at_ = r := ⟨_, rfl⟩
    rw [hr] at t1 t2 t3 a1 a2 a3 ⊢
    clear e1 e2 e3 hr
    apply Ev.step
    · intro k; rw [image_head.l0]
    simp only [c1, ↓reduceIte]
    refine Ev.bind t1 (Ev.bind t2 (Ev.bind t3 ?_))
    simp only [Option.bind_some, code_Reader_Err.f]
    by_cases q : r.c.2.2 = 0
    · simp only [q, c7, c8, ↓reduceIte, hw]
      have := ih (i + 1) (fs ++ [⟨⟨r.t.1, r.m.1, ⟨#[]⟩⟩, r.c.1⟩]) r.c.2.1 hd1 hi1 (ho1 _) a3
      rw [List.map_append, List.map_append] at this
      exact this
    · simp only [q, ↓reduceIte]
      unfold headFin
      simp only [q, ↓reduceIte]
      exact Ev.now _
theorem headFin_err (e : Int) (he : e ≠ 0) : headFin ([], 0, e) = ([], 0, e) := by
  unfold headFin
  simp only [he, ↓reduceIte]
theorem imghead_ev (s : ByteArray) (hs : s.size ≤ 140737488351232) : Ev (fun k => image_head.f k s) (imgh (headE s)) := by
  unfold image_head.f code_Read.f headE
  simp only [Option.bind_some]
  have t1 := codecount_ev s hs 0 0 256 (Nat.zero_le _)
  have a1 := countS_at s 0 0 256 (Nat.zero_le _)
  have r1 := countS_range s 0 0 256
  have h1 := countS_e s 0 0 256
  have h2 := countS_bad s 0 256
  obtain ⟨c, hc⟩ : ∃ c, countS s 0 0 256 = c := ⟨_, rfl⟩
  rw [hc] at t1 a1 r1 h1 h2 ⊢
  refine Ev.bind t1 ?_
  by_cases q : c.2.2 = 0
  · obtain ⟨_, h3⟩ := h1 q
    have e : c.1 = ((c.1.toNat : Nat) : Int) := by omega
    simp only [q, ↓reduceIte]
    have := imghead_l0 s hs c.1.toNat (by omega) c.1.toNat 0 [] c.2.1 (by omega) (by omega) rfl a1.2
    rw [← e] at this
    exact this
  · simp only [q, ↓reduceIte, h2 q]
    apply Ev.step
    · intro k; rw [image_head.l0]
    have c1 : ¬ ((0 : Int) < 0) := by decide
    simp only [c1, ↓reduceIte, code_Reader_Err.f, Option.bind_some, q]
    exact Ev.now _
def toldR (x : List S75 × Nat × Int) : List S75 × Int × Int := (x.1, (x.2.1 : Int), x.2.2)
/-- Told's rounds: what is left of them once an error is there is nothing. -/
theorem told_l0_ev (s : ByteArray) (hs : s.size ≤ 140737488351232) (cnt : Nat) (hc : cnt ≤ 256) : ∀ (d i : Nat) (fs : List S75) (at_ : Nat), cnt - i = d → i ≤ cnt → fs.length = i → at_ ≤ s.size →
    ∃ (y : List S75) (p : Nat) (e : Int), y.length ≤ 256 ∧ Ev (fun k => told_l0 k (cnt : Int) fs (i : Int) s (at_ : Int) 0) (y, s, (p : Int), e) ∧ (if e = 0 then headGo s d fs at_ = (y, p, 0) else headGo s d fs at_ = ([], 0, e)) := by
  intro d
  induction d with
  | zero =>
    intro i fs at_ hd hi hf ha
    refine ⟨fs, at_, 0, by omega, ?_, by rw [if_pos rfl]; rfl⟩
    apply Ev.step
    · intro k; rw [told_l0]
    have c1 : ¬ ((i : Int) < (cnt : Int)) := by omega
    simp only [c1, ↓reduceIte]
    exact Ev.now _
  | succ d ih =>
    intro i fs at_ hd hi hf ha
    have hd1 : cnt - (i + 1) = d := by omega
    have hi1 : i + 1 ≤ cnt := by omega
    have c1 : ((i : Int) < (cnt : Int)) := by omega
    have c7 : fs.length < 2932031007402 := by omega
    have ho1 : ∀ x : S75, (fs ++ [x]).length = i + 1 := fun x => by rw [List.length_append, List.length_singleton]; omega
    have hw : wrap64 ((i : Int) + 1) = ((i + 1 : Nat) : Int) := by rw [w64_ (by omega) (by omega)]; omega
    obtain ⟨e1, e2, e3⟩ := fileR_eqs s at_
    obtain ⟨a1, a2, a3⟩ := fileR_at s at_ ha
    have t1 := reftextr_ev s hs at_ 0 200 ha
    rw [← e1] at t1
    have t2 := refnumr_ev s hs _ (fileR s at_).t.2.2 a1
    rw [← e2] at t2
    have t3 := refcount_ev s hs _ (fileR s at_).m.2.2 65536 a2
    rw [← e3] at t3
    rw [headGo]
    obtain ⟨r, hr⟩ : ∃ r, fileR s at_ = r := ⟨_, rfl⟩
    rw [hr] at t1 t2 t3 a1 a2 a3 ⊢
    clear e1 e2 e3 hr
    by_cases q : r.c.2.2 = 0
    · obtain ⟨y, p, e, h1, h2, h3⟩ := ih (i + 1) (fs ++ [⟨⟨r.t.1, r.m.1, ⟨#[]⟩⟩, r.c.1⟩]) r.c.2.1 hd1 hi1 (ho1 _) a3
      refine ⟨y, p, e, h1, ?_, by rw [if_pos q]; exact h3⟩
      apply Ev.step
      · intro k; rw [told_l0]
      simp only [c1, c7, ↓reduceIte, hw]
      refine Ev.bind t1 (Ev.bind t2 (Ev.bind t3 ?_))
      rw [q]
      exact h2
    · refine ⟨fs ++ [⟨⟨r.t.1, r.m.1, ⟨#[]⟩⟩, r.c.1⟩], r.c.2.1, r.c.2.2, by rw [ho1]; omega, ?_, by rw [if_neg q, if_neg q]⟩
      apply Ev.step
      · intro k; rw [told_l0]
      simp only [c1, c7, ↓reduceIte, hw]
      refine Ev.bind t1 (Ev.bind t2 (Ev.bind t3 ?_))
      apply Ev.step
      · intro k; rw [told_l0]
      by_cases c2 : ((i + 1 : Nat) : Int) < (cnt : Int)
      · simp only [c2, q, ↓reduceIte]
        exact Ev.now _
      · simp only [c2, ↓reduceIte]
        exact Ev.now _
theorem told_ev (s : ByteArray) (hs : s.size ≤ 140737488351232) : Ev (fun k => barqueref10_Told.f k s) (toldR (headE s)) := by
  unfold barqueref10_Told.f headE
  have t1 := refcount_ev s hs 0 0 256 (Nat.zero_le _)
  have a1 := countS_at s 0 0 256 (Nat.zero_le _)
  have r1 := countS_range s 0 0 256
  have h1 := countS_e s 0 0 256
  have h2 := countS_bad s 0 256
  obtain ⟨c, hc⟩ : ∃ c, countS s 0 0 256 = c := ⟨_, rfl⟩
  rw [hc] at t1 a1 r1 h1 h2 ⊢
  refine Ev.bind t1 ?_
  by_cases q : c.2.2 = 0
  · obtain ⟨_, h3⟩ := h1 q
    have e : c.1 = ((c.1.toNat : Nat) : Int) := by omega
    simp only [q, ↓reduceIte]
    obtain ⟨y, p, e', y1, y2, y3⟩ := told_l0_ev s hs c.1.toNat (by omega) c.1.toNat 0 [] c.2.1 (by omega) (by omega) rfl a1.2
    rw [← e] at y2
    refine Ev.bind y2 ?_
    by_cases g : e' = 0
    · subst g
      rw [if_pos rfl] at y3
      rw [y3]
      simp only [↓reduceIte]
      refine Ev.bind (refcheck_ev _ (by rw [List.length_map]; omega)) ?_
      unfold headFin toldR
      by_cases g2 : checkE (y.map (·.f0)) = 0
      · simp only [g2, ↓reduceIte]
        exact Ev.now _
      · simp only [g2, ↓reduceIte]
        exact Ev.now _
    · rw [if_neg g] at y3
      rw [y3, headFin_err _ g]
      simp only [g, ↓reduceIte]
      exact Ev.now _
  · simp only [q, ↓reduceIte, h2 q]
    refine Ev.bind (a := ([], s, (c.2.1 : Int), c.2.2)) ?_ ?_
    · apply Ev.step
      · intro k; rw [told_l0]
      have c1 : ¬ ((0 : Int) < 0) := by decide
      simp only [c1, ↓reduceIte]
      exact Ev.now _
    · simp only [q, ↓reduceIte]
      exact Ev.now _
end Go.Proofs.YtmeofdpmddjbgaaDoor.G
end
section
namespace Go.Proofs.YtmeofdpmddjbgaaDoor.G
open Go.RowKit Go.Proofs.YtmeofdpmddjbgaaDoorW.PrintWords Go.Proofs.YtmeofdpmddjbgaaDoorW.PrintLast Go.Proofs.YtmeofdpmddjbgaaDoorW.PrintMore
attribute [local go_sem] max2_int min2_int max_two min_two max_three min_three max_four min_four   -- for this text's walks alone
set_option linter.unusedVariables false
set_option linter.unusedSimpArgs false
mutual
def barquelaw10_few.l0 : Nat → List (S33) → List (S33) → Int → Int → Option ((List (S33)))
  | 0, _, _, _, _ => none
  | k + 1, x0, x3, x4, x5 => if x5 < (x0.length : Int) then (barquelaw10_few.j1 k x0 x3 x4 x5 (decide (x5 < 60))) else (barquelaw10_few.j1 k x0 x3 x4 x5 false)
def barquelaw10_few.j1 : Nat → List (S33) → List (S33) → Int → Int → Bool → Option ((List (S33)))
  | 0, _, _, _, _, _ => none
  | k + 1, x0, x3, x4, x5, x14 => if x14 = true then (if 0 ≤ x5 then (if x5 < (x0.length : Int) then (if (((rd_T33 x0 x5).f2).size : Int) > (wrap64 (20000 - x4)) then (if x3.length < 3518437208883 then (barquelaw10_few.l0 k x0 (x3 ++ [(⟨(rd_T33 x0 x5).f0, (rd_T33 x0 x5).f1, (⟨#[]⟩ : ByteArray)⟩ : S33)]) (wrap64 (x4 + 0)) (wrap64 (x5 + 1))) else (none)) else (if x3.length < 3518437208883 then (barquelaw10_few.l0 k x0 (x3 ++ [(⟨(rd_T33 x0 x5).f0, (rd_T33 x0 x5).f1, (rd_T33 x0 x5).f2⟩ : S33)]) (wrap64 (x4 + (((rd_T33 x0 x5).f2).size : Int))) (wrap64 (x5 + 1))) else (none))) else (none)) else (none)) else (some x3)
end
def barquelaw10_few.f (k : Nat) (l0 : List (S33)) : Option ((List (S33))) := barquelaw10_few.l0 k l0 ([] : List (S33)) 0 0
theorem barquelaw10_few.mono_l : ∀ k, (∀ y0 y1 y2 y3, LeO (barquelaw10_few.l0 k y0 y1 y2 y3) (barquelaw10_few.l0 (k + 1) y0 y1 y2 y3)) ∧ (∀ y0 y1 y2 y3 y4, LeO (barquelaw10_few.j1 k y0 y1 y2 y3 y4) (barquelaw10_few.j1 (k + 1) y0 y1 y2 y3 y4))
  | 0 => ⟨fun _ _ _ _ r h => by simp [barquelaw10_few.l0] at h, fun _ _ _ _ _ r h => by simp [barquelaw10_few.j1] at h⟩
  | k + 1 => by
    obtain ⟨ih0, ih1⟩ := barquelaw10_few.mono_l k
    refine ⟨?_, ?_⟩
    · intro y0 y1 y2 y3
      unfold barquelaw10_few.l0
      repeat' first
      | (with_reducible exact ih0 _ _ _ _)
      | (with_reducible exact ih1 _ _ _ _ _)
      | (with_reducible exact LeO.refl _)
      | (with_reducible exact LeO.none _)
      | (with_reducible refine LeO.ite ?_ ?_)
      | (with_reducible refine LeO.bind ?_ (fun _ => ?_))
      | exact ih0 _ _ _ _
      | exact ih1 _ _ _ _ _
      | exact LeO.none _
      | refine LeO.ite ?_ ?_
      | refine LeO.bind ?_ (fun _ => ?_)
    · intro y0 y1 y2 y3 y4
      unfold barquelaw10_few.j1
      repeat' first
      | (with_reducible exact ih0 _ _ _ _)
      | (with_reducible exact ih1 _ _ _ _ _)
      | (with_reducible exact LeO.refl _)
      | (with_reducible exact LeO.none _)
      | (with_reducible refine LeO.ite ?_ ?_)
      | (with_reducible refine LeO.bind ?_ (fun _ => ?_))
      | exact ih0 _ _ _ _
      | exact ih1 _ _ _ _ _
      | exact LeO.none _
      | refine LeO.ite ?_ ?_
      | refine LeO.bind ?_ (fun _ => ?_)
theorem barquelaw10_few.mono : ∀ a0 k, LeO (barquelaw10_few.f k a0) (barquelaw10_few.f (k + 1) a0) := by
  intro a0 k
  obtain ⟨ih0, ih1⟩ := barquelaw10_few.mono_l k
  unfold barquelaw10_few.f
  repeat' first
      | (with_reducible exact ih0 _ _ _ _)
      | (with_reducible exact ih1 _ _ _ _ _)
      | (with_reducible exact LeO.refl _)
      | (with_reducible exact LeO.none _)
      | (with_reducible refine LeO.ite ?_ ?_)
      | (with_reducible refine LeO.bind ?_ (fun _ => ?_))
      | exact ih0 _ _ _ _
      | exact ih1 _ _ _ _ _
      | exact LeO.none _
      | refine LeO.ite ?_ ?_
      | refine LeO.bind ?_ (fun _ => ?_)
set_option maxHeartbeats 8000000 in
set_option maxRecDepth 100000 in
theorem barquelaw10_few.calls (k : Nat) (A0 : Option Addr) (c0 : Nat) (l0 : List (S33)) (r : List (S33)) (w : World) (hr0 : Kd.C k33 w A0 l0.length l0) (hc0 : l0.length ≤ c0) (h : barquelaw10_few.f k l0 = some r) :
    Calls Tryd.prog 11 #[.slice A0 l0.length c0] w fun e w' => ∃ v0_ : Value, e = .returned (v0_) ∧ Kd.R k33 33 w' w.heap.size (fun _ => True) v0_ r ∧ Below w.heap.size w w' := by
  have hu33 := Tryd.underlying33
  have HR0 := Aside0.mk hr0
  have HC0 := Aside0.mk hc0
  clear hr0 hc0
  have HB := Aside0.mk (Below.refl w.heap.size w)
  have H : (barquelaw10_few.l0 k l0 ([] : List (S33)) 0 0) = some r := h
  clear h
  have H' := Aside0.mk H
  clear H
  go_enter Tryd.func11, Tryd.ntmps11
  go_wp2
  go_loopg [3, 4, 5] k (fun kq v3 v4 v5 w' => ∃ (x3_1 : List (S33)) (x4_1 : Int) (x5_1 : Int), v4 = .int .i64 x4_1 ∧ v5 = .int .i64 x5_1 ∧ Aside0 (barquelaw10_few.l0 kq l0 x3_1 x4_1 x5_1 = some r) ∧ Aside0 (kq ≤ k) ∧ Aside0 (Kd.R k33 33 w' w.heap.size (fun _ => True) v3 x3_1) ∧ Aside0 (Below w.heap.size w w'))
  case atStart => exact ⟨(([] : List (S33))), (0), (0), (by first | rfl | (simp; done) | (simp [*]; done)), (by first | rfl | (simp; done) | (simp [*]; done)), H', ⟨Nat.le_refl _⟩, ⟨by first | exact Kd.R_nil _ _ _ _ _ | exact Kd.N_nil _ _ _ _ _ | exact Kd.V_nil _ _ _ _ _ | exact Kd.Q_nil _ _ _ _ _ | exact Kd.S_nil _ _ _ _ _⟩, ⟨by repeat (first | (with_reducible first | exact HB.out | apply below_alloc | apply pw_below_drewN | apply below_drew1) | exact HB.out)⟩⟩
  case round =>
    clear H'
    try clear c1
    obtain ⟨x3_1, x4_1, x5_1, rfl, rfl, HA, HK1, HO_3, HB⟩ := hrel
    cases gk with
    | zero => exact absurd HA.out (by simp [barquelaw10_few.l0])
    | succ k1 =>
      have H := HA.out
      clear HA
      simp only [barquelaw10_few.l0] at H
      have HC2 := Aside0.mk H
      clear H
      go_upto_region 4 with (fail)
      go_cut [14] (fun v14 wc => ∃ (kq : Nat) (x14_1 : Bool), v14 = .bool x14_1 ∧ Aside0 (barquelaw10_few.j1 kq l0 x3_1 x4_1 x5_1 x14_1 = some r) ∧ Aside0 (kq ≤ k1) ∧ Aside0 (Kd.R k33 33 wc w.heap.size (fun _ => True) u3 x3_1) ∧ Aside0 (Below w.heap.size w wc))
      case first =>
        have H := HC2.out
        clear HC2
        by_cases c3 : x5_1 < (l0.length : Int)
        · rw [if_pos c3] at H
          have c3b0 : decide (x5_1 < (l0.length : Int)) = true := decide_eq_true c3
          clear c3
          (first | rw [c3b0] | (simp only [i64_w, i32_w]; rw [c3b0]) | skip)
          have H' := Aside0.mk H
          clear H
          go_wp2
          go_meet
          case rel => exact ⟨_, (decide (x5_1 < 60)), (by first | rfl | (simp; done) | (simp [*]; done)), H', ⟨by have := HK1.out; first | omega | exact Nat.le_refl _⟩, ⟨by (with_reducible repeat (first | apply Kd.R_alloc | apply Kd.R_drewN | apply Kd.R_drew)); exact HO_3.out⟩, ⟨by repeat (first | (with_reducible first | exact HB.out | apply below_alloc | apply pw_below_drewN | apply below_drew1) | exact HB.out)⟩⟩
        · rw [if_neg c3] at H
          have c3b0 : decide (x5_1 < (l0.length : Int)) = false := decide_eq_false c3
          clear c3
          (first | rw [c3b0] | (simp only [i64_w, i32_w]; rw [c3b0]) | skip)
          have H' := Aside0.mk H
          clear H
          go_wp2
          go_meet
          case rel => exact ⟨_, (false), (by first | rfl | (simp; done) | (simp [*]; done)), H', ⟨by have := HK1.out; first | omega | exact Nat.le_refl _⟩, ⟨by (with_reducible repeat (first | apply Kd.R_alloc | apply Kd.R_drewN | apply Kd.R_drew)); exact HO_3.out⟩, ⟨by repeat (first | (with_reducible first | exact HB.out | apply below_alloc | apply pw_below_drewN | apply below_drew1) | exact HB.out)⟩⟩
      case rest =>
        clear HC2
        try clear c1
        try clear p2
        try clear c3
        try clear c3b0
        obtain ⟨kq, x14_1, rfl, HA, HJ1, HO_3, HB⟩ := hcut
        cases kq with
        | zero => exact absurd HA.out (by simp [barquelaw10_few.j1])
        | succ kj1 =>
          have H := HA.out
          clear HA
          simp only [barquelaw10_few.j1] at H
          by_cases c4 : x14_1 = true
          · subst c4
            have H1 : (if 0 ≤ x5_1 then (if x5_1 < (l0.length : Int) then (if (((rd_T33 l0 x5_1).f2).size : Int) > (wrap64 (20000 - x4_1)) then (if x3_1.length < 3518437208883 then (barquelaw10_few.l0 kj1 l0 (x3_1 ++ [(⟨(rd_T33 l0 x5_1).f0, (rd_T33 l0 x5_1).f1, (⟨#[]⟩ : ByteArray)⟩ : S33)]) (wrap64 (x4_1 + 0)) (wrap64 (x5_1 + 1))) else (none)) else (if x3_1.length < 3518437208883 then (barquelaw10_few.l0 kj1 l0 (x3_1 ++ [(⟨(rd_T33 l0 x5_1).f0, (rd_T33 l0 x5_1).f1, (rd_T33 l0 x5_1).f2⟩ : S33)]) (wrap64 (x4_1 + (((rd_T33 l0 x5_1).f2).size : Int))) (wrap64 (x5_1 + 1))) else (none))) else (none)) else (none)) = some r := by rw [if_pos rfl] at H; exact H
            clear H
            have H := H1
            clear H1
            by_cases c5 : 0 ≤ x5_1
            · rw [if_pos c5] at H
              have c5b0 : decide (0 ≤ x5_1) = true := decide_eq_true c5
              clear c5
              by_cases c6 : x5_1 < (l0.length : Int)
              · rw [if_pos c6] at H
                have c6b0 : decide (x5_1 < (l0.length : Int)) = true := decide_eq_true c6
                clear c6
                by_cases c7 : (((rd_T33 l0 x5_1).f2).size : Int) > (wrap64 (20000 - x4_1))
                · rw [if_pos c7] at H
                  have c7b0 : decide ((wrap64 (20000 - x4_1)) < (((rd_T33 l0 x5_1).f2).size : Int)) = true := decide_eq_true c7
                  clear c7
                  by_cases c8 : x3_1.length < 3518437208883
                  · rw [if_pos c8] at H
                    have LMc8 := Aside0.mk c8
                    clear c8
                    obtain ⟨y103, hy103⟩ : ∃ y_ : List (S33), y_ = (x3_1 ++ [(⟨(rd_T33 l0 x5_1).f0, (rd_T33 l0 x5_1).f1, (⟨#[]⟩ : ByteArray)⟩ : S33)]) := ⟨_, rfl⟩
                    replace H : (barquelaw10_few.l0 kj1 l0 y103 (wrap64 (x4_1 + 0)) (wrap64 (x5_1 + 1))) = some r := by first | (rw [hy103]; with_reducible exact H) | (have H2_ := (Option.bind_some _ _).symm.trans H; rw [hy103]; with_reducible exact H2_) | (have H2_ := (Option.bind_some _ _).symm.trans H; with_reducible exact H2_) | with_reducible exact H | (rw [hy103]; exact H) | exact H
                    have Ny103 := Aside0.mk hy103
                    clear hy103
                    have H' := Aside0.mk H
                    clear H
                    have p101 : 0 ≤ (x5_1 : Int) := of_decide_eq_true (by first | (with_reducible assumption) | assumption)
                    have q101 : x5_1 < (l0.length : Int) := of_decide_eq_true (by first | (with_reducible assumption) | assumption)
                    obtain ⟨ad101, e101, hx101_0, hx101_1, hx101_2⟩ := at_T33 HR0.out x5_1 p101 q101
                    cases e101
                    replace hx101_0 := (HB.out.cell (World.block_lt_of_cell? w _ hx101_0)).trans hx101_0
                    replace hx101_1 := (HB.out.cell (World.block_lt_of_cell? w _ hx101_1)).trans hx101_1
                    replace hx101_2 := (HB.out.cell (World.block_lt_of_cell? w _ hx101_2)).trans hx101_2
                    replace p101 := eq_true p101
                    replace q101 := eq_true q101
                    go_wp2_with (first | ((with_reducible refine gate_dst (N := 6) rfl ?_); refine box_event ?hg (N := 6) ?hd (cs := #[.string (⟨#[]⟩ : ByteArray), .int .i64 0, .string (⟨#[]⟩ : ByteArray)]) (t := 33) ?hr ?_; (case hd => rfl); (case hg => rfl); (case hr => first | (go_simp; done) | (go_simp; rfl)); intro gb102 hg w9 hbox hb; have n0_ := Aside0.mk (Kd.R_below (Kd.R_elderB (by (with_reducible repeat (first | apply Kd.R_alloc | apply Kd.R_drewN | apply Kd.R_drew)); exact HO_3.out) gb102 (Nat.le_of_eq hg.symm)) hb); have n1_ := Aside0.mk (below_step (by repeat (first | (with_reducible first | exact HB.out | apply below_alloc | apply pw_below_drewN | apply below_drew1) | exact HB.out)) hb); have n2_ := Aside0.mk (hbox); have n3_ := Aside0.mk ((by rw [hg]; exact (below_size (by repeat (first | (with_reducible first | exact HB.out | apply below_alloc | apply pw_below_drewN | apply below_drew1) | exact HB.out))) : w.heap.size ≤ gb102)); have n4_ := Aside0.mk ((by rw [hg]; exact (below_size (by repeat (first | (with_reducible first | exact HB.out | apply below_alloc | apply pw_below_drewN | apply below_drew1) | exact HB.out))) : w.heap.size ≤ gb102)); clear HO_3; clear HB; have HO_3 := n0_; have HB := n1_; have BK102 := n2_; have GW102 := n3_; have GE102 := n4_; clear n0_ n1_ n2_ n3_ n4_; clear hb hbox hg; have hcz10_0 : w9.cell? ⟨gb102, 0, none⟩ = some (.string (⟨#[]⟩ : ByteArray)) := (blk_cell BK102.out 0).trans rfl; have hcz10_1 : w9.cell? ⟨gb102, 1, none⟩ = some (.int .i64 0) := (blk_cell BK102.out 1).trans rfl; have hcz10_2 : w9.cell? ⟨gb102, 2, none⟩ = some (.string (⟨#[]⟩ : ByteArray)) := (blk_cell BK102.out 2).trans rfl; have hfz10_0 := blk_frozen BK102.out 0; have hfz10_1 := blk_frozen BK102.out 1; have hfz10_2 := blk_frozen BK102.out 2; have hq0_ : ∀ (a_ b_ c_ d_ : Value), ((((w9.setCell ⟨gb102, 0, none⟩ a_).setCell ⟨gb102, 1, none⟩ b_).setCell ⟨gb102, 2, none⟩ c_).setCell ⟨gb102, 2, none⟩ d_).cell? ⟨gb102, 0, none⟩ = some a_ := fun a_ b_ c_ d_ => (blk_cell (blk_put (blk_put (blk_put (blk_put BK102.out 0 a_ rfl) 1 b_ rfl) 2 c_ rfl) 2 d_ rfl) 0).trans rfl; have hq1_ : ∀ (a_ b_ c_ d_ : Value), ((((w9.setCell ⟨gb102, 0, none⟩ a_).setCell ⟨gb102, 1, none⟩ b_).setCell ⟨gb102, 2, none⟩ c_).setCell ⟨gb102, 2, none⟩ d_).cell? ⟨gb102, 1, none⟩ = some b_ := fun a_ b_ c_ d_ => (blk_cell (blk_put (blk_put (blk_put (blk_put BK102.out 0 a_ rfl) 1 b_ rfl) 2 c_ rfl) 2 d_ rfl) 1).trans rfl; have hq2_ : ∀ (a_ b_ c_ d_ : Value), ((((w9.setCell ⟨gb102, 0, none⟩ a_).setCell ⟨gb102, 1, none⟩ b_).setCell ⟨gb102, 2, none⟩ c_).setCell ⟨gb102, 2, none⟩ d_).cell? ⟨gb102, 2, none⟩ = some d_ := fun a_ b_ c_ d_ => (blk_cell (blk_put (blk_put (blk_put (blk_put BK102.out 0 a_ rfl) 1 b_ rfl) 2 c_ rfl) 2 d_ rfl) 2).trans rfl) | ((with_reducible refine gate_builtin (b := .append) (xs := #[.tmp 33, .tmp 35]) rfl ?_); at_builtin; refine Kd.R_append k33 (w0 := w) w.heap.size rfl (.tmp 33) (.tmp 35) 22 33 (.agg #[(.string ⟨#[]⟩), (.int .i64 0), (.string ⟨#[]⟩)]) 40 rfl Tryd.underlying22 info33 rfl (by decide) (by omega) u3 x3_1 (⟨(rd_T33 l0 x5_1).f0, (rd_T33 l0 x5_1).f1, (⟨#[]⟩ : ByteArray)⟩ : S33) [.string ((rd_T33 l0 x5_1).f0), .int .i64 ((rd_T33 l0 x5_1).f1), .string (⟨#[]⟩ : ByteArray)] (fun k_ => k_ ≠ gb102) (fun _ => False) rfl (by first | (go_simp; done) | (go_simp; rfl)) ?aP (fun _ hk => hk.elim) ?aF ?aO ?aB ?aS ?aL ?_; (case aP => exact k33_mkM _ _ _ (⟨(rd_T33 l0 x5_1).f0, (rd_T33 l0 x5_1).f1, (⟨#[]⟩ : ByteArray)⟩ : S33)); (case aB => exact (by repeat (first | (with_reducible first | exact HB.out | apply below_alloc | apply pw_below_drewN | apply below_drew1 | refine below_set ?_ GE102.out) | exact HB.out))); (case aF => exact (fun k_ hk => Kd.freshB (g := gb102) (o := .cells #[.string ((rd_T33 l0 x5_1).f0), .int .i64 ((rd_T33 l0 x5_1).f1), .string (⟨#[]⟩ : ByteArray)] 33 (0, 0)) (by (with_reducible repeat (first | refine blk_drewN ?_ _ | refine blk_drew ?_ | refine blk_alloc ?_ _)); refine blk_put (cs := #[.string ((rd_T33 l0 x5_1).f0), .int .i64 ((rd_T33 l0 x5_1).f1), .string ((rd_T33 l0 x5_1).f2)]) ?_ 2 _ rfl; (with_reducible repeat (first | refine blk_drewN ?_ _ | refine blk_drew ?_ | refine blk_alloc ?_ _)); refine blk_put (cs := #[.string ((rd_T33 l0 x5_1).f0), .int .i64 ((rd_T33 l0 x5_1).f1), .string (⟨#[]⟩ : ByteArray)]) ?_ 2 _ rfl; (with_reducible repeat (first | refine blk_drewN ?_ _ | refine blk_drew ?_ | refine blk_alloc ?_ _)); refine blk_put (cs := #[.string ((rd_T33 l0 x5_1).f0), .int .i64 0, .string (⟨#[]⟩ : ByteArray)]) ?_ 1 _ rfl; (with_reducible repeat (first | refine blk_drewN ?_ _ | refine blk_drew ?_ | refine blk_alloc ?_ _)); refine blk_put (cs := #[.string (⟨#[]⟩ : ByteArray), .int .i64 0, .string (⟨#[]⟩ : ByteArray)]) ?_ 0 _ rfl; (with_reducible repeat (first | refine blk_drewN ?_ _ | refine blk_drew ?_ | refine blk_alloc ?_ _)); exact BK102.out) k_ hk)); (case aO => exact (by (with_reducible repeat (first | apply Kd.R_alloc | apply Kd.R_drewN | apply Kd.R_drew)); exact Kd.R_mono (Kd.R_far (p := ⟨gb102, 2, none⟩) (Kd.R_far (p := ⟨gb102, 2, none⟩) (Kd.R_far (p := ⟨gb102, 1, none⟩) (Kd.R_far (p := ⟨gb102, 0, none⟩) (Kd.R_mono HO_3.out (fun k_ hk => (⟨hk, hk.2⟩ : _ ∧ k_ ≠ gb102))) (fun _ hk => hk.2) (.string ((rd_T33 l0 x5_1).f0))) (fun _ hk => hk.2) (.int .i64 ((rd_T33 l0 x5_1).f1))) (fun _ hk => hk.2) (.string ((rd_T33 l0 x5_1).f2))) (fun _ hk => hk.2) (.string (⟨#[]⟩ : ByteArray))) (fun _ hk => hk.1.2))); (case aS => exact (below_size (by repeat (first | (with_reducible first | exact HB.out | apply below_alloc | apply pw_below_drewN | apply below_drew1 | refine below_set ?_ GE102.out) | exact HB.out)))); (case aL => have := LMc8.out; omega); intro v104 w11 ho hb hg hat; rw [← Ny103.out] at ho; have n0_ := Aside0.mk (blk_grown (g := gb102) (o := .cells #[.string ((rd_T33 l0 x5_1).f0), .int .i64 ((rd_T33 l0 x5_1).f1), .string (⟨#[]⟩ : ByteArray)] 33 (0, 0)) (by (with_reducible repeat (first | refine blk_drewN ?_ _ | refine blk_drew ?_ | refine blk_alloc ?_ _)); refine blk_put (cs := #[.string ((rd_T33 l0 x5_1).f0), .int .i64 ((rd_T33 l0 x5_1).f1), .string ((rd_T33 l0 x5_1).f2)]) ?_ 2 _ rfl; (with_reducible repeat (first | refine blk_drewN ?_ _ | refine blk_drew ?_ | refine blk_alloc ?_ _)); refine blk_put (cs := #[.string ((rd_T33 l0 x5_1).f0), .int .i64 ((rd_T33 l0 x5_1).f1), .string (⟨#[]⟩ : ByteArray)]) ?_ 2 _ rfl; (with_reducible repeat (first | refine blk_drewN ?_ _ | refine blk_drew ?_ | refine blk_alloc ?_ _)); refine blk_put (cs := #[.string ((rd_T33 l0 x5_1).f0), .int .i64 0, .string (⟨#[]⟩ : ByteArray)]) ?_ 1 _ rfl; (with_reducible repeat (first | refine blk_drewN ?_ _ | refine blk_drew ?_ | refine blk_alloc ?_ _)); refine blk_put (cs := #[.string (⟨#[]⟩ : ByteArray), .int .i64 0, .string (⟨#[]⟩ : ByteArray)]) ?_ 0 _ rfl; (with_reducible repeat (first | refine blk_drewN ?_ _ | refine blk_drew ?_ | refine blk_alloc ?_ _)); exact BK102.out) hg (Kd.R_away HO_3.out (fun _ hk => hk.2))); have n1_ := Aside0.mk (hb); have n2_ := Aside0.mk (ho); clear BK102; clear HB; clear HO_3; have BK102 := n0_; have HB := n1_; have HO105 := n2_; clear n0_ n1_ n2_; clear ho hb hg hat))
                    go_roundg kj1
                    case measure => have := HK1.out; have := HJ1.out; omega
                    case rel => exact ⟨(y103), (wrap64 (x4_1 + 0)), (wrap64 (x5_1 + 1)), (by first | rfl | (simp; done) | (simp [*]; done)), (by first | rfl | (simp; done) | (simp [*]; done)), H', ⟨by have := HK1.out; have := HJ1.out; omega⟩, ⟨by (with_reducible repeat (first | apply Kd.R_alloc | apply Kd.R_drewN | apply Kd.R_drew)); exact Kd.R_mono HO105.out (fun _ hk => trivial)⟩, ⟨by repeat (first | (with_reducible first | exact HB.out | apply below_alloc | apply pw_below_drewN | apply below_drew1 | refine below_set ?_ GE102.out) | exact HB.out)⟩⟩
                  · rw [if_neg c8] at H
                    exact absurd H (by simp)
                · rw [if_neg c7] at H
                  have c7b0 : decide ((wrap64 (20000 - x4_1)) < (((rd_T33 l0 x5_1).f2).size : Int)) = false := decide_eq_false c7
                  clear c7
                  by_cases c12 : x3_1.length < 3518437208883
                  · rw [if_pos c12] at H
                    have LMc12 := Aside0.mk c12
                    clear c12
                    obtain ⟨y106, hy106⟩ : ∃ y_ : List (S33), y_ = (x3_1 ++ [(⟨(rd_T33 l0 x5_1).f0, (rd_T33 l0 x5_1).f1, (rd_T33 l0 x5_1).f2⟩ : S33)]) := ⟨_, rfl⟩
                    replace H : (barquelaw10_few.l0 kj1 l0 y106 (wrap64 (x4_1 + (((rd_T33 l0 x5_1).f2).size : Int))) (wrap64 (x5_1 + 1))) = some r := by first | (rw [hy106]; with_reducible exact H) | (have H2_ := (Option.bind_some _ _).symm.trans H; rw [hy106]; with_reducible exact H2_) | (have H2_ := (Option.bind_some _ _).symm.trans H; with_reducible exact H2_) | with_reducible exact H | (rw [hy106]; exact H) | exact H
                    have Ny106 := Aside0.mk hy106
                    clear hy106
                    have H' := Aside0.mk H
                    clear H
                    have p101 : 0 ≤ (x5_1 : Int) := of_decide_eq_true (by first | (with_reducible assumption) | assumption)
                    have q101 : x5_1 < (l0.length : Int) := of_decide_eq_true (by first | (with_reducible assumption) | assumption)
                    obtain ⟨ad101, e101, hx101_0, hx101_1, hx101_2⟩ := at_T33 HR0.out x5_1 p101 q101
                    cases e101
                    replace hx101_0 := (HB.out.cell (World.block_lt_of_cell? w _ hx101_0)).trans hx101_0
                    replace hx101_1 := (HB.out.cell (World.block_lt_of_cell? w _ hx101_1)).trans hx101_1
                    replace hx101_2 := (HB.out.cell (World.block_lt_of_cell? w _ hx101_2)).trans hx101_2
                    replace p101 := eq_true p101
                    replace q101 := eq_true q101
                    go_wp2_with (first | ((with_reducible refine gate_dst (N := 6) rfl ?_); refine box_event ?hg (N := 6) ?hd (cs := #[.string (⟨#[]⟩ : ByteArray), .int .i64 0, .string (⟨#[]⟩ : ByteArray)]) (t := 33) ?hr ?_; (case hd => rfl); (case hg => rfl); (case hr => first | (go_simp; done) | (go_simp; rfl)); intro gb102 hg w13 hbox hb; have n0_ := Aside0.mk (Kd.R_below (Kd.R_elderB (by (with_reducible repeat (first | apply Kd.R_alloc | apply Kd.R_drewN | apply Kd.R_drew)); exact HO_3.out) gb102 (Nat.le_of_eq hg.symm)) hb); have n1_ := Aside0.mk (below_step (by repeat (first | (with_reducible first | exact HB.out | apply below_alloc | apply pw_below_drewN | apply below_drew1) | exact HB.out)) hb); have n2_ := Aside0.mk (hbox); have n3_ := Aside0.mk ((by rw [hg]; exact (below_size (by repeat (first | (with_reducible first | exact HB.out | apply below_alloc | apply pw_below_drewN | apply below_drew1) | exact HB.out))) : w.heap.size ≤ gb102)); have n4_ := Aside0.mk ((by rw [hg]; exact (below_size (by repeat (first | (with_reducible first | exact HB.out | apply below_alloc | apply pw_below_drewN | apply below_drew1) | exact HB.out))) : w.heap.size ≤ gb102)); clear HO_3; clear HB; have HO_3 := n0_; have HB := n1_; have BK102 := n2_; have GW102 := n3_; have GE102 := n4_; clear n0_ n1_ n2_ n3_ n4_; clear hb hbox hg; have hcz14_0 : w13.cell? ⟨gb102, 0, none⟩ = some (.string (⟨#[]⟩ : ByteArray)) := (blk_cell BK102.out 0).trans rfl; have hcz14_1 : w13.cell? ⟨gb102, 1, none⟩ = some (.int .i64 0) := (blk_cell BK102.out 1).trans rfl; have hcz14_2 : w13.cell? ⟨gb102, 2, none⟩ = some (.string (⟨#[]⟩ : ByteArray)) := (blk_cell BK102.out 2).trans rfl; have hfz14_0 := blk_frozen BK102.out 0; have hfz14_1 := blk_frozen BK102.out 1; have hfz14_2 := blk_frozen BK102.out 2; have hq0_ : ∀ (a_ b_ c_ d_ : Value), ((((w13.setCell ⟨gb102, 0, none⟩ a_).setCell ⟨gb102, 1, none⟩ b_).setCell ⟨gb102, 2, none⟩ c_).setCell ⟨gb102, 2, none⟩ d_).cell? ⟨gb102, 0, none⟩ = some a_ := fun a_ b_ c_ d_ => (blk_cell (blk_put (blk_put (blk_put (blk_put BK102.out 0 a_ rfl) 1 b_ rfl) 2 c_ rfl) 2 d_ rfl) 0).trans rfl; have hq1_ : ∀ (a_ b_ c_ d_ : Value), ((((w13.setCell ⟨gb102, 0, none⟩ a_).setCell ⟨gb102, 1, none⟩ b_).setCell ⟨gb102, 2, none⟩ c_).setCell ⟨gb102, 2, none⟩ d_).cell? ⟨gb102, 1, none⟩ = some b_ := fun a_ b_ c_ d_ => (blk_cell (blk_put (blk_put (blk_put (blk_put BK102.out 0 a_ rfl) 1 b_ rfl) 2 c_ rfl) 2 d_ rfl) 1).trans rfl; have hq2_ : ∀ (a_ b_ c_ d_ : Value), ((((w13.setCell ⟨gb102, 0, none⟩ a_).setCell ⟨gb102, 1, none⟩ b_).setCell ⟨gb102, 2, none⟩ c_).setCell ⟨gb102, 2, none⟩ d_).cell? ⟨gb102, 2, none⟩ = some d_ := fun a_ b_ c_ d_ => (blk_cell (blk_put (blk_put (blk_put (blk_put BK102.out 0 a_ rfl) 1 b_ rfl) 2 c_ rfl) 2 d_ rfl) 2).trans rfl) | ((with_reducible refine gate_builtin (b := .append) (xs := #[.tmp 33, .tmp 35]) rfl ?_); at_builtin; refine Kd.R_append k33 (w0 := w) w.heap.size rfl (.tmp 33) (.tmp 35) 22 33 (.agg #[(.string ⟨#[]⟩), (.int .i64 0), (.string ⟨#[]⟩)]) 40 rfl Tryd.underlying22 info33 rfl (by decide) (by omega) u3 x3_1 (⟨(rd_T33 l0 x5_1).f0, (rd_T33 l0 x5_1).f1, (rd_T33 l0 x5_1).f2⟩ : S33) [.string ((rd_T33 l0 x5_1).f0), .int .i64 ((rd_T33 l0 x5_1).f1), .string ((rd_T33 l0 x5_1).f2)] (fun k_ => k_ ≠ gb102) (fun _ => False) rfl (by first | (go_simp; done) | (go_simp; rfl)) ?aP (fun _ hk => hk.elim) ?aF ?aO ?aB ?aS ?aL ?_; (case aP => exact k33_mkM _ _ _ (⟨(rd_T33 l0 x5_1).f0, (rd_T33 l0 x5_1).f1, (rd_T33 l0 x5_1).f2⟩ : S33)); (case aB => exact (by repeat (first | (with_reducible first | exact HB.out | apply below_alloc | apply pw_below_drewN | apply below_drew1 | refine below_set ?_ GE102.out) | exact HB.out))); (case aF => exact (fun k_ hk => Kd.freshB (g := gb102) (o := .cells #[.string ((rd_T33 l0 x5_1).f0), .int .i64 ((rd_T33 l0 x5_1).f1), .string ((rd_T33 l0 x5_1).f2)] 33 (0, 0)) (by (with_reducible repeat (first | refine blk_drewN ?_ _ | refine blk_drew ?_ | refine blk_alloc ?_ _)); refine blk_put (cs := #[.string ((rd_T33 l0 x5_1).f0), .int .i64 ((rd_T33 l0 x5_1).f1), .string (⟨#[]⟩ : ByteArray)]) ?_ 2 _ rfl; (with_reducible repeat (first | refine blk_drewN ?_ _ | refine blk_drew ?_ | refine blk_alloc ?_ _)); refine blk_put (cs := #[.string ((rd_T33 l0 x5_1).f0), .int .i64 0, .string (⟨#[]⟩ : ByteArray)]) ?_ 1 _ rfl; (with_reducible repeat (first | refine blk_drewN ?_ _ | refine blk_drew ?_ | refine blk_alloc ?_ _)); refine blk_put (cs := #[.string (⟨#[]⟩ : ByteArray), .int .i64 0, .string (⟨#[]⟩ : ByteArray)]) ?_ 0 _ rfl; (with_reducible repeat (first | refine blk_drewN ?_ _ | refine blk_drew ?_ | refine blk_alloc ?_ _)); exact BK102.out) k_ hk)); (case aO => exact (by (with_reducible repeat (first | apply Kd.R_alloc | apply Kd.R_drewN | apply Kd.R_drew)); exact Kd.R_mono (Kd.R_far (p := ⟨gb102, 2, none⟩) (Kd.R_far (p := ⟨gb102, 1, none⟩) (Kd.R_far (p := ⟨gb102, 0, none⟩) (Kd.R_mono HO_3.out (fun k_ hk => (⟨hk, hk.2⟩ : _ ∧ k_ ≠ gb102))) (fun _ hk => hk.2) (.string ((rd_T33 l0 x5_1).f0))) (fun _ hk => hk.2) (.int .i64 ((rd_T33 l0 x5_1).f1))) (fun _ hk => hk.2) (.string ((rd_T33 l0 x5_1).f2))) (fun _ hk => hk.1.2))); (case aS => exact (below_size (by repeat (first | (with_reducible first | exact HB.out | apply below_alloc | apply pw_below_drewN | apply below_drew1 | refine below_set ?_ GE102.out) | exact HB.out)))); (case aL => have := LMc12.out; omega); intro v107 w15 ho hb hg hat; rw [← Ny106.out] at ho; have n0_ := Aside0.mk (blk_grown (g := gb102) (o := .cells #[.string ((rd_T33 l0 x5_1).f0), .int .i64 ((rd_T33 l0 x5_1).f1), .string ((rd_T33 l0 x5_1).f2)] 33 (0, 0)) (by (with_reducible repeat (first | refine blk_drewN ?_ _ | refine blk_drew ?_ | refine blk_alloc ?_ _)); refine blk_put (cs := #[.string ((rd_T33 l0 x5_1).f0), .int .i64 ((rd_T33 l0 x5_1).f1), .string (⟨#[]⟩ : ByteArray)]) ?_ 2 _ rfl; (with_reducible repeat (first | refine blk_drewN ?_ _ | refine blk_drew ?_ | refine blk_alloc ?_ _)); refine blk_put (cs := #[.string ((rd_T33 l0 x5_1).f0), .int .i64 0, .string (⟨#[]⟩ : ByteArray)]) ?_ 1 _ rfl; (with_reducible repeat (first | refine blk_drewN ?_ _ | refine blk_drew ?_ | refine blk_alloc ?_ _)); refine blk_put (cs := #[.string (⟨#[]⟩ : ByteArray), .int .i64 0, .string (⟨#[]⟩ : ByteArray)]) ?_ 0 _ rfl; (with_reducible repeat (first | refine blk_drewN ?_ _ | refine blk_drew ?_ | refine blk_alloc ?_ _)); exact BK102.out) hg (Kd.R_away HO_3.out (fun _ hk => hk.2))); have n1_ := Aside0.mk (hb); have n2_ := Aside0.mk (ho); clear BK102; clear HB; clear HO_3; have BK102 := n0_; have HB := n1_; have HO108 := n2_; clear n0_ n1_ n2_; clear ho hb hg hat))
                    go_roundg kj1
                    case measure => have := HK1.out; have := HJ1.out; omega
                    case rel => exact ⟨(y106), (wrap64 (x4_1 + (((rd_T33 l0 x5_1).f2).size : Int))), (wrap64 (x5_1 + 1)), (by first | rfl | (simp; done) | (simp [*]; done)), (by first | rfl | (simp; done) | (simp [*]; done)), H', ⟨by have := HK1.out; have := HJ1.out; omega⟩, ⟨by (with_reducible repeat (first | apply Kd.R_alloc | apply Kd.R_drewN | apply Kd.R_drew)); exact Kd.R_mono HO108.out (fun _ hk => trivial)⟩, ⟨by repeat (first | (with_reducible first | exact HB.out | apply below_alloc | apply pw_below_drewN | apply below_drew1 | refine below_set ?_ GE102.out) | exact HB.out)⟩⟩
                  · rw [if_neg c12] at H
                    exact absurd H (by simp)
              · rw [if_neg c6] at H
                exact absurd H (by simp)
            · rw [if_neg c5] at H
              exact absurd H (by simp)
          · replace c4 := Bool.eq_false_iff.mpr c4
            subst c4
            have H1 : (some x3_1) = some r := by rw [if_neg (show ¬ (false = true) by decide)] at H; exact H
            clear H
            have H := H1
            clear H1
            obtain rfl := Option.some.inj H
            go_wp2
            go_ret
            exact ⟨_, by first | rfl | (simp [errW_none, errW_some] <;> rfl) | (simp [*, errW_none, errW_some] <;> rfl), by (with_reducible repeat (first | apply Kd.R_alloc | apply Kd.R_drewN | apply Kd.R_drew)); exact HO_3.out, by repeat (first | (with_reducible first | exact HB.out | apply below_alloc | apply pw_below_drewN | apply below_drew1) | exact HB.out)⟩
end Go.Proofs.YtmeofdpmddjbgaaDoor.G
end
