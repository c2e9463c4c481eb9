/- Texts of this session's claim of TreeReads, less what its theorem does not reach. No condition. -/
import Derived.Test.YtafjlibcdlihcaaDoorTR12
import Derived.Test.YtafjlibcdlihcaaDoorTR13
section
namespace Go.Proofs.YtafjlibcdlihcaaDoor.G
open Go.RowKit Go.Proofs.YtafjlibcdlihcaaDoorW.PrintWords Go.Proofs.YtafjlibcdlihcaaDoorW.PrintLast Go.Proofs.YtafjlibcdlihcaaDoorW.PrintMore
attribute [local go_sem] max2_int min2_int max_two min_two max_three min_three max_four min_four   -- for this text's walks alone
set_option linter.unusedVariables false
set_option linter.unusedSimpArgs false
mutual
def barqueref01_Reader_Num.l0 : Nat → Int → Int → Int → ByteArray → Int → Int → Option (Int × ByteArray × Int × Int)
 | 0, _, _, _, _, _, _ => none
 | k + 1, x3, x4, x5, x1000, x1001, x1002 => if x5 < 9 then ((barqueref01_Reader_Byte.f x1000 x1001 x1002).bind fun bt693 => (if bt693.2.2.2 = 0 then (if x5 > 0 then (if bt693.1 = 0 then (barqueref01_Reader_Num.j1 k x3 x4 x5 bt693.1 true bt693.2.1 bt693.2.2.1 bt693.2.2.2) else (if x5 = 8 then (barqueref01_Reader_Num.j1 k x3 x4 x5 bt693.1 (decide (bt693.1 > 63)) bt693.2.1 bt693.2.2.1 bt693.2.2.2) else (barqueref01_Reader_Num.j1 k x3 x4 x5 bt693.1 false bt693.2.1 bt693.2.2.1 bt693.2.2.2))) else (if x5 = 8 then (barqueref01_Reader_Num.j1 k x3 x4 x5 bt693.1 (decide (bt693.1 > 63)) bt693.2.1 bt693.2.2.1 bt693.2.2.2) else (barqueref01_Reader_Num.j1 k x3 x4 x5 bt693.1 false bt693.2.1 bt693.2.2.1 bt693.2.2.2))) else (some (0, bt693.2.1, bt693.2.2.1, bt693.2.2.2)))) else (some (x3, x1000, x1001, x1002))
def barqueref01_Reader_Num.j1 : Nat → Int → Int → Int → Int → Bool → ByteArray → Int → Int → Option (Int × ByteArray × Int × Int)
 | 0, _, _, _, _, _, _, _, _ => none
 | k + 1, x3, x4, x5, x6, x31, x1000, x1001, x1002 => if x31 = true then (some (0, x1000, x1001, 5)) else (if x6 < 128 then (some (wrap64 (x3 + (wrap64 ((Int.tmod x6 128) * x4))), x1000, x1001, x1002)) else (barqueref01_Reader_Num.l0 k (wrap64 (x3 + (wrap64 ((Int.tmod x6 128) * x4)))) (wrap64 (x4 * 128)) (wrap64 (x5 + 1)) x1000 x1001 x1002))
end
def barqueref01_Reader_Num.f (k : Nat) (s0_0 : ByteArray) (s0_1 : Int) (s0_2 : Int) : Option (Int × ByteArray × Int × Int) := barqueref01_Reader_Num.l0 k 0 1 0 s0_0 s0_1 s0_2
theorem barqueref01_Reader_Num.mono_l : ∀ k, (∀ y0 y1 y2 y3 y4 y5, LeO (barqueref01_Reader_Num.l0 k y0 y1 y2 y3 y4 y5) (barqueref01_Reader_Num.l0 (k + 1) y0 y1 y2 y3 y4 y5)) ∧ (∀ y0 y1 y2 y3 y4 y5 y6 y7, LeO (barqueref01_Reader_Num.j1 k y0 y1 y2 y3 y4 y5 y6 y7) (barqueref01_Reader_Num.j1 (k + 1) y0 y1 y2 y3 y4 y5 y6 y7))
 | 0 => ⟨fun _ _ _ _ _ _ r h => by simp [barqueref01_Reader_Num.l0] at h, fun _ _ _ _ _ _ _ _ r h => by simp [barqueref01_Reader_Num.j1] at h⟩
 | k + 1 => by
  obtain ⟨ih0, ih1⟩ := barqueref01_Reader_Num.mono_l k
  refine ⟨?_, ?_⟩
  ·intro y0 y1 y2 y3 y4 y5
   unfold barqueref01_Reader_Num.l0
   repeat' first
   | (with_reducible exact ih0 _ _ _ _ _ _)
   | (with_reducible exact ih1 _ _ _ _ _ _ _ _)
   | (with_reducible exact LeO.refl _)
   | (with_reducible exact LeO.none _)
   | (with_reducible refine LeO.ite ?_ ?_)
   | (with_reducible refine LeO.bind ?_ (fun _ => ?_))
   | exact ih0 _ _ _ _ _ _
   | exact ih1 _ _ _ _ _ _ _ _
   | exact LeO.none _
   | refine LeO.ite ?_ ?_
   | refine LeO.bind ?_ (fun _ => ?_)
  ·intro y0 y1 y2 y3 y4 y5 y6 y7
   unfold barqueref01_Reader_Num.j1
   repeat' first
   | (with_reducible exact ih0 _ _ _ _ _ _)
   | (with_reducible exact ih1 _ _ _ _ _ _ _ _)
   | (with_reducible exact LeO.refl _)
   | (with_reducible exact LeO.none _)
   | (with_reducible refine LeO.ite ?_ ?_)
   | (with_reducible refine LeO.bind ?_ (fun _ => ?_))
   | exact ih0 _ _ _ _ _ _
   | exact ih1 _ _ _ _ _ _ _ _
   | exact LeO.none _
   | refine LeO.ite ?_ ?_
   | refine LeO.bind ?_ (fun _ => ?_)
theorem barqueref01_Reader_Num.mono : ∀ a0 a1 a2 k, LeO (barqueref01_Reader_Num.f k a0 a1 a2) (barqueref01_Reader_Num.f (k + 1) a0 a1 a2) := by
 intro a0 a1 a2 k
 obtain ⟨ih0, ih1⟩ := barqueref01_Reader_Num.mono_l k
 unfold barqueref01_Reader_Num.f
 repeat' first
   | (with_reducible exact ih0 _ _ _ _ _ _)
   | (with_reducible exact ih1 _ _ _ _ _ _ _ _)
   | (with_reducible exact LeO.refl _)
   | (with_reducible exact LeO.none _)
   | (with_reducible refine LeO.ite ?_ ?_)
   | (with_reducible refine LeO.bind ?_ (fun _ => ?_))
   | exact ih0 _ _ _ _ _ _
   | exact ih1 _ _ _ _ _ _ _ _
   | exact LeO.none _
   | refine LeO.ite ?_ ?_
   | refine LeO.bind ?_ (fun _ => ?_)
set_option maxHeartbeats 8000000 in
set_option maxRecDepth 100000 in
theorem barqueref01_Reader_Num.calls (k : Nat) (g : Nat) (s0_0 : ByteArray) (s0_1 : Int) (s0_2 : Int) (r1 : Int) (r2 : ByteArray) (r3 : Int) (r4 : Int) (w0 w : World) (hI : IsS97 w0 w g s0_0 s0_1 s0_2) (hB : Below w0.heap.size w0 w) (h : barqueref01_Reader_Num.f k s0_0 s0_1 s0_2 = some (r1, r2, r3, r4)) :
  Calls Tryd.prog 78 #[.pointer (some ⟨g, 0, none⟩)] w fun e w' => e = .returned (.int .i64 r1) ∧ IsS97 w0 w' g r2 r3 r4 ∧ Below w0.heap.size w0 w' ∧ KeepBut w w' g none := by
 have HI0 := Aside0.mk hI
 have HK := Aside0.mk (KeepBut.refl w g none)
 have HL := Aside0.mk hB.size
 clear hI
 have HW0 := Aside0.mk hB.size
 have HB := Aside0.mk hB
 clear hB
 have H : (barqueref01_Reader_Num.l0 k 0 1 0 s0_0 s0_1 s0_2) = some (r1, r2, r3, r4) := h
 clear h
 have H' := Aside0.mk H
 clear H
 go_enter Tryd.func78, Tryd.ntmps78
 go_wp2
 go_loopg [3, 4, 5] k (fun kq v3 v4 v5 w' => ∃ (x3_1 : Int) (x4_1 : Int) (x5_1 : Int) (x1000_1 : ByteArray) (x1001_1 : Int) (x1002_1 : Int), v3 = .int .i64 x3_1 ∧ v4 = .int .i64 x4_1 ∧ v5 = .int .i64 x5_1 ∧ Aside0 (barqueref01_Reader_Num.l0 kq x3_1 x4_1 x5_1 x1000_1 x1001_1 x1002_1 = some (r1, r2, r3, r4)) ∧ Aside0 (kq ≤ k) ∧ Aside0 (IsS97 w0 w' g x1000_1 x1001_1 x1002_1) ∧ Aside0 (KeepBut w w' g none) ∧ Aside0 (Below w0.heap.size w0 w'))
 case atStart => exact ⟨(0), (1), (0), (s0_0), (s0_1), (s0_2), (by first | rfl | (simp; done) | (simp [*]; done)), (by first | rfl | (simp; done) | (simp [*]; done)), (by first | rfl | (simp; done) | (simp [*]; done)), H', ⟨Nat.le_refl _⟩, ⟨by repeat (first | (with_reducible first | exact HI0.out | apply IsS97.alloc | apply IsS97.drewN | apply IsS97.drew | apply IsS97.set_0 | apply IsS97.set_1 | apply IsS97.set_2) | exact HI0.out)⟩, ⟨by repeat (first | (with_reducible first | exact HK.out | apply KeepBut.set_ | apply keep_drewN | apply keep_drew | apply keep_alloc) | exact HK.out)⟩, ⟨by repeat (first | (with_reducible first | exact HB.out | apply below_alloc | apply pw_below_drewN | apply below_drew1 | refine below_set ?_ (IsS97.ge HI0.out)) | exact HB.out)⟩⟩
 case round =>
  clear H'
  obtain ⟨x3_1, x4_1, x5_1, x1000_1, x1001_1, x1002_1, rfl, rfl, rfl, HA, HK1, HI0, HK, HB⟩ := hrel
  cases gk with
  | zero => exact absurd HA.out (by simp [barqueref01_Reader_Num.l0])
  | succ k1 =>
   have H := HA.out
   clear HA
   simp only [barqueref01_Reader_Num.l0] at H
   by_cases c2 : x5_1 < 9
   ·rw [if_pos c2] at H
    have c2b0 : decide (x5_1 < 9) = true := decide_eq_true c2
    clear c2
    replace H := Option.bind_eq_some_iff.mp H
    obtain ⟨⟨t693, t694, t695, t696⟩, A30, H⟩ := H
    replace H : (if t696 = 0 then (if x5_1 > 0 then (if t693 = 0 then (barqueref01_Reader_Num.j1 k1 x3_1 x4_1 x5_1 t693 true t694 t695 t696) else (if x5_1 = 8 then (barqueref01_Reader_Num.j1 k1 x3_1 x4_1 x5_1 t693 (decide (t693 > 63)) t694 t695 t696) else (barqueref01_Reader_Num.j1 k1 x3_1 x4_1 x5_1 t693 false t694 t695 t696))) else (if x5_1 = 8 then (barqueref01_Reader_Num.j1 k1 x3_1 x4_1 x5_1 t693 (decide (t693 > 63)) t694 t695 t696) else (barqueref01_Reader_Num.j1 k1 x3_1 x4_1 x5_1 t693 false t694 t695 t696))) else (some (0, t694, t695, t696))) = some (r1, r2, r3, r4) := H
    have A3 := Aside0.mk A30
    clear A30
    by_cases c4 : t696 = 0
    ·rw [if_pos c4] at H
     have c4b0 : (t696 == 0) = true := beq_iff_eq.mpr c4
     have c4b1 : (t696 != 0) = false := bne_eq_false_iff_eq.mpr c4
     clear c4
     have HC5 := Aside0.mk H
     clear H
     go_upto_region 9 with (first | ((with_reducible refine gate_callee (f := 96) rfl ?_); refine goesL_ (some 12) rfl rfl Tryd.func96 (by kernel_rfl) rfl #[.pointer (some ⟨g, 0, none⟩)] rfl (by (try simp only [List.map_toArray, List.map_cons, List.map_nil]); first | done | rfl | (simp only [List.length_drop, List.length_take]; rfl)) ?_; (with_reducible refine (barqueref01_Reader_Byte.calls g x1000_1 x1001_1 x1002_1 t693 t694 t695 t696 w0 _ ?side1 ?side2 A3.out).mono ?_); (case side1 => repeat (first | (with_reducible first | exact HI0.out | apply IsS97.alloc | apply IsS97.drewN | apply IsS97.drew | apply IsS97.set_0 | apply IsS97.set_1 | apply IsS97.set_2) | exact HI0.out)); (case side2 => repeat (first | (with_reducible first | exact HB.out | apply below_alloc | apply pw_below_drewN | apply below_drew1 | refine below_set ?_ (IsS97.ge HI0.out)) | exact HB.out)); rintro e w6 ⟨rfl, hi, hb, hk⟩; refine ⟨_, rfl, ?_⟩; have n0_ := Aside0.mk (KeepBut.trans (by repeat (first | (with_reducible first | exact HK.out | apply KeepBut.set_ | apply keep_drewN | apply keep_drew | apply keep_alloc) | exact HK.out)) hk (.inl rfl)); have n1_ := Aside0.mk (hb); have n2_ := Aside0.mk (hi); clear HK; clear HB; clear HI0; have HK := n0_; have HB := n1_; have HI0 := n2_; clear n0_ n1_ n2_; (try clear hb); (try clear hb2); (try clear hk); (try clear hi); obtain ⟨HGz7, hgz7⟩ := HI0.out; have hcz7_0 := cellS97_0 HGz7; have hcz7_1 := cellS97_1 HGz7; have hcz7_2 := cellS97_2 HGz7; have hfz7_0 := blk_frozen HGz7 0; have hfz7_1 := blk_frozen HGz7 1; have hfz7_2 := blk_frozen HGz7 2; clear HGz7 hgz7))
     (try simp only [Act.put, List.setIfInBounds_toArray, List.set_cons_zero, List.set_cons_succ])
     go_cut [31] (fun v31 wc => ∃ (kq : Nat) (x31_4 : Bool), v31 = .bool x31_4 ∧ Aside0 (barqueref01_Reader_Num.j1 kq x3_1 x4_1 x5_1 t693 x31_4 t694 t695 t696 = some (r1, r2, r3, r4)) ∧ Aside0 (kq ≤ k1) ∧ Aside0 (IsS97 w0 wc g t694 t695 t696) ∧ Aside0 (KeepBut w wc g none) ∧ Aside0 (Below w0.heap.size w0 wc))
     case first =>
      have H := HC5.out
      clear HC5
      by_cases c8 : x5_1 > 0
      ·rw [if_pos c8] at H
       have c8b0 : decide (0 < x5_1) = true := decide_eq_true c8
       clear c8
       (first | rw [c8b0] | (simp only [i64_w, i32_w]; rw [c8b0]) | skip)
       by_cases c9 : t693 = 0
       ·rw [if_pos c9] at H
        have c9b0 : (t693 == 0) = true := beq_iff_eq.mpr c9
        have c9b1 : (t693 != 0) = false := bne_eq_false_iff_eq.mpr c9
        clear c9
        have H' := Aside0.mk H
        clear H
        go_wp2
        go_meet
        case rel => exact ⟨_, (true), (by first | rfl | (simp; done) | (simp [*]; done)), H', ⟨by have := HK1.out; first | omega | exact Nat.le_refl _⟩, ⟨by repeat (first | (with_reducible first | exact HI0.out | apply IsS97.alloc | apply IsS97.drewN | apply IsS97.drew | apply IsS97.set_0 | apply IsS97.set_1 | apply IsS97.set_2) | exact HI0.out)⟩, ⟨by repeat (first | (with_reducible first | exact HK.out | apply KeepBut.set_ | apply keep_drewN | apply keep_drew | apply keep_alloc) | exact HK.out)⟩, ⟨by repeat (first | (with_reducible first | exact HB.out | apply below_alloc | apply pw_below_drewN | apply below_drew1 | refine below_set ?_ (IsS97.ge HI0.out)) | exact HB.out)⟩⟩
       ·rw [if_neg c9] at H
        have c9b0 : (t693 == 0) = false := beq_eq_false_iff_ne.mpr c9
        have c9b1 : (t693 != 0) = true := bne_iff_ne.mpr c9
        by_cases c10 : x5_1 = 8
        ·rw [if_pos c10] at H
         have c10b0 : (x5_1 == 8) = true := beq_iff_eq.mpr c10
         have c10b1 : (x5_1 != 8) = false := bne_eq_false_iff_eq.mpr c10
         clear c10
         have H' := Aside0.mk H
         clear H
         go_wp2
         go_meet
         case rel => exact ⟨_, (decide (t693 > 63)), (by first | rfl | (simp; done) | (simp [*]; done)), H', ⟨by have := HK1.out; first | omega | exact Nat.le_refl _⟩, ⟨by repeat (first | (with_reducible first | exact HI0.out | apply IsS97.alloc | apply IsS97.drewN | apply IsS97.drew | apply IsS97.set_0 | apply IsS97.set_1 | apply IsS97.set_2) | exact HI0.out)⟩, ⟨by repeat (first | (with_reducible first | exact HK.out | apply KeepBut.set_ | apply keep_drewN | apply keep_drew | apply keep_alloc) | exact HK.out)⟩, ⟨by repeat (first | (with_reducible first | exact HB.out | apply below_alloc | apply pw_below_drewN | apply below_drew1 | refine below_set ?_ (IsS97.ge HI0.out)) | exact HB.out)⟩⟩
        ·rw [if_neg c10] at H
         have c10b0 : (x5_1 == 8) = false := beq_eq_false_iff_ne.mpr c10
         have c10b1 : (x5_1 != 8) = true := bne_iff_ne.mpr c10
         have H' := Aside0.mk H
         clear H
         go_wp2
         go_meet
         case rel => exact ⟨_, (false), (by first | rfl | (simp; done) | (simp [*]; done)), H', ⟨by have := HK1.out; first | omega | exact Nat.le_refl _⟩, ⟨by repeat (first | (with_reducible first | exact HI0.out | apply IsS97.alloc | apply IsS97.drewN | apply IsS97.drew | apply IsS97.set_0 | apply IsS97.set_1 | apply IsS97.set_2) | exact HI0.out)⟩, ⟨by repeat (first | (with_reducible first | exact HK.out | apply KeepBut.set_ | apply keep_drewN | apply keep_drew | apply keep_alloc) | exact HK.out)⟩, ⟨by repeat (first | (with_reducible first | exact HB.out | apply below_alloc | apply pw_below_drewN | apply below_drew1 | refine below_set ?_ (IsS97.ge HI0.out)) | exact HB.out)⟩⟩
      ·rw [if_neg c8] at H
       have c8b0 : decide (0 < x5_1) = false := decide_eq_false c8
       clear c8
       (first | rw [c8b0] | (simp only [i64_w, i32_w]; rw [c8b0]) | skip)
       by_cases c11 : x5_1 = 8
       ·rw [if_pos c11] at H
        have c11b0 : (x5_1 == 8) = true := beq_iff_eq.mpr c11
        have c11b1 : (x5_1 != 8) = false := bne_eq_false_iff_eq.mpr c11
        clear c11
        have H' := Aside0.mk H
        clear H
        go_wp2
        go_meet
        case rel => exact ⟨_, (decide (t693 > 63)), (by first | rfl | (simp; done) | (simp [*]; done)), H', ⟨by have := HK1.out; first | omega | exact Nat.le_refl _⟩, ⟨by repeat (first | (with_reducible first | exact HI0.out | apply IsS97.alloc | apply IsS97.drewN | apply IsS97.drew | apply IsS97.set_0 | apply IsS97.set_1 | apply IsS97.set_2) | exact HI0.out)⟩, ⟨by repeat (first | (with_reducible first | exact HK.out | apply KeepBut.set_ | apply keep_drewN | apply keep_drew | apply keep_alloc) | exact HK.out)⟩, ⟨by repeat (first | (with_reducible first | exact HB.out | apply below_alloc | apply pw_below_drewN | apply below_drew1 | refine below_set ?_ (IsS97.ge HI0.out)) | exact HB.out)⟩⟩
       ·rw [if_neg c11] at H
        have c11b0 : (x5_1 == 8) = false := beq_eq_false_iff_ne.mpr c11
        have c11b1 : (x5_1 != 8) = true := bne_iff_ne.mpr c11
        have H' := Aside0.mk H
        clear H
        go_wp2
        go_meet
        case rel => exact ⟨_, (false), (by first | rfl | (simp; done) | (simp [*]; done)), H', ⟨by have := HK1.out; first | omega | exact Nat.le_refl _⟩, ⟨by repeat (first | (with_reducible first | exact HI0.out | apply IsS97.alloc | apply IsS97.drewN | apply IsS97.drew | apply IsS97.set_0 | apply IsS97.set_1 | apply IsS97.set_2) | exact HI0.out)⟩, ⟨by repeat (first | (with_reducible first | exact HK.out | apply KeepBut.set_ | apply keep_drewN | apply keep_drew | apply keep_alloc) | exact HK.out)⟩, ⟨by repeat (first | (with_reducible first | exact HB.out | apply below_alloc | apply pw_below_drewN | apply below_drew1 | refine below_set ?_ (IsS97.ge HI0.out)) | exact HB.out)⟩⟩
     case rest =>
      clear HC5
      try clear c1
      try clear c2
      try clear c2b0
      try clear p2
      try clear c4
      try clear c4b0
      try clear c4b1
      try clear c7
      try clear c8
      try clear c8b0
      try clear c9
      try clear c9b0
      try clear c9b1
      try clear c10
      try clear c10b0
      try clear c10b1
      try clear c11
      try clear c11b0
      try clear c11b1
      try clear hcz7_0
      try clear hcz7_1
      try clear hcz7_2
      try clear hfz7_0
      try clear hfz7_1
      try clear hfz7_2
      obtain ⟨kq, x31_4, rfl, HA, HJ4, HI0, HK, HB⟩ := hcut
      cases kq with
      | zero => exact absurd HA.out (by simp [barqueref01_Reader_Num.j1])
      | succ kj4 =>
       have H := HA.out
       clear HA
       simp only [barqueref01_Reader_Num.j1] at H
       by_cases c12 : x31_4 = true
       ·subst c12
        have H1 : (some (0, t694, t695, 5)) = some (r1, r2, r3, r4) := by rw [if_pos rfl] at H; exact H
        clear H
        have H := H1
        clear H1
        simp only [Option.some.injEq, Prod.mk.injEq] at H
        obtain ⟨rfl, rfl, rfl, rfl⟩ := H
        obtain ⟨HGz13, hgz13⟩ := HI0.out
        have hcz13_0 := cellS97_0 HGz13
        have hcz13_1 := cellS97_1 HGz13
        have hcz13_2 := cellS97_2 HGz13
        have hfz13_0 := blk_frozen HGz13 0
        have hfz13_1 := blk_frozen HGz13 1
        have hfz13_2 := blk_frozen HGz13 2
        clear HGz13 hgz13
        go_wp2
        go_ret
        exact ⟨by first | rfl | (simp [errW_none, errW_some] <;> rfl) | (simp [*, errW_none, errW_some] <;> rfl), by repeat (first | (with_reducible first | exact HI0.out | apply IsS97.alloc | apply IsS97.drewN | apply IsS97.drew | apply IsS97.set_0 | apply IsS97.set_1 | apply IsS97.set_2) | exact HI0.out), by repeat (first | (with_reducible first | exact HB.out | apply below_alloc | apply pw_below_drewN | apply below_drew1 | refine below_set ?_ (IsS97.ge HI0.out)) | exact HB.out), by repeat (first | (with_reducible first | exact HK.out | apply KeepBut.set_ | apply keep_drewN | apply keep_drew | apply keep_alloc) | exact HK.out)⟩
       ·replace c12 := Bool.eq_false_iff.mpr c12
        subst c12
        have H1 : (if t693 < 128 then (some (wrap64 (x3_1 + (wrap64 ((Int.tmod t693 128) * x4_1))), t694, t695, t696)) else (barqueref01_Reader_Num.l0 kj4 (wrap64 (x3_1 + (wrap64 ((Int.tmod t693 128) * x4_1)))) (wrap64 (x4_1 * 128)) (wrap64 (x5_1 + 1)) t694 t695 t696)) = some (r1, r2, r3, r4) := by rw [if_neg (show ¬ (false = true) by decide)] at H; exact H
        clear H
        have H := H1
        clear H1
        by_cases c14 : t693 < 128
        ·rw [if_pos c14] at H
         have c14b0 : decide (t693 < 128) = true := decide_eq_true c14
         clear c14
         simp only [Option.some.injEq, Prod.mk.injEq] at H
         obtain ⟨rfl, rfl, rfl, rfl⟩ := H
         go_wp2
         go_ret
         exact ⟨by first | rfl | (simp [errW_none, errW_some] <;> rfl) | (simp [*, errW_none, errW_some] <;> rfl), by repeat (first | (with_reducible first | exact HI0.out | apply IsS97.alloc | apply IsS97.drewN | apply IsS97.drew | apply IsS97.set_0 | apply IsS97.set_1 | apply IsS97.set_2) | exact HI0.out), by repeat (first | (with_reducible first | exact HB.out | apply below_alloc | apply pw_below_drewN | apply below_drew1 | refine below_set ?_ (IsS97.ge HI0.out)) | exact HB.out), by repeat (first | (with_reducible first | exact HK.out | apply KeepBut.set_ | apply keep_drewN | apply keep_drew | apply keep_alloc) | exact HK.out)⟩
        ·rw [if_neg c14] at H
         have c14b0 : decide (t693 < 128) = false := decide_eq_false c14
         clear c14
         have H' := Aside0.mk H
         clear H
         go_wp2
         go_roundg kj4
         case measure => have := HK1.out; have := HJ4.out; omega
         case rel => exact ⟨(wrap64 (x3_1 + (wrap64 ((Int.tmod t693 128) * x4_1)))), (wrap64 (x4_1 * 128)), (wrap64 (x5_1 + 1)), (t694), (t695), (t696), (by first | rfl | (simp; done) | (simp [*]; done)), (by first | rfl | (simp; done) | (simp [*]; done)), (by first | rfl | (simp; done) | (simp [*]; done)), H', ⟨by have := HK1.out; have := HJ4.out; omega⟩, ⟨by repeat (first | (with_reducible first | exact HI0.out | apply IsS97.alloc | apply IsS97.drewN | apply IsS97.drew | apply IsS97.set_0 | apply IsS97.set_1 | apply IsS97.set_2) | exact HI0.out)⟩, ⟨by repeat (first | (with_reducible first | exact HK.out | apply KeepBut.set_ | apply keep_drewN | apply keep_drew | apply keep_alloc) | exact HK.out)⟩, ⟨by repeat (first | (with_reducible first | exact HB.out | apply below_alloc | apply pw_below_drewN | apply below_drew1 | refine below_set ?_ (IsS97.ge HI0.out)) | exact HB.out)⟩⟩
    ·rw [if_neg c4] at H
     have c4b0 : (t696 == 0) = false := beq_eq_false_iff_ne.mpr c4
     have c4b1 : (t696 != 0) = true := bne_iff_ne.mpr c4
     simp only [Option.some.injEq, Prod.mk.injEq] at H
     obtain ⟨rfl, rfl, rfl, rfl⟩ := H
     go_wp2_with (first | ((with_reducible refine gate_callee (f := 96) rfl ?_); refine goesL_ (some 12) rfl rfl Tryd.func96 (by kernel_rfl) rfl #[.pointer (some ⟨g, 0, none⟩)] rfl (by (try simp only [List.map_toArray, List.map_cons, List.map_nil]); first | done | rfl | (simp only [List.length_drop, List.length_take]; rfl)) ?_; (with_reducible refine (barqueref01_Reader_Byte.calls g x1000_1 x1001_1 x1002_1 t693 t694 t695 t696 w0 _ ?side1 ?side2 A3.out).mono ?_); (case side1 => repeat (first | (with_reducible first | exact HI0.out | apply IsS97.alloc | apply IsS97.drewN | apply IsS97.drew | apply IsS97.set_0 | apply IsS97.set_1 | apply IsS97.set_2) | exact HI0.out)); (case side2 => repeat (first | (with_reducible first | exact HB.out | apply below_alloc | apply pw_below_drewN | apply below_drew1 | refine below_set ?_ (IsS97.ge HI0.out)) | exact HB.out)); rintro e w15 ⟨rfl, hi, hb, hk⟩; refine ⟨_, rfl, ?_⟩; have n0_ := Aside0.mk (KeepBut.trans (by repeat (first | (with_reducible first | exact HK.out | apply KeepBut.set_ | apply keep_drewN | apply keep_drew | apply keep_alloc) | exact HK.out)) hk (.inl rfl)); have n1_ := Aside0.mk (hb); have n2_ := Aside0.mk (hi); clear HK; clear HB; clear HI0; have HK := n0_; have HB := n1_; have HI0 := n2_; clear n0_ n1_ n2_; (try clear hb); (try clear hb2); (try clear hk); (try clear hi); obtain ⟨HGz16, hgz16⟩ := HI0.out; have hcz16_0 := cellS97_0 HGz16; have hcz16_1 := cellS97_1 HGz16; have hcz16_2 := cellS97_2 HGz16; have hfz16_0 := blk_frozen HGz16 0; have hfz16_1 := blk_frozen HGz16 1; have hfz16_2 := blk_frozen HGz16 2; clear HGz16 hgz16))
     go_ret
     exact ⟨by first | rfl | (simp [errW_none, errW_some] <;> rfl) | (simp [*, errW_none, errW_some] <;> rfl), by repeat (first | (with_reducible first | exact HI0.out | apply IsS97.alloc | apply IsS97.drewN | apply IsS97.drew | apply IsS97.set_0 | apply IsS97.set_1 | apply IsS97.set_2) | exact HI0.out), by repeat (first | (with_reducible first | exact HB.out | apply below_alloc | apply pw_below_drewN | apply below_drew1 | refine below_set ?_ (IsS97.ge HI0.out)) | exact HB.out), by repeat (first | (with_reducible first | exact HK.out | apply KeepBut.set_ | apply keep_drewN | apply keep_drew | apply keep_alloc) | exact HK.out)⟩
   ·rw [if_neg c2] at H
    have c2b0 : decide (x5_1 < 9) = false := decide_eq_false c2
    clear c2
    simp only [Option.some.injEq, Prod.mk.injEq] at H
    obtain ⟨rfl, rfl, rfl, rfl⟩ := H
    go_wp2
    go_ret
    exact ⟨by first | rfl | (simp [errW_none, errW_some] <;> rfl) | (simp [*, errW_none, errW_some] <;> rfl), by repeat (first | (with_reducible first | exact HI0.out | apply IsS97.alloc | apply IsS97.drewN | apply IsS97.drew | apply IsS97.set_0 | apply IsS97.set_1 | apply IsS97.set_2) | exact HI0.out), by repeat (first | (with_reducible first | exact HB.out | apply below_alloc | apply pw_below_drewN | apply below_drew1 | refine below_set ?_ (IsS97.ge HI0.out)) | exact HB.out), by repeat (first | (with_reducible first | exact HK.out | apply KeepBut.set_ | apply keep_drewN | apply keep_drew | apply keep_alloc) | exact HK.out)⟩
end Go.Proofs.YtafjlibcdlihcaaDoor.G
end
section
namespace Go.Proofs.YtafjlibcdlihcaaDoor.G
open Go.RowKit Go.Proofs.YtafjlibcdlihcaaDoorW.PrintWords Go.Proofs.YtafjlibcdlihcaaDoorW.PrintLast Go.Proofs.YtafjlibcdlihcaaDoorW.PrintMore
attribute [local go_sem] max2_int min2_int max_two min_two max_three min_three max_four min_four   -- for this text's walks alone
set_option linter.unusedVariables false
set_option linter.unusedSimpArgs false
def barqueref01_Reader_Count.f (k : Nat) (s0_0 : ByteArray) (s0_1 : Int) (s0_2 : Int) (a1 : Int) : Option (Int × ByteArray × Int × Int) := (barqueref01_Reader_Num.f k s0_0 s0_1 s0_2).bind fun bt697 => (if bt697.2.2.2 = 0 then (if bt697.1 > a1 then (some (0, bt697.2.1, bt697.2.2.1, 4)) else (some (bt697.1, bt697.2.1, bt697.2.2.1, bt697.2.2.2))) else (some (bt697.1, bt697.2.1, bt697.2.2.1, bt697.2.2.2)))
theorem barqueref01_Reader_Count.mono : ∀ a0 a1 a2 a3 k, LeO (barqueref01_Reader_Count.f k a0 a1 a2 a3) (barqueref01_Reader_Count.f (k + 1) a0 a1 a2 a3) := by
 intro a0 a1 a2 a3 k
 unfold barqueref01_Reader_Count.f
 repeat' first
   | (with_reducible exact barqueref01_Reader_Num.mono _ _ _ _)
   | (with_reducible exact LeO.refl _)
   | (with_reducible exact LeO.none _)
   | (with_reducible refine LeO.ite ?_ ?_)
   | (with_reducible refine LeO.bind ?_ (fun _ => ?_))
   | exact barqueref01_Reader_Num.mono _ _ _ _
   | exact LeO.none _
   | refine LeO.ite ?_ ?_
   | refine LeO.bind ?_ (fun _ => ?_)
set_option maxHeartbeats 8000000 in
set_option maxRecDepth 100000 in
theorem barqueref01_Reader_Count.calls (k : Nat) (g : Nat) (s0_0 : ByteArray) (s0_1 : Int) (s0_2 : Int) (a1 : Int) (r1 : Int) (r2 : ByteArray) (r3 : Int) (r4 : Int) (w0 w : World) (hI : IsS97 w0 w g s0_0 s0_1 s0_2) (hB : Below w0.heap.size w0 w) (h : barqueref01_Reader_Count.f k s0_0 s0_1 s0_2 a1 = some (r1, r2, r3, r4)) :
  Calls Tryd.prog 76 #[.pointer (some ⟨g, 0, none⟩), .int .i64 a1] w fun e w' => e = .returned (.int .i64 r1) ∧ IsS97 w0 w' g r2 r3 r4 ∧ Below w0.heap.size w0 w' ∧ KeepBut w w' g none := by
 have HI0 := Aside0.mk hI
 have HK := Aside0.mk (KeepBut.refl w g none)
 have HL := Aside0.mk hB.size
 clear hI
 have HW0 := Aside0.mk hB.size
 have HB := Aside0.mk hB
 clear hB
 have H : ((barqueref01_Reader_Num.f k s0_0 s0_1 s0_2).bind fun bt697 => (if bt697.2.2.2 = 0 then (if bt697.1 > a1 then (some (0, bt697.2.1, bt697.2.2.1, 4)) else (some (bt697.1, bt697.2.1, bt697.2.2.1, bt697.2.2.2))) else (some (bt697.1, bt697.2.1, bt697.2.2.1, bt697.2.2.2)))) = some (r1, r2, r3, r4) := h
 clear h
 replace H := Option.bind_eq_some_iff.mp H
 obtain ⟨⟨t697, t698, t699, t700⟩, A30, H⟩ := H
 replace H : (if t700 = 0 then (if t697 > a1 then (some (0, t698, t699, 4)) else (some (t697, t698, t699, t700))) else (some (t697, t698, t699, t700))) = some (r1, r2, r3, r4) := H
 have A3 := Aside0.mk A30
 clear A30
 by_cases c4 : t700 = 0
 ·rw [if_pos c4] at H
  have c4b0 : (t700 == 0) = true := beq_iff_eq.mpr c4
  have c4b1 : (t700 != 0) = false := bne_eq_false_iff_eq.mpr c4
  clear c4
  by_cases c5 : t697 > a1
  ·rw [if_pos c5] at H
   have c5b0 : decide (a1 < t697) = true := decide_eq_true c5
   clear c5
   simp only [Option.some.injEq, Prod.mk.injEq] at H
   obtain ⟨rfl, rfl, rfl, rfl⟩ := H
   go_enter Tryd.func76, Tryd.ntmps76
   go_wp2_with (first | ((with_reducible refine gate_callee (f := 78) rfl ?_); refine goesL_ (some 7) rfl rfl Tryd.func78 (by kernel_rfl) rfl #[.pointer (some ⟨g, 0, none⟩)] rfl (by (try simp only [List.map_toArray, List.map_cons, List.map_nil]); first | done | rfl | (simp only [List.length_drop, List.length_take]; rfl)) ?_; (with_reducible refine (barqueref01_Reader_Num.calls k g s0_0 s0_1 s0_2 t697 t698 t699 t700 w0 _ ?side1 ?side2 A3.out).mono ?_); (case side1 => repeat (first | (with_reducible first | exact HI0.out | apply IsS97.alloc | apply IsS97.drewN | apply IsS97.drew | apply IsS97.set_0 | apply IsS97.set_1 | apply IsS97.set_2) | exact HI0.out)); (case side2 => repeat (first | (with_reducible first | exact HB.out | apply below_alloc | apply pw_below_drewN | apply below_drew1 | refine below_set ?_ (IsS97.ge HI0.out)) | exact HB.out)); rintro e w6 ⟨rfl, hi, hb, hk⟩; refine ⟨_, rfl, ?_⟩; have n0_ := Aside0.mk (KeepBut.trans (by repeat (first | (with_reducible first | exact HK.out | apply KeepBut.set_ | apply keep_drewN | apply keep_drew | apply keep_alloc) | exact HK.out)) hk (.inl rfl)); have n1_ := Aside0.mk (hb); have n2_ := Aside0.mk (hi); clear HK; clear HB; clear HI0; have HK := n0_; have HB := n1_; have HI0 := n2_; clear n0_ n1_ n2_; (try clear hb); (try clear hb2); (try clear hk); (try clear hi); obtain ⟨HGz7, hgz7⟩ := HI0.out; have hcz7_0 := cellS97_0 HGz7; have hcz7_1 := cellS97_1 HGz7; have hcz7_2 := cellS97_2 HGz7; have hfz7_0 := blk_frozen HGz7 0; have hfz7_1 := blk_frozen HGz7 1; have hfz7_2 := blk_frozen HGz7 2; clear HGz7 hgz7))
   go_ret
   exact ⟨by first | rfl | (simp [errW_none, errW_some] <;> rfl) | (simp [*, errW_none, errW_some] <;> rfl), by repeat (first | (with_reducible first | exact HI0.out | apply IsS97.alloc | apply IsS97.drewN | apply IsS97.drew | apply IsS97.set_0 | apply IsS97.set_1 | apply IsS97.set_2) | exact HI0.out), by repeat (first | (with_reducible first | exact HB.out | apply below_alloc | apply pw_below_drewN | apply below_drew1 | refine below_set ?_ (IsS97.ge HI0.out)) | exact HB.out), by repeat (first | (with_reducible first | exact HK.out | apply KeepBut.set_ | apply keep_drewN | apply keep_drew | apply keep_alloc) | exact HK.out)⟩
  ·rw [if_neg c5] at H
   have c5b0 : decide (a1 < t697) = false := decide_eq_false c5
   clear c5
   simp only [Option.some.injEq, Prod.mk.injEq] at H
   obtain ⟨rfl, rfl, rfl, rfl⟩ := H
   go_enter Tryd.func76, Tryd.ntmps76
   go_wp2_with (first | ((with_reducible refine gate_callee (f := 78) rfl ?_); refine goesL_ (some 7) rfl rfl Tryd.func78 (by kernel_rfl) rfl #[.pointer (some ⟨g, 0, none⟩)] rfl (by (try simp only [List.map_toArray, List.map_cons, List.map_nil]); first | done | rfl | (simp only [List.length_drop, List.length_take]; rfl)) ?_; (with_reducible refine (barqueref01_Reader_Num.calls k g s0_0 s0_1 s0_2 t697 t698 t699 t700 w0 _ ?side1 ?side2 A3.out).mono ?_); (case side1 => repeat (first | (with_reducible first | exact HI0.out | apply IsS97.alloc | apply IsS97.drewN | apply IsS97.drew | apply IsS97.set_0 | apply IsS97.set_1 | apply IsS97.set_2) | exact HI0.out)); (case side2 => repeat (first | (with_reducible first | exact HB.out | apply below_alloc | apply pw_below_drewN | apply below_drew1 | refine below_set ?_ (IsS97.ge HI0.out)) | exact HB.out)); rintro e w8 ⟨rfl, hi, hb, hk⟩; refine ⟨_, rfl, ?_⟩; have n0_ := Aside0.mk (KeepBut.trans (by repeat (first | (with_reducible first | exact HK.out | apply KeepBut.set_ | apply keep_drewN | apply keep_drew | apply keep_alloc) | exact HK.out)) hk (.inl rfl)); have n1_ := Aside0.mk (hb); have n2_ := Aside0.mk (hi); clear HK; clear HB; clear HI0; have HK := n0_; have HB := n1_; have HI0 := n2_; clear n0_ n1_ n2_; (try clear hb); (try clear hb2); (try clear hk); (try clear hi); obtain ⟨HGz9, hgz9⟩ := HI0.out; have hcz9_0 := cellS97_0 HGz9; have hcz9_1 := cellS97_1 HGz9; have hcz9_2 := cellS97_2 HGz9; have hfz9_0 := blk_frozen HGz9 0; have hfz9_1 := blk_frozen HGz9 1; have hfz9_2 := blk_frozen HGz9 2; clear HGz9 hgz9))
   go_ret
   exact ⟨by first | rfl | (simp [errW_none, errW_some] <;> rfl) | (simp [*, errW_none, errW_some] <;> rfl), by repeat (first | (with_reducible first | exact HI0.out | apply IsS97.alloc | apply IsS97.drewN | apply IsS97.drew | apply IsS97.set_0 | apply IsS97.set_1 | apply IsS97.set_2) | exact HI0.out), by repeat (first | (with_reducible first | exact HB.out | apply below_alloc | apply pw_below_drewN | apply below_drew1 | refine below_set ?_ (IsS97.ge HI0.out)) | exact HB.out), by repeat (first | (with_reducible first | exact HK.out | apply KeepBut.set_ | apply keep_drewN | apply keep_drew | apply keep_alloc) | exact HK.out)⟩
 ·rw [if_neg c4] at H
  have c4b0 : (t700 == 0) = false := beq_eq_false_iff_ne.mpr c4
  have c4b1 : (t700 != 0) = true := bne_iff_ne.mpr c4
  simp only [Option.some.injEq, Prod.mk.injEq] at H
  obtain ⟨rfl, rfl, rfl, rfl⟩ := H
  go_enter Tryd.func76, Tryd.ntmps76
  go_wp2_with (first | ((with_reducible refine gate_callee (f := 78) rfl ?_); refine goesL_ (some 7) rfl rfl Tryd.func78 (by kernel_rfl) rfl #[.pointer (some ⟨g, 0, none⟩)] rfl (by (try simp only [List.map_toArray, List.map_cons, List.map_nil]); first | done | rfl | (simp only [List.length_drop, List.length_take]; rfl)) ?_; (with_reducible refine (barqueref01_Reader_Num.calls k g s0_0 s0_1 s0_2 t697 t698 t699 t700 w0 _ ?side1 ?side2 A3.out).mono ?_); (case side1 => repeat (first | (with_reducible first | exact HI0.out | apply IsS97.alloc | apply IsS97.drewN | apply IsS97.drew | apply IsS97.set_0 | apply IsS97.set_1 | apply IsS97.set_2) | exact HI0.out)); (case side2 => repeat (first | (with_reducible first | exact HB.out | apply below_alloc | apply pw_below_drewN | apply below_drew1 | refine below_set ?_ (IsS97.ge HI0.out)) | exact HB.out)); rintro e w10 ⟨rfl, hi, hb, hk⟩; refine ⟨_, rfl, ?_⟩; have n0_ := Aside0.mk (KeepBut.trans (by repeat (first | (with_reducible first | exact HK.out | apply KeepBut.set_ | apply keep_drewN | apply keep_drew | apply keep_alloc) | exact HK.out)) hk (.inl rfl)); have n1_ := Aside0.mk (hb); have n2_ := Aside0.mk (hi); clear HK; clear HB; clear HI0; have HK := n0_; have HB := n1_; have HI0 := n2_; clear n0_ n1_ n2_; (try clear hb); (try clear hb2); (try clear hk); (try clear hi); obtain ⟨HGz11, hgz11⟩ := HI0.out; have hcz11_0 := cellS97_0 HGz11; have hcz11_1 := cellS97_1 HGz11; have hcz11_2 := cellS97_2 HGz11; have hfz11_0 := blk_frozen HGz11 0; have hfz11_1 := blk_frozen HGz11 1; have hfz11_2 := blk_frozen HGz11 2; clear HGz11 hgz11))
  go_ret
  exact ⟨by first | rfl | (simp [errW_none, errW_some] <;> rfl) | (simp [*, errW_none, errW_some] <;> rfl), by repeat (first | (with_reducible first | exact HI0.out | apply IsS97.alloc | apply IsS97.drewN | apply IsS97.drew | apply IsS97.set_0 | apply IsS97.set_1 | apply IsS97.set_2) | exact HI0.out), by repeat (first | (with_reducible first | exact HB.out | apply below_alloc | apply pw_below_drewN | apply below_drew1 | refine below_set ?_ (IsS97.ge HI0.out)) | exact HB.out), by repeat (first | (with_reducible first | exact HK.out | apply KeepBut.set_ | apply keep_drewN | apply keep_drew | apply keep_alloc) | exact HK.out)⟩
end Go.Proofs.YtafjlibcdlihcaaDoor.G
end
section
namespace Go.Proofs.YtafjlibcdlihcaaDoor.G
open Go.RowKit Go.Proofs.YtafjlibcdlihcaaDoorW.PrintWords Go.Proofs.YtafjlibcdlihcaaDoorW.PrintLast Go.Proofs.YtafjlibcdlihcaaDoorW.PrintMore
attribute [local go_sem] max2_int min2_int max_two min_two max_three min_three max_four min_four   -- for this text's walks alone
set_option linter.unusedVariables false
set_option linter.unusedSimpArgs false
def barqueref01_Reader_Raw.f (s0_0 : ByteArray) (s0_1 : Int) (s0_2 : Int) (a1 : Int) : Option (ByteArray × ByteArray × Int × Int) := if s0_2 = 0 then (if a1 < 0 then (some ((⟨#[]⟩ : ByteArray), s0_0, s0_1, 1)) else (if a1 > (wrap64 ((s0_0.size : Int) - s0_1)) then (some ((⟨#[]⟩ : ByteArray), s0_0, s0_1, 3)) else (if 0 ≤ (wrap64 ((wrap64 (s0_1 + a1)) - a1)) then (if (wrap64 ((wrap64 (s0_1 + a1)) - a1)) ≤ (wrap64 (s0_1 + a1)) then (if (wrap64 (s0_1 + a1)) ≤ (s0_0.size : Int) then (some (s0_0.extract ((wrap64 ((wrap64 (s0_1 + a1)) - a1)) : Int).toNat ((wrap64 (s0_1 + a1)) : Int).toNat, s0_0, wrap64 (s0_1 + a1), s0_2)) else (none)) else (none)) else (none)))) else (some ((⟨#[]⟩ : ByteArray), s0_0, s0_1, s0_2))
set_option maxHeartbeats 8000000 in
set_option maxRecDepth 100000 in
theorem barqueref01_Reader_Raw.calls (g : Nat) (s0_0 : ByteArray) (s0_1 : Int) (s0_2 : Int) (a1 : Int) (r1 : ByteArray) (r2 : ByteArray) (r3 : Int) (r4 : Int) (w0 w : World) (hI : IsS97 w0 w g s0_0 s0_1 s0_2) (hB : Below w0.heap.size w0 w) (h : barqueref01_Reader_Raw.f s0_0 s0_1 s0_2 a1 = some (r1, r2, r3, r4)) :
  Calls Tryd.prog 79 #[.pointer (some ⟨g, 0, none⟩), .int .i64 a1] w fun e w' => e = .returned (.string r1) ∧ IsS97 w0 w' g r2 r3 r4 ∧ Below w0.heap.size w0 w' ∧ KeepBut w w' g none := by
 have HI0 := Aside0.mk hI
 have HK := Aside0.mk (KeepBut.refl w g none)
 have HL := Aside0.mk hB.size
 clear hI
 have HW0 := Aside0.mk hB.size
 have HB := Aside0.mk hB
 clear hB
 have H : (if s0_2 = 0 then (if a1 < 0 then (some ((⟨#[]⟩ : ByteArray), s0_0, s0_1, 1)) else (if a1 > (wrap64 ((s0_0.size : Int) - s0_1)) then (some ((⟨#[]⟩ : ByteArray), s0_0, s0_1, 3)) else (if 0 ≤ (wrap64 ((wrap64 (s0_1 + a1)) - a1)) then (if (wrap64 ((wrap64 (s0_1 + a1)) - a1)) ≤ (wrap64 (s0_1 + a1)) then (if (wrap64 (s0_1 + a1)) ≤ (s0_0.size : Int) then (some (s0_0.extract ((wrap64 ((wrap64 (s0_1 + a1)) - a1)) : Int).toNat ((wrap64 (s0_1 + a1)) : Int).toNat, s0_0, wrap64 (s0_1 + a1), s0_2)) else (none)) else (none)) else (none)))) else (some ((⟨#[]⟩ : ByteArray), s0_0, s0_1, s0_2))) = some (r1, r2, r3, r4) := h
 clear h
 by_cases c3 : s0_2 = 0
 ·rw [if_pos c3] at H
  have c3b0 : (s0_2 == 0) = true := beq_iff_eq.mpr c3
  have c3b1 : (s0_2 != 0) = false := bne_eq_false_iff_eq.mpr c3
  clear c3
  by_cases c4 : a1 < 0
  ·rw [if_pos c4] at H
   have c4b0 : decide (a1 < 0) = true := decide_eq_true c4
   clear c4
   simp only [Option.some.injEq, Prod.mk.injEq] at H
   obtain ⟨rfl, rfl, rfl, rfl⟩ := H
   obtain ⟨HGz5, hgz5⟩ := HI0.out
   have hcz5_0 := cellS97_0 HGz5
   have hcz5_1 := cellS97_1 HGz5
   have hcz5_2 := cellS97_2 HGz5
   have hfz5_0 := blk_frozen HGz5 0
   have hfz5_1 := blk_frozen HGz5 1
   have hfz5_2 := blk_frozen HGz5 2
   clear HGz5 hgz5
   go_enter Tryd.func79, Tryd.ntmps79
   go_wp2
   repeat (go_quiet (fail); try go_wp2)
   go_ret
   exact ⟨by first | rfl | (simp [errW_none, errW_some] <;> rfl) | (simp [*, errW_none, errW_some] <;> rfl), by repeat (first | (with_reducible first | exact HI0.out | apply IsS97.alloc | apply IsS97.drewN | apply IsS97.drew | apply IsS97.set_0 | apply IsS97.set_1 | apply IsS97.set_2) | exact HI0.out), by repeat (first | (with_reducible first | exact HB.out | apply below_alloc | apply pw_below_drewN | apply below_drew1 | refine below_set ?_ (IsS97.ge HI0.out)) | exact HB.out), by repeat (first | (with_reducible first | exact HK.out | apply KeepBut.set_ | apply keep_drewN | apply keep_drew | apply keep_alloc) | exact HK.out)⟩
  ·rw [if_neg c4] at H
   have c4b0 : decide (a1 < 0) = false := decide_eq_false c4
   clear c4
   by_cases c6 : a1 > (wrap64 ((s0_0.size : Int) - s0_1))
   ·rw [if_pos c6] at H
    have c6b0 : decide ((wrap64 ((s0_0.size : Int) - s0_1)) < a1) = true := decide_eq_true c6
    clear c6
    simp only [Option.some.injEq, Prod.mk.injEq] at H
    obtain ⟨rfl, rfl, rfl, rfl⟩ := H
    obtain ⟨HGz7, hgz7⟩ := HI0.out
    have hcz7_0 := cellS97_0 HGz7
    have hcz7_1 := cellS97_1 HGz7
    have hcz7_2 := cellS97_2 HGz7
    have hfz7_0 := blk_frozen HGz7 0
    have hfz7_1 := blk_frozen HGz7 1
    have hfz7_2 := blk_frozen HGz7 2
    clear HGz7 hgz7
    go_enter Tryd.func79, Tryd.ntmps79
    go_wp2
    repeat (go_quiet (fail); try go_wp2)
    go_ret
    exact ⟨by first | rfl | (simp [errW_none, errW_some] <;> rfl) | (simp [*, errW_none, errW_some] <;> rfl), by repeat (first | (with_reducible first | exact HI0.out | apply IsS97.alloc | apply IsS97.drewN | apply IsS97.drew | apply IsS97.set_0 | apply IsS97.set_1 | apply IsS97.set_2) | exact HI0.out), by repeat (first | (with_reducible first | exact HB.out | apply below_alloc | apply pw_below_drewN | apply below_drew1 | refine below_set ?_ (IsS97.ge HI0.out)) | exact HB.out), by repeat (first | (with_reducible first | exact HK.out | apply KeepBut.set_ | apply keep_drewN | apply keep_drew | apply keep_alloc) | exact HK.out)⟩
   ·rw [if_neg c6] at H
    have c6b0 : decide ((wrap64 ((s0_0.size : Int) - s0_1)) < a1) = false := decide_eq_false c6
    clear c6
    obtain ⟨ji8, hji8⟩ : ∃ j_ : Int, (wrap64 ((wrap64 (s0_1 + a1)) - a1)) = j_ := ⟨_, rfl⟩
    replace H : (if 0 ≤ (ji8) then (if (ji8) ≤ (wrap64 (s0_1 + a1)) then (if (wrap64 (s0_1 + a1)) ≤ (s0_0.size : Int) then (some (s0_0.extract ((ji8) : Int).toNat ((wrap64 (s0_1 + a1)) : Int).toNat, s0_0, wrap64 (s0_1 + a1), s0_2)) else (none)) else (none)) else (none)) = some (r1, r2, r3, r4) := by first | (rw [hji8] at H; exact H) | (simp only [hji8] at H ⊢; exact H)
    have hji8w : (IntKind.i64.wrap ((wrap64 (s0_1 + a1)) - a1)) = ji8 := (i64_w _).trans hji8
    by_cases c9 : 0 ≤ (ji8)
    ·rw [if_pos c9] at H
     have c9b0 := eq_true c9
     have c9b1 : decide (0 ≤ (ji8)) = true := decide_eq_true c9
     clear c9
     by_cases c10 : (ji8) ≤ (wrap64 (s0_1 + a1))
     ·rw [if_pos c10] at H
      have c10b0 := eq_true c10
      have c10b1 : decide ((ji8) ≤ (wrap64 (s0_1 + a1))) = true := decide_eq_true c10
      by_cases c11 : (wrap64 (s0_1 + a1)) ≤ (s0_0.size : Int)
      ·rw [if_pos c11] at H
       have c11b0 := eq_true c11
       have c11b1 : decide ((wrap64 (s0_1 + a1)) ≤ (s0_0.size : Int)) = true := decide_eq_true c11
       simp only [Option.some.injEq, Prod.mk.injEq] at H
       obtain ⟨rfl, rfl, rfl, rfl⟩ := H
       obtain ⟨HGz12, hgz12⟩ := HI0.out
       have hcz12_0 := cellS97_0 HGz12
       have hcz12_1 := cellS97_1 HGz12
       have hcz12_2 := cellS97_2 HGz12
       have hfz12_0 := blk_frozen HGz12 0
       have hfz12_1 := blk_frozen HGz12 1
       have hfz12_2 := blk_frozen HGz12 2
       clear HGz12 hgz12
       go_enter Tryd.func79, Tryd.ntmps79
       go_wp2
       repeat (go_quiet (fail); try go_wp2)
       go_ret
       exact ⟨by first | rfl | (simp [errW_none, errW_some] <;> rfl) | (simp only [← hji8]; first | rfl | (simp [errW_none, errW_some] <;> rfl)) | (simp [*, errW_none, errW_some] <;> rfl), by repeat (first | (with_reducible first | exact HI0.out | apply IsS97.alloc | apply IsS97.drewN | apply IsS97.drew | apply IsS97.set_0 | apply IsS97.set_1 | apply IsS97.set_2) | exact HI0.out), by repeat (first | (with_reducible first | exact HB.out | apply below_alloc | apply pw_below_drewN | apply below_drew1 | refine below_set ?_ (IsS97.ge HI0.out)) | exact HB.out), by repeat (first | (with_reducible first | exact HK.out | apply KeepBut.set_ | apply keep_drewN | apply keep_drew | apply keep_alloc) | exact HK.out)⟩
      ·rw [if_neg c11] at H
       exact absurd H (by simp)
     ·rw [if_neg c10] at H
      exact absurd H (by simp)
    ·rw [if_neg c9] at H
     exact absurd H (by simp)
 ·rw [if_neg c3] at H
  have c3b0 : (s0_2 == 0) = false := beq_eq_false_iff_ne.mpr c3
  have c3b1 : (s0_2 != 0) = true := bne_iff_ne.mpr c3
  simp only [Option.some.injEq, Prod.mk.injEq] at H
  obtain ⟨rfl, rfl, rfl, rfl⟩ := H
  obtain ⟨HGz13, hgz13⟩ := HI0.out
  have hcz13_0 := cellS97_0 HGz13
  have hcz13_1 := cellS97_1 HGz13
  have hcz13_2 := cellS97_2 HGz13
  have hfz13_0 := blk_frozen HGz13 0
  have hfz13_1 := blk_frozen HGz13 1
  have hfz13_2 := blk_frozen HGz13 2
  clear HGz13 hgz13
  go_enter Tryd.func79, Tryd.ntmps79
  go_wp2
  repeat (go_quiet (fail); try go_wp2)
  go_ret
  exact ⟨by first | rfl | (simp [errW_none, errW_some] <;> rfl) | (simp [*, errW_none, errW_some] <;> rfl), by repeat (first | (with_reducible first | exact HI0.out | apply IsS97.alloc | apply IsS97.drewN | apply IsS97.drew | apply IsS97.set_0 | apply IsS97.set_1 | apply IsS97.set_2) | exact HI0.out), by repeat (first | (with_reducible first | exact HB.out | apply below_alloc | apply pw_below_drewN | apply below_drew1 | refine below_set ?_ (IsS97.ge HI0.out)) | exact HB.out), by repeat (first | (with_reducible first | exact HK.out | apply KeepBut.set_ | apply keep_drewN | apply keep_drew | apply keep_alloc) | exact HK.out)⟩
end Go.Proofs.YtafjlibcdlihcaaDoor.G
end
section
namespace Go.Proofs.YtafjlibcdlihcaaDoor.G
open Go.RowKit Go.Proofs.YtafjlibcdlihcaaDoorW.PrintWords Go.Proofs.YtafjlibcdlihcaaDoorW.PrintLast Go.Proofs.YtafjlibcdlihcaaDoorW.PrintMore
attribute [local go_sem] max2_int min2_int max_two min_two max_three min_three max_four min_four   -- for this text's walks alone
set_option linter.unusedVariables false
set_option linter.unusedSimpArgs false
def barqueref01_Reader_Text.f (k : Nat) (s0_0 : ByteArray) (s0_1 : Int) (s0_2 : Int) (a1 : Int) : Option (ByteArray × ByteArray × Int × Int) := (barqueref01_Reader_Count.f k s0_0 s0_1 s0_2 a1).bind fun bt701 => ((barqueref01_Reader_Raw.f bt701.2.1 bt701.2.2.1 bt701.2.2.2 bt701.1).bind fun bt705 => (some (bt705.1, bt705.2.1, bt705.2.2.1, bt705.2.2.2)))
theorem barqueref01_Reader_Text.mono : ∀ a0 a1 a2 a3 k, LeO (barqueref01_Reader_Text.f k a0 a1 a2 a3) (barqueref01_Reader_Text.f (k + 1) a0 a1 a2 a3) := by
 intro a0 a1 a2 a3 k
 unfold barqueref01_Reader_Text.f
 repeat' first
   | (with_reducible exact barqueref01_Reader_Count.mono _ _ _ _ _)
   | (with_reducible exact LeO.refl _)
   | (with_reducible exact LeO.none _)
   | (with_reducible refine LeO.ite ?_ ?_)
   | (with_reducible refine LeO.bind ?_ (fun _ => ?_))
   | exact barqueref01_Reader_Count.mono _ _ _ _ _
   | exact LeO.none _
   | refine LeO.ite ?_ ?_
   | refine LeO.bind ?_ (fun _ => ?_)
set_option maxHeartbeats 8000000 in
set_option maxRecDepth 100000 in
theorem barqueref01_Reader_Text.calls (k : Nat) (g : Nat) (s0_0 : ByteArray) (s0_1 : Int) (s0_2 : Int) (a1 : Int) (r1 : ByteArray) (r2 : ByteArray) (r3 : Int) (r4 : Int) (w0 w : World) (hI : IsS97 w0 w g s0_0 s0_1 s0_2) (hB : Below w0.heap.size w0 w) (h : barqueref01_Reader_Text.f k s0_0 s0_1 s0_2 a1 = some (r1, r2, r3, r4)) :
  Calls Tryd.prog 77 #[.pointer (some ⟨g, 0, none⟩), .int .i64 a1] w fun e w' => e = .returned (.string r1) ∧ IsS97 w0 w' g r2 r3 r4 ∧ Below w0.heap.size w0 w' ∧ KeepBut w w' g none := by
 have HI0 := Aside0.mk hI
 have HK := Aside0.mk (KeepBut.refl w g none)
 have HL := Aside0.mk hB.size
 clear hI
 have HW0 := Aside0.mk hB.size
 have HB := Aside0.mk hB
 clear hB
 have H : ((barqueref01_Reader_Count.f k s0_0 s0_1 s0_2 a1).bind fun bt701 => ((barqueref01_Reader_Raw.f bt701.2.1 bt701.2.2.1 bt701.2.2.2 bt701.1).bind fun bt705 => (some (bt705.1, bt705.2.1, bt705.2.2.1, bt705.2.2.2)))) = some (r1, r2, r3, r4) := h
 clear h
 replace H := Option.bind_eq_some_iff.mp H
 obtain ⟨⟨t701, t702, t703, t704⟩, A30, H⟩ := H
 replace H : ((barqueref01_Reader_Raw.f t702 t703 t704 t701).bind fun bt705 => (some (bt705.1, bt705.2.1, bt705.2.2.1, bt705.2.2.2))) = some (r1, r2, r3, r4) := H
 have A3 := Aside0.mk A30
 clear A30
 replace H := Option.bind_eq_some_iff.mp H
 obtain ⟨⟨t705, t706, t707, t708⟩, A40, H⟩ := H
 replace H : (some (t705, t706, t707, t708)) = some (r1, r2, r3, r4) := H
 have A4 := Aside0.mk A40
 clear A40
 simp only [Option.some.injEq, Prod.mk.injEq] at H
 obtain ⟨rfl, rfl, rfl, rfl⟩ := H
 go_enter Tryd.func77, Tryd.ntmps77
 go_wp2_with (first | ((with_reducible refine gate_callee (f := 76) rfl ?_); refine goesL_ (some 8) rfl rfl Tryd.func76 (by kernel_rfl) rfl #[.pointer (some ⟨g, 0, none⟩), .int .i64 a1] rfl (by (try simp only [List.map_toArray, List.map_cons, List.map_nil]); first | done | rfl | (simp only [List.length_drop, List.length_take]; rfl)) ?_; (with_reducible refine (barqueref01_Reader_Count.calls k g s0_0 s0_1 s0_2 a1 t701 t702 t703 t704 w0 _ ?side1 ?side2 A3.out).mono ?_); (case side1 => repeat (first | (with_reducible first | exact HI0.out | apply IsS97.alloc | apply IsS97.drewN | apply IsS97.drew | apply IsS97.set_0 | apply IsS97.set_1 | apply IsS97.set_2) | exact HI0.out)); (case side2 => repeat (first | (with_reducible first | exact HB.out | apply below_alloc | apply pw_below_drewN | apply below_drew1 | refine below_set ?_ (IsS97.ge HI0.out)) | exact HB.out)); rintro e w5 ⟨rfl, hi, hb, hk⟩; refine ⟨_, rfl, ?_⟩; have n0_ := Aside0.mk (KeepBut.trans (by repeat (first | (with_reducible first | exact HK.out | apply KeepBut.set_ | apply keep_drewN | apply keep_drew | apply keep_alloc) | exact HK.out)) hk (.inl rfl)); have n1_ := Aside0.mk (hb); have n2_ := Aside0.mk (hi); clear HK; clear HB; clear HI0; have HK := n0_; have HB := n1_; have HI0 := n2_; clear n0_ n1_ n2_; (try clear hb); (try clear hb2); (try clear hk); (try clear hi)) | ((with_reducible refine gate_callee (f := 79) rfl ?_); refine goesL_ (some 11) rfl rfl Tryd.func79 (by kernel_rfl) rfl #[.pointer (some ⟨g, 0, none⟩), .int .i64 t701] rfl (by (try simp only [List.map_toArray, List.map_cons, List.map_nil]); first | done | rfl | (simp only [List.length_drop, List.length_take]; rfl)) ?_; (with_reducible refine (barqueref01_Reader_Raw.calls g t702 t703 t704 t701 t705 t706 t707 t708 w0 _ ?side1 ?side2 A4.out).mono ?_); (case side1 => repeat (first | (with_reducible first | exact HI0.out | apply IsS97.alloc | apply IsS97.drewN | apply IsS97.drew | apply IsS97.set_0 | apply IsS97.set_1 | apply IsS97.set_2) | exact HI0.out)); (case side2 => repeat (first | (with_reducible first | exact HB.out | apply below_alloc | apply pw_below_drewN | apply below_drew1 | refine below_set ?_ (IsS97.ge HI0.out)) | exact HB.out)); rintro e w6 ⟨rfl, hi, hb, hk⟩; refine ⟨_, rfl, ?_⟩; have n0_ := Aside0.mk (KeepBut.trans (by repeat (first | (with_reducible first | exact HK.out | apply KeepBut.set_ | apply keep_drewN | apply keep_drew | apply keep_alloc) | exact HK.out)) hk (.inl rfl)); have n1_ := Aside0.mk (hb); have n2_ := Aside0.mk (hi); clear HK; clear HB; clear HI0; have HK := n0_; have HB := n1_; have HI0 := n2_; clear n0_ n1_ n2_; (try clear hb); (try clear hb2); (try clear hk); (try clear hi)))
 go_ret
 exact ⟨by first | rfl | (simp [errW_none, errW_some] <;> rfl) | (simp [*, errW_none, errW_some] <;> rfl), by repeat (first | (with_reducible first | exact HI0.out | apply IsS97.alloc | apply IsS97.drewN | apply IsS97.drew | apply IsS97.set_0 | apply IsS97.set_1 | apply IsS97.set_2) | exact HI0.out), by repeat (first | (with_reducible first | exact HB.out | apply below_alloc | apply pw_below_drewN | apply below_drew1 | refine below_set ?_ (IsS97.ge HI0.out)) | exact HB.out), by repeat (first | (with_reducible first | exact HK.out | apply KeepBut.set_ | apply keep_drewN | apply keep_drew | apply keep_alloc) | exact HK.out)⟩
end Go.Proofs.YtafjlibcdlihcaaDoor.G
end
section
namespace Go.Proofs.YtafjlibcdlihcaaDoor.G
open Go.RowKit Go.Proofs.YtafjlibcdlihcaaDoorW.PrintWords Go.Proofs.YtafjlibcdlihcaaDoorW.PrintLast Go.Proofs.YtafjlibcdlihcaaDoorW.PrintMore
set_option linter.unusedVariables false
set_option linter.unusedSimpArgs false
theorem refbyte_ (s : ByteArray) (hs : s.size ≤ 140737488351232) (at_ : Nat) (h : at_ ≤ s.size) : barqueref01_Reader_Byte.f s (at_ : Int) 0 = if at_ < s.size then some (bt s (at_ : Int), s, ((at_ + 1 : Nat) : Int), 0) else some (0, s, (at_ : Int), 3) := by
 unfold barqueref01_Reader_Byte.f
 simp only [↓reduceIte]
 by_cases c : at_ < s.size
 ·have c1 : ¬ (at_ : Int) ≥ (s.size : Int) := by omega
  have c2 : (0 : Int) ≤ (at_ : Int) := Int.natCast_nonneg _
  have c3 : (at_ : Int) < (s.size : Int) := by omega
  have w1 : wrap64 ((at_ : Int) + 1) = ((at_ + 1 : Nat) : Int) := by rw [w64_ (by omega) (by omega)]; omega
  have w2 : wrap64 (((at_ + 1 : Nat) : Int) - 1) = (at_ : Int) := by clear w1; rw [w64_ (by omega) (by omega)]; omega
  have w3 : wrap64 (bt s (at_ : Int)) = bt s (at_ : Int) := by
   clear w1 w2
   have := bt_range s (at_ : Int)
   rw [w64_ (by omega) (by omega)]
  simp only [c1, w1, w2, w3, c2, c3, c, ↓reduceIte]
 ·have c1 : (at_ : Int) ≥ (s.size : Int) := by omega
  simp only [c1, c, ↓reduceIte]
theorem refnumr_l0 (s : ByteArray) (hs : s.size ≤ 140737488351232) : ∀ (d i n at_ : Nat), 9 - i = d → i ≤ 8 → n < 128 ^ i → at_ ≤ s.size →
  Ev (fun k => barqueref01_Reader_Num.l0 k (n : Int) ((128 ^ i : Nat) : Int) (i : Int) s (at_ : Int) 0) ((numGo s d i n at_).1, s, ((numGo s d i n at_).2.1 : Int), (numGo s d i n at_).2.2) := by
 intro d
 induction d with
 | zero => intro i n at_ hd hi hn ha; omega
 | succ d ih =>
  intro i n at_ hd hi hn ha
  have z3 : ¬ (3 : Int) = 0 := by decide
  have c9 : (i : Int) < 9 := by omega
  apply Ev.step
  ·intro k; rw [barqueref01_Reader_Num.l0]
  simp only [c9, ↓reduceIte]
  rw [refbyte_ s hs at_ ha]
  unfold numGo
  by_cases c : at_ < s.size
  ·obtain ⟨b, hb, hb5⟩ := bt_byte_ s (at_ : Int)
   simp only [c, ↓reduceIte, Option.bind_some]
   rw [hb]
   simp only [Int.toNat_natCast]
   have hj1 : ∀ t : Bool, t = decide ((i = 8 ∧ 63 < b) ∨ (0 < i ∧ b = 0)) → Ev (fun k => barqueref01_Reader_Num.j1 k (n : Int) ((128 ^ i : Nat) : Int) (i : Int) (b : Int) t s ((at_ + 1 : Nat) : Int) 0) ((if (i = 8 ∧ 63 < b) ∨ (0 < i ∧ b = 0) then ((0 : Int), at_ + 1, (5 : Int)) else if b < 128 then (((n + b % 128 * 128 ^ i : Nat) : Int), at_ + 1, 0) else numGo s d (i + 1) (n + b % 128 * 128 ^ i) (at_ + 1)).1, s, (((if (i = 8 ∧ 63 < b) ∨ (0 < i ∧ b = 0) then ((0 : Int), at_ + 1, (5 : Int)) else if b < 128 then (((n + b % 128 * 128 ^ i : Nat) : Int), at_ + 1, 0) else numGo s d (i + 1) (n + b % 128 * 128 ^ i) (at_ + 1)).2.1 : Nat) : Int), (if (i = 8 ∧ 63 < b) ∨ (0 < i ∧ b = 0) then ((0 : Int), at_ + 1, (5 : Int)) else if b < 128 then (((n + b % 128 * 128 ^ i : Nat) : Int), at_ + 1, 0) else numGo s d (i + 1) (n + b % 128 * 128 ^ i) (at_ + 1)).2.2) := by
    intro t ht
    apply Ev.step
    ·intro k; rw [barqueref01_Reader_Num.j1]
    cases t with
    | true =>
     have g := of_decide_eq_true ht.symm
     simp only [g, ↓reduceIte]
     exact Ev.now _
    | false =>
     have g := of_decide_eq_false ht.symm
     have q2 : i = 8 → b % 128 ≤ 63 := by omega
     have q3 : ¬ b < 128 → 9 - (i + 1) = d ∧ i + 1 ≤ 8 := by omega
     have q4 : at_ + 1 ≤ s.size := by omega
     have hpw := pw_bound_ i b hi q2
     have hnx := pw_next_ i n b hn
     obtain ⟨P, hP⟩ : ∃ P, 128 ^ i = P := ⟨_, rfl⟩
     have hP8 : P ≤ 72057594037927936 := by rw [← hP]; exact Nat.le_trans (Nat.pow_le_pow_right (by decide) hi) (by decide)
     rw [hP] at hpw hn
     obtain ⟨X, hX⟩ : ∃ X, b % 128 * P = X := ⟨_, rfl⟩
     rw [hX] at hpw
     have hlast : n + X ≤ 4611686018427387903 := by
      by_cases e8 : i = 8
      ·have h63 : b % 128 * P ≤ 63 * P := Nat.mul_le_mul_right _ (q2 e8)
       omega
      ·have hP7 : P ≤ 562949953421312 := by rw [← hP]; exact Nat.le_trans (Nat.pow_le_pow_right (by decide) (by omega : i ≤ 7)) (by decide)
       have hx : b % 128 * P ≤ 127 * P := Nat.mul_le_mul_right _ (by omega)
       omega
     have t1 : Int.tmod (b : Int) 128 = ((b % 128 : Nat) : Int) := by rw [Int.tmod_eq_emod_of_nonneg (Int.natCast_nonneg _)]; rfl
     have t2 : ((b % 128 : Nat) : Int) * (P : Int) = (X : Int) := by rw [← hX]; push_cast; rfl
     have w1 : wrap64 (X : Int) = (X : Int) := by rw [w64_ (by omega) (by omega)]
     have w2 : wrap64 ((n : Int) + (X : Int)) = ((n + X : Nat) : Int) := by clear w1; rw [w64_ (by omega) (by omega)]; omega
     simp only [g, Bool.false_eq_true, ↓reduceIte, hP, hX, t1, t2, w1, w2]
     by_cases c2 : b < 128
     ·have c3 : (b : Int) < 128 := by clear w1 w2; omega
      simp only [c2, c3, ↓reduceIte]
      exact Ev.now _
     ·have c3 : ¬ (b : Int) < 128 := by clear w1 w2; omega
      have hi7 : i ≤ 7 := by clear w1 w2; omega
      have hP7 : P ≤ 562949953421312 := by rw [← hP]; exact Nat.le_trans (Nat.pow_le_pow_right (by decide) hi7) (by decide)
      have w3 : wrap64 ((P : Int) * 128) = ((128 ^ (i + 1) : Nat) : Int) := by
       clear w1 w2
       rw [Nat.pow_succ, hP, w64_ (by omega) (by omega)]
       omega
      have w4 : wrap64 ((i : Int) + 1) = ((i + 1 : Nat) : Int) := by clear w1 w2 w3; rw [w64_ (by omega) (by omega)]; omega
      simp only [c2, c3, w3, w4, ↓reduceIte]
      have hn2 : n + X < 128 ^ (i + 1) := by rw [← hX, ← hP]; exact hnx
      exact ih (i + 1) (n + X) (at_ + 1) (q3 c2).1 (q3 c2).2 hn2 q4
   by_cases c4 : 0 < i
   ·have c5 : (i : Int) > 0 := by omega
    simp only [c5, ↓reduceIte]
    by_cases c6 : b = 0
    ·have c7 : (b : Int) = 0 := by omega
     have hh := hj1 true (by simp [c4, c6])
     rw [c7] at hh
     simp only [c7, ↓reduceIte]
     exact hh
    ·have c7 : ¬ (b : Int) = 0 := by omega
     simp only [c7, ↓reduceIte]
     by_cases c8 : i = 8
     ·have c10 : (i : Int) = 8 := by omega
      have hh := hj1 (decide ((b : Int) > 63)) (by
       by_cases q : 63 < b
       ·have : (b : Int) > 63 := by omega
        simp [this, c8, q]
       ·have : ¬ (b : Int) > 63 := by omega
        simp [this, q, c6])
      rw [c10] at hh ⊢
      simp only [↓reduceIte]
      exact hh
     ·have c10 : ¬ (i : Int) = 8 := by omega
      simp only [c10, ↓reduceIte]
      exact hj1 false (by simp [c8, c6])
   ·have c5 : ¬ (i : Int) > 0 := by omega
    have c8 : ¬ i = 8 := by omega
    have c10 : ¬ (i : Int) = 8 := by omega
    simp only [c5, c10, ↓reduceIte]
    exact hj1 false (by simp [c8, c4])
  ·simp only [c, ↓reduceIte, Option.bind_some, z3]
   exact Ev.now _
theorem refnumr_ev (s : ByteArray) (hs : s.size ≤ 140737488351232) (at_ : Nat) (e : Int) (ha : at_ ≤ s.size) : Ev (fun k => barqueref01_Reader_Num.f k s (at_ : Int) e) ((numS s at_ e).1, s, ((numS s at_ e).2.1 : Int), (numS s at_ e).2.2) := by
 unfold barqueref01_Reader_Num.f numS
 by_cases c : e = 0
 ·subst c
  simp only [↓reduceIte]
  exact refnumr_l0 s hs 9 0 0 at_ rfl (by decide) (by decide) ha
 ·have c9 : (0 : Int) < 9 := by decide
  simp only [c, ↓reduceIte]
  apply Ev.step
  ·intro k; rw [barqueref01_Reader_Num.l0]
  simp only [c9, barqueref01_Reader_Byte.f, c, ↓reduceIte, Option.bind_some]
  exact Ev.now _
theorem refcount_ev (s : ByteArray) (hs : s.size ≤ 140737488351232) (at_ : Nat) (e most : Int) (ha : at_ ≤ s.size) : Ev (fun k => barqueref01_Reader_Count.f k s (at_ : Int) e most) ((countS s at_ e most).1, s, ((countS s at_ e most).2.1 : Int), (countS s at_ e most).2.2) := by
 unfold barqueref01_Reader_Count.f countS
 refine Ev.bind (refnumr_ev s hs at_ e ha) ?_
 obtain ⟨r, hr⟩ : ∃ r, numS s at_ e = r := ⟨_, rfl⟩
 rw [hr]
 by_cases c : r.2.2 = 0
 ·simp only [c, true_and, ↓reduceIte]
  by_cases c1 : most < r.1
  ·have c2 : r.1 > most := c1
   simp only [c1, c2, ↓reduceIte]
   exact Ev.now _
  ·have c2 : ¬ r.1 > most := c1
   simp only [c1, c2, ↓reduceIte, c]
   exact Ev.now _
 ·simp only [c, false_and, ↓reduceIte]
  exact Ev.now _
theorem refraw_f (s : ByteArray) (hs : s.size ≤ 140737488351232) (at_ : Nat) (e n : Int) (ha : at_ ≤ s.size) (hn : -9223372036854775808 ≤ n ∧ n ≤ 4611686018427387903) : barqueref01_Reader_Raw.f s (at_ : Int) e n = some ((rawS s at_ e n).1, s, ((rawS s at_ e n).2.1 : Int), (rawS s at_ e n).2.2) := by
 unfold barqueref01_Reader_Raw.f rawS
 by_cases c : e = 0
 ·subst c
  simp only [↓reduceIte]
  by_cases c1 : n < 0
  ·simp only [c1, ↓reduceIte]
  ·simp only [c1, ↓reduceIte]
   have w0 : wrap64 ((s.size : Int) - (at_ : Int)) = (s.size : Int) - at_ := by rw [w64_ (by omega) (by omega)]
   rw [w0]
   by_cases c2 : (s.size : Int) - at_ < n
   ·have c3 : n > (s.size : Int) - at_ := c2
    simp only [c2, c3, ↓reduceIte]
   ·have c3 : ¬ n > (s.size : Int) - at_ := c2
    have w1 : wrap64 ((at_ : Int) + n) = ((at_ + n.toNat : Nat) : Int) := by clear w0; rw [w64_ (by omega) (by omega)]; omega
    have w2 : wrap64 (((at_ + n.toNat : Nat) : Int) - n) = (at_ : Int) := by clear w1 w0; rw [w64_ (by omega) (by omega)]; omega
    have c4 : (0 : Int) ≤ (at_ : Int) := Int.natCast_nonneg _
    have c5 : (at_ : Int) ≤ ((at_ + n.toNat : Nat) : Int) := by clear w1 w2 w0; omega
    have c6 : ((at_ + n.toNat : Nat) : Int) ≤ (s.size : Int) := by clear w1 w2 w0; omega
    simp only [c2, c3, w1, w2, c4, c5, c6, ↓reduceIte, Int.toNat_natCast]
 ·simp only [c, ↓reduceIte]
theorem reftextr_ev (s : ByteArray) (hs : s.size ≤ 140737488351232) (at_ : Nat) (e most : Int) (ha : at_ ≤ s.size) : Ev (fun k => barqueref01_Reader_Text.f k s (at_ : Int) e most) ((textS s at_ e most).1, s, ((textS s at_ e most).2.1 : Int), (textS s at_ e most).2.2) := by
 unfold barqueref01_Reader_Text.f textS
 have hc := countS_at s at_ e most ha
 have hr := countS_range s at_ e most
 refine Ev.bind (refcount_ev s hs at_ e most ha) ?_
 simp only [refraw_f s hs _ _ _ hc.2 ⟨Int.le_trans (by decide) hr.1, hr.2⟩, Option.bind_some]
 exact Ev.now _
end Go.Proofs.YtafjlibcdlihcaaDoor.G
end
section
namespace Go.Proofs.YtafjlibcdlihcaaDoor.G
open Go.RowKit Go.Proofs.YtafjlibcdlihcaaDoorW.PrintWords Go.Proofs.YtafjlibcdlihcaaDoorW.PrintLast Go.Proofs.YtafjlibcdlihcaaDoorW.PrintMore
attribute [local go_sem] max2_int min2_int max_two min_two max_three min_three max_four min_four   -- for this text's walks alone
set_option linter.unusedVariables false
set_option linter.unusedSimpArgs false
def tree_Order.l0 : Nat → ByteArray → ByteArray → Int → Int → Option (Int)
 | 0, _, _, _, _ => none
 | k + 1, x0, x1, x12, x13 => if x13 < x12 then (if 0 ≤ x13 then (if x13 < (x0.size : Int) then (if x13 < (x1.size : Int) then (if (wrap64 (bt x0 x13)) = (wrap64 (bt x1 x13)) then (tree_Order.l0 k x0 x1 x12 (wrap64 (x13 + 1))) else (if (wrap64 (bt x0 x13)) = 47 then (some (-1)) else (if (wrap64 (bt x1 x13)) = 47 then (some 1) else (some (wrap64 ((wrap64 (bt x0 x13)) - (wrap64 (bt x1 x13)))))))) else (none)) else (none)) else (none)) else (some (wrap64 ((x0.size : Int) - (x1.size : Int))))
def tree_Order.f (k : Nat) (a0 : ByteArray) (a1 : ByteArray) : Option (Int) := tree_Order.l0 k a0 a1 (mn (a0.size : Int) (a1.size : Int)) 0
theorem tree_Order.mono_l : ∀ k, (∀ y0 y1 y2 y3, LeO (tree_Order.l0 k y0 y1 y2 y3) (tree_Order.l0 (k + 1) y0 y1 y2 y3))
 | 0 => fun _ _ _ _ r h => by simp [tree_Order.l0] at h
 | k + 1 => by
  have ih0 := tree_Order.mono_l k
  ·intro y0 y1 y2 y3
   unfold tree_Order.l0
   repeat' first
   | (with_reducible exact ih0 _ _ _ _)
   | (with_reducible exact LeO.refl _)
   | (with_reducible exact LeO.none _)
   | (with_reducible refine LeO.ite ?_ ?_)
   | (with_reducible refine LeO.bind ?_ (fun _ => ?_))
   | exact ih0 _ _ _ _
   | exact LeO.none _
   | refine LeO.ite ?_ ?_
   | refine LeO.bind ?_ (fun _ => ?_)
theorem tree_Order.mono : ∀ a0 a1 k, LeO (tree_Order.f k a0 a1) (tree_Order.f (k + 1) a0 a1) := by
 intro a0 a1 k
 have ih0 := tree_Order.mono_l k
 unfold tree_Order.f
 repeat' first
   | (with_reducible exact ih0 _ _ _ _)
   | (with_reducible exact LeO.refl _)
   | (with_reducible exact LeO.none _)
   | (with_reducible refine LeO.ite ?_ ?_)
   | (with_reducible refine LeO.bind ?_ (fun _ => ?_))
   | exact ih0 _ _ _ _
   | exact LeO.none _
   | refine LeO.ite ?_ ?_
   | refine LeO.bind ?_ (fun _ => ?_)
set_option maxHeartbeats 8000000 in
set_option maxRecDepth 100000 in
theorem tree_Order.calls (k : Nat) (a0 : ByteArray) (a1 : ByteArray) (r : Int) (w : World) (h : tree_Order.f k a0 a1 = some r) :
  Calls Tryd.prog 18 #[.string a0, .string a1] w fun e w' => e = .returned (.int .i64 r) ∧ Below w.heap.size w w' := by
 have HB := Aside0.mk (Below.refl w.heap.size w)
 have H : (tree_Order.l0 k a0 a1 (mn (a0.size : Int) (a1.size : Int)) 0) = some r := h
 clear h
 obtain ⟨ji3, hji3⟩ : ∃ j_ : Int, (mn (a0.size : Int) (a1.size : Int)) = j_ := ⟨_, rfl⟩
 replace H : (tree_Order.l0 k a0 a1 ji3 0) = some r := by first | (rw [hji3] at H; exact H) | (simp only [hji3] at H ⊢; exact H)
 (try (have hji3l : 0 ≤ ji3 := by (rw [← hji3]; unfold mn; (repeat' split) <;> omega)))
 (try (have hji3m : 0 ≤ ji3 := by omega))
 have hji3_ : (if (a1.size : Int) < (a0.size : Int) then (a1.size : Int) else (a0.size : Int)) = ji3 := hji3
 have hji3n : (if a1.size < a0.size then (a1.size : Int) else (a0.size : Int)) = ji3 := by rw [← hji3]; unfold mn; simp only [Int.ofNat_lt]
 have H' := Aside0.mk H
 clear H
 go_enter Tryd.func18, Tryd.ntmps18
 go_wp2
 repeat (go_quiet (fail); try go_wp2)
 go_loopg [13] k (fun kq v13 w' => ∃ (x13_1 : Int), v13 = .int .i64 x13_1 ∧ Aside0 (tree_Order.l0 kq a0 a1 ji3 x13_1 = some r) ∧ Aside0 (kq ≤ k) ∧ Aside0 (Below w.heap.size w w'))
 case atStart => exact ⟨(0), (by first | rfl | (simp; done) | (simp [*]; done)), H', ⟨Nat.le_refl _⟩, ⟨by repeat (first | (with_reducible first | exact HB.out | apply below_alloc | apply pw_below_drewN | apply below_drew1) | exact HB.out)⟩⟩
 case round =>
  clear H'
  try clear c1
  try clear p2
  obtain ⟨x13_1, rfl, HA, HK1, HB⟩ := hrel
  cases gk with
  | zero => exact absurd HA.out (by simp [tree_Order.l0])
  | succ k1 =>
   have H := HA.out
   clear HA
   simp only [tree_Order.l0] at H
   by_cases c4 : x13_1 < ji3
   ·rw [if_pos c4] at H
    have c4b0 : decide (x13_1 < ji3) = true := decide_eq_true c4
    clear c4
    by_cases c5 : 0 ≤ x13_1
    ·rw [if_pos c5] at H
     have c5b0 : decide (0 ≤ x13_1) = true := decide_eq_true c5
     clear c5
     by_cases c6 : x13_1 < (a0.size : Int)
     ·rw [if_pos c6] at H
      have c6b0 : decide (x13_1 < (a0.size : Int)) = true := decide_eq_true c6
      clear c6
      by_cases c8 : x13_1 < (a1.size : Int)
      ·rw [if_pos c8] at H
       have c8b0 : decide (x13_1 < (a1.size : Int)) = true := decide_eq_true c8
       clear c8
       by_cases c10 : (wrap64 (bt a0 x13_1)) = (wrap64 (bt a1 x13_1))
       ·rw [if_pos c10] at H
        have c10b0 : ((wrap64 (bt a0 x13_1)) == (wrap64 (bt a1 x13_1))) = true := beq_iff_eq.mpr c10
        have c10b1 : ((wrap64 (bt a0 x13_1)) != (wrap64 (bt a1 x13_1))) = false := bne_eq_false_iff_eq.mpr c10
        clear c10
        have H' := Aside0.mk H
        clear H
        have p7 : 0 ≤ (x13_1 : Int) := of_decide_eq_true (by first | (with_reducible assumption) | assumption)
        have q7 : x13_1 < (a0.size : Int) := of_decide_eq_true (by first | (with_reducible assumption) | assumption)
        have hx7 := bt_at a0 x13_1
        replace p7 := eq_true p7
        replace q7 := eq_true q7
        have p9 : 0 ≤ (x13_1 : Int) := of_decide_eq_true (by first | (with_reducible assumption) | assumption)
        have q9 : x13_1 < (a1.size : Int) := of_decide_eq_true (by first | (with_reducible assumption) | assumption)
        have hx9 := bt_at a1 x13_1
        replace p9 := eq_true p9
        replace q9 := eq_true q9
        go_wp2
        repeat (go_quiet (fail); try go_wp2)
        go_roundg k1
        case measure => have := HK1.out; omega
        case rel => exact ⟨(wrap64 (x13_1 + 1)), (by first | rfl | (simp; done) | (simp [*]; done)), H', ⟨by have := HK1.out; omega⟩, ⟨by repeat (first | (with_reducible first | exact HB.out | apply below_alloc | apply pw_below_drewN | apply below_drew1) | exact HB.out)⟩⟩
       ·rw [if_neg c10] at H
        have c10b0 : ((wrap64 (bt a0 x13_1)) == (wrap64 (bt a1 x13_1))) = false := beq_eq_false_iff_ne.mpr c10
        have c10b1 : ((wrap64 (bt a0 x13_1)) != (wrap64 (bt a1 x13_1))) = true := bne_iff_ne.mpr c10
        by_cases c11 : (wrap64 (bt a0 x13_1)) = 47
        ·rw [if_pos c11] at H
         have c11b0 : ((wrap64 (bt a0 x13_1)) == 47) = true := beq_iff_eq.mpr c11
         have c11b1 : ((wrap64 (bt a0 x13_1)) != 47) = false := bne_eq_false_iff_eq.mpr c11
         clear c11
         obtain rfl := Option.some.inj H
         have p7 : 0 ≤ (x13_1 : Int) := of_decide_eq_true (by first | (with_reducible assumption) | assumption)
         have q7 : x13_1 < (a0.size : Int) := of_decide_eq_true (by first | (with_reducible assumption) | assumption)
         have hx7 := bt_at a0 x13_1
         replace p7 := eq_true p7
         replace q7 := eq_true q7
         have p9 : 0 ≤ (x13_1 : Int) := of_decide_eq_true (by first | (with_reducible assumption) | assumption)
         have q9 : x13_1 < (a1.size : Int) := of_decide_eq_true (by first | (with_reducible assumption) | assumption)
         have hx9 := bt_at a1 x13_1
         replace p9 := eq_true p9
         replace q9 := eq_true q9
         go_wp2
         repeat (go_quiet (fail); try go_wp2)
         go_ret
         exact ⟨by first | rfl | (simp [errW_none, errW_some] <;> rfl) | (simp only [← hji3]; first | rfl | (simp [errW_none, errW_some] <;> rfl)) | (simp [*, errW_none, errW_some] <;> rfl), by repeat (first | (with_reducible first | exact HB.out | apply below_alloc | apply pw_below_drewN | apply below_drew1) | exact HB.out)⟩
        ·rw [if_neg c11] at H
         have c11b0 : ((wrap64 (bt a0 x13_1)) == 47) = false := beq_eq_false_iff_ne.mpr c11
         have c11b1 : ((wrap64 (bt a0 x13_1)) != 47) = true := bne_iff_ne.mpr c11
         by_cases c12 : (wrap64 (bt a1 x13_1)) = 47
         ·rw [if_pos c12] at H
          have c12b0 : ((wrap64 (bt a1 x13_1)) == 47) = true := beq_iff_eq.mpr c12
          have c12b1 : ((wrap64 (bt a1 x13_1)) != 47) = false := bne_eq_false_iff_eq.mpr c12
          clear c12
          obtain rfl := Option.some.inj H
          have p7 : 0 ≤ (x13_1 : Int) := of_decide_eq_true (by first | (with_reducible assumption) | assumption)
          have q7 : x13_1 < (a0.size : Int) := of_decide_eq_true (by first | (with_reducible assumption) | assumption)
          have hx7 := bt_at a0 x13_1
          replace p7 := eq_true p7
          replace q7 := eq_true q7
          have p9 : 0 ≤ (x13_1 : Int) := of_decide_eq_true (by first | (with_reducible assumption) | assumption)
          have q9 : x13_1 < (a1.size : Int) := of_decide_eq_true (by first | (with_reducible assumption) | assumption)
          have hx9 := bt_at a1 x13_1
          replace p9 := eq_true p9
          replace q9 := eq_true q9
          go_wp2
          repeat (go_quiet (fail); try go_wp2)
          go_ret
          exact ⟨by first | rfl | (simp [errW_none, errW_some] <;> rfl) | (simp only [← hji3]; first | rfl | (simp [errW_none, errW_some] <;> rfl)) | (simp [*, errW_none, errW_some] <;> rfl), by repeat (first | (with_reducible first | exact HB.out | apply below_alloc | apply pw_below_drewN | apply below_drew1) | exact HB.out)⟩
         ·rw [if_neg c12] at H
          have c12b0 : ((wrap64 (bt a1 x13_1)) == 47) = false := beq_eq_false_iff_ne.mpr c12
          have c12b1 : ((wrap64 (bt a1 x13_1)) != 47) = true := bne_iff_ne.mpr c12
          obtain rfl := Option.some.inj H
          have p7 : 0 ≤ (x13_1 : Int) := of_decide_eq_true (by first | (with_reducible assumption) | assumption)
          have q7 : x13_1 < (a0.size : Int) := of_decide_eq_true (by first | (with_reducible assumption) | assumption)
          have hx7 := bt_at a0 x13_1
          replace p7 := eq_true p7
          replace q7 := eq_true q7
          have p9 : 0 ≤ (x13_1 : Int) := of_decide_eq_true (by first | (with_reducible assumption) | assumption)
          have q9 : x13_1 < (a1.size : Int) := of_decide_eq_true (by first | (with_reducible assumption) | assumption)
          have hx9 := bt_at a1 x13_1
          replace p9 := eq_true p9
          replace q9 := eq_true q9
          go_wp2
          repeat (go_quiet (fail); try go_wp2)
          go_ret
          exact ⟨by first | rfl | (simp [errW_none, errW_some] <;> rfl) | (simp only [← hji3]; first | rfl | (simp [errW_none, errW_some] <;> rfl)) | (simp [*, errW_none, errW_some] <;> rfl), by repeat (first | (with_reducible first | exact HB.out | apply below_alloc | apply pw_below_drewN | apply below_drew1) | exact HB.out)⟩
      ·rw [if_neg c8] at H
       exact absurd H (by simp)
     ·rw [if_neg c6] at H
      exact absurd H (by simp)
    ·rw [if_neg c5] at H
     exact absurd H (by simp)
   ·rw [if_neg c4] at H
    have c4b0 : decide (x13_1 < ji3) = false := decide_eq_false c4
    clear c4
    obtain rfl := Option.some.inj H
    go_wp2
    repeat (go_quiet (fail); try go_wp2)
    go_ret
    exact ⟨by first | rfl | (simp [errW_none, errW_some] <;> rfl) | (simp only [← hji3]; first | rfl | (simp [errW_none, errW_some] <;> rfl)) | (simp [*, errW_none, errW_some] <;> rfl), by repeat (first | (with_reducible first | exact HB.out | apply below_alloc | apply pw_below_drewN | apply below_drew1) | exact HB.out)⟩
end Go.Proofs.YtafjlibcdlihcaaDoor.G
end
section
namespace Go.Proofs.YtafjlibcdlihcaaDoor.G
open Go.RowKit Go.Proofs.YtafjlibcdlihcaaDoorW.PrintWords Go.Proofs.YtafjlibcdlihcaaDoorW.PrintLast Go.Proofs.YtafjlibcdlihcaaDoorW.PrintMore
set_option linter.unusedVariables false
set_option linter.unusedSimpArgs false
def keyB (c : UInt8) : Nat := if c = 47 then 0 else c.toNat + 1
def cmpL : List UInt8 → List UInt8 → Int
 | [], [] => 0
 | [], _ :: _ => -1
 | _ :: _, [] => 1
 | a :: x, b :: y => if a = b then cmpL x y else if keyB a < keyB b then -1 else 1
/-- What the program's Order gives. -/
def ordV : List UInt8 → List UInt8 → Int
 | [], y => -(y.length : Int)
 | x, [] => (x.length : Int)
 | a :: x, b :: y => if a = b then ordV x y else if a = 47 then -1 else if b = 47 then 1 else (a.toNat : Int) - (b.toNat : Int)
theorem keyB_inj {a b : UInt8} (h : keyB a = keyB b) : a = b := by
 unfold keyB at h
 split at h <;> split at h <;> rename_i h1 h2
 ·rw [h1, h2]
 ·omega
 ·omega
 ·exact UInt8.toNat_inj.1 (by omega)
theorem ordV_cmp : ∀ x y : List UInt8, (ordV x y < 0 ↔ cmpL x y < 0) ∧ (ordV x y = 0 ↔ cmpL x y = 0) ∧ (0 < ordV x y ↔ 0 < cmpL x y)
 | [], [] => by simp [ordV, cmpL]
 | [], b :: y => by simp [ordV, cmpL]; omega
 | a :: x, [] => by simp [ordV, cmpL]; omega
 | a :: x, b :: y => by
  unfold ordV cmpL
  by_cases h : a = b
  ·rw [if_pos h, if_pos h]; exact ordV_cmp x y
  ·rw [if_neg h, if_neg h]
   have hn : a.toNat ≠ b.toNat := fun e => h (UInt8.toNat_inj.1 e)
   unfold keyB
   by_cases h1 : a = 47
   ·have h2 : ¬ b = 47 := fun e => h (by rw [h1, e])
    rw [if_pos h1, if_pos h1, if_neg h2, if_pos (by omega)]; decide
   ·by_cases h2 : b = 47
    ·rw [if_neg h1, if_neg h1, if_pos h2, if_pos h2, if_neg (by omega)]; decide
    ·rw [if_neg h1, if_neg h1, if_neg h2, if_neg h2]
     by_cases h3 : a.toNat < b.toNat
     ·rw [if_pos (by omega)]; omega
     ·rw [if_neg (by omega)]; omega
theorem cmpL_eq : ∀ x y : List UInt8, cmpL x y = 0 ↔ x = y
 | [], [] => by simp [cmpL]
 | [], b :: y => by simp [cmpL]
 | a :: x, [] => by simp [cmpL]
 | a :: x, b :: y => by
  unfold cmpL
  by_cases h : a = b
  ·rw [if_pos h, cmpL_eq x y, h]; simp
  ·rw [if_neg h]
   split <;> simp [h]
theorem cmpL_neg : ∀ x y : List UInt8, cmpL y x = - cmpL x y
 | [], [] => rfl
 | [], b :: y => rfl
 | a :: x, [] => rfl
 | a :: x, b :: y => by
  unfold cmpL
  by_cases h : a = b
  ·rw [if_pos h, if_pos h.symm, cmpL_neg x y]
  ·rw [if_neg h, if_neg (fun e => h e.symm)]
   have hk : keyB a ≠ keyB b := fun e => h (keyB_inj e)
   by_cases h1 : keyB a < keyB b
   ·rw [if_pos h1, if_neg (by omega)]; rfl
   ·rw [if_neg h1, if_pos (by omega)]
theorem order_l0 (a b : ByteArray) (ha : a.size ≤ 140737488351232) (hb : b.size ≤ 140737488351232) (m : Nat) (hm : m = min a.size b.size) : ∀ (d i : Nat), m - i = d → i ≤ m →
  a.data.toList.take i = b.data.toList.take i →
  Ev (fun k => tree_Order.l0 k a b m i) (ordV (a.data.toList.drop i) (b.data.toList.drop i)) := by
 intro d
 induction d with
 | zero =>
  intro i hd hi hp
  have e : i = m := by omega
  clear hd hi hp
  subst e
  apply Ev.step
  ·intro k; rw [tree_Order.l0]
  have c1 : ¬ ((i : Int) < (i : Int)) := by omega
  simp only [c1, ↓reduceIte]
  rw [w64_ (by omega) (by omega)]
  have hv : ordV (a.data.toList.drop i) (b.data.toList.drop i) = (a.size : Int) - (b.size : Int) := by
   by_cases h : a.size ≤ b.size
   ·have e2 : i = a.size := by omega
    rw [show a.data.toList.drop i = [] from List.drop_eq_nil_of_le (by rw [sz_]; omega), ordV, List.length_drop, sz_]
    omega
   ·have e2 : i = b.size := by omega
    rw [show b.data.toList.drop i = [] from List.drop_eq_nil_of_le (by rw [sz_]; omega)]
    have hl : (a.data.toList.drop i).length = a.size - i := by rw [List.length_drop, sz_]
    cases hx : a.data.toList.drop i with
    | nil => rw [hx] at hl; simp at hl; omega
    | cons c x =>
     rw [hx] at hl
     rw [ordV, hl]
     ·omega
     ·simp
  rw [hv]
  exact Ev.now _
 | succ d ih =>
  intro i hd hi hp
  have hlt : i < m := by omega
  have hia : i < a.size := by omega
  have hib : i < b.size := by omega
  have hla : i < a.data.toList.length := by rw [sz_]; exact hia
  have hlb : i < b.data.toList.length := by rw [sz_]; exact hib
  apply Ev.step
  ·intro k; rw [tree_Order.l0]
  have c1 : ((i : Int) < (m : Int)) := by omega
  have c2 : (0 : Int) ≤ (i : Int) := by omega
  have c3 : ((i : Int) < (a.size : Int)) := by omega
  have c4 : ((i : Int) < (b.size : Int)) := by omega
  have hw : wrap64 ((i : Int) + 1) = ((i + 1 : Nat) : Int) := by rw [w64_ (by omega) (by omega)]; omega
  simp only [c1, c2, c3, c4, ↓reduceIte, hw, bt_nat a i hia, bt_nat b i hib]
  rw [List.drop_eq_getElem_cons hla, List.drop_eq_getElem_cons hlb]
  obtain ⟨x, hx⟩ : ∃ x, a.data.toList[i]'hla = x := ⟨_, rfl⟩
  obtain ⟨y, hy⟩ : ∃ y, b.data.toList[i]'hlb = y := ⟨_, rfl⟩
  simp only [hx, hy]
  have bx := x.toNat_lt
  have by_ := y.toNat_lt
  rw [w64_ (i := (x.toNat : Int)) (by omega) (by omega), w64_ (i := (y.toNat : Int)) (by omega) (by omega)]
  unfold ordV
  by_cases h : x = y
  ·subst h
   simp only [↓reduceIte]
   refine ih (i + 1) (by omega) (by omega) ?_
   rw [List.take_succ_eq_append_getElem hla, List.take_succ_eq_append_getElem hlb, hp, hx, hy]
  ·have h' : ¬ ((x.toNat : Int) = (y.toNat : Int)) := fun e => h (UInt8.toNat_inj.1 (Int.ofNat.inj e))
   simp only [h, h', ↓reduceIte]
   have e47 : ∀ c : UInt8, ((c.toNat : Int) = 47) ↔ c = 47 := fun c => ⟨fun e => UInt8.toNat_inj.1 (Int.ofNat.inj e), fun e => by rw [e]; rfl⟩
   simp only [e47]
   by_cases h1 : x = 47
   ·simp only [h1, ↓reduceIte]; exact Ev.now _
   ·by_cases h2 : y = 47
    ·simp only [h1, h2, ↓reduceIte]; exact Ev.now _
    ·simp only [h1, h2, ↓reduceIte]
     rw [w64_ (by omega) (by omega)]
     exact Ev.now _
theorem order_ev (a b : ByteArray) (ha : a.size ≤ 140737488351232) (hb : b.size ≤ 140737488351232) : Ev (fun k => tree_Order.f k a b) (ordV a.data.toList b.data.toList) := by
 unfold tree_Order.f
 have hm : mn (a.size : Int) (b.size : Int) = ((min a.size b.size : Nat) : Int) := by
  unfold mn
  split <;> omega
 rw [hm]
 have h := order_l0 a b ha hb (min a.size b.size) rfl (min a.size b.size) 0 (by omega) (by omega) rfl
 simpa using h
end Go.Proofs.YtafjlibcdlihcaaDoor.G
end
section
namespace Go.Proofs.YtafjlibcdlihcaaDoor.G
open Go.RowKit Go.Proofs.YtafjlibcdlihcaaDoorW.PrintWords Go.Proofs.YtafjlibcdlihcaaDoorW.PrintLast Go.Proofs.YtafjlibcdlihcaaDoorW.PrintMore
attribute [local go_sem] max2_int min2_int max_two min_two max_three min_three max_four min_four   -- for this text's walks alone
set_option linter.unusedVariables false
set_option linter.unusedSimpArgs false
def tree_Within.f (a0 : ByteArray) (a1 : ByteArray) : Option (Bool) := if (a0.size : Int) > (a1.size : Int) then (if 0 ≤ (a1.size : Int) then (if (a1.size : Int) ≤ (a0.size : Int) then (if (a0.extract 0 a1.size).toList = a1.toList then (if (a1.size : Int) < (a0.size : Int) then (some ((bt a0 (a1.size : Int)) == 47)) else (none)) else (some false)) else (none)) else (none)) else (some false)
set_option maxHeartbeats 8000000 in
set_option maxRecDepth 100000 in
theorem tree_Within.calls (a0 : ByteArray) (a1 : ByteArray) (r : Bool) (w : World) (h : tree_Within.f a0 a1 = some r) :
  Calls Tryd.prog 86 #[.string a0, .string a1] w fun e w' => e = .returned (.bool r) ∧ Drawn0 w w' := by
 have H : (if (a0.size : Int) > (a1.size : Int) then (if 0 ≤ (a1.size : Int) then (if (a1.size : Int) ≤ (a0.size : Int) then (if (a0.extract 0 a1.size).toList = a1.toList then (if (a1.size : Int) < (a0.size : Int) then (some ((bt a0 (a1.size : Int)) == 47)) else (none)) else (some false)) else (none)) else (none)) else (some false)) = some r := h
 clear h
 by_cases c3 : (a0.size : Int) > (a1.size : Int)
 ·rw [if_pos c3] at H
  have c3b0 : decide ((a1.size : Int) < (a0.size : Int)) = true := decide_eq_true c3
  have c3b1 : decide (a1.size < a0.size) = true := decide_eq_true (Int.ofNat_lt.mp c3)
  clear c3
  by_cases c4 : 0 ≤ (a1.size : Int)
  ·rw [if_pos c4] at H
   have c4b0 := eq_true c4
   have c4b1 : decide (0 ≤ (a1.size : Int)) = true := decide_eq_true c4
   clear c4
   by_cases c5 : (a1.size : Int) ≤ (a0.size : Int)
   ·rw [if_pos c5] at H
    have c5b0 := eq_true c5
    have c5b1 : decide ((a1.size : Int) ≤ (a0.size : Int)) = true := decide_eq_true c5
    clear c5
    by_cases c6 : (a0.extract 0 a1.size).toList = a1.toList
    ·rw [if_pos c6] at H
     have c6b0 : ((a0.extract 0 a1.size).toList == a1.toList) = true := beq_iff_eq.mpr c6
     have c6b1 : ((a0.extract 0 a1.size).toList != a1.toList) = false := bne_eq_false_iff_eq.mpr c6
     clear c6
     by_cases c7 : (a1.size : Int) < (a0.size : Int)
     ·rw [if_pos c7] at H
      have c7b0 : decide ((a1.size : Int) < (a0.size : Int)) = true := decide_eq_true c7
      have c7b1 : decide (a1.size < a0.size) = true := decide_eq_true (Int.ofNat_lt.mp c7)
      clear c7
      obtain rfl := Option.some.inj H
      have p8 : 0 ≤ ((a1.size : Int) : Int) := of_decide_eq_true (by first | (with_reducible assumption) | assumption)
      have q8 : (a1.size : Int) < (a0.size : Int) := of_decide_eq_true (by first | (with_reducible assumption) | assumption)
      have hx8 := bt_at a0 (a1.size : Int)
      have hx8n : ∀ h : a1.size < a0.size, ((a0[a1.size]'h).toNat : Int) = bt a0 (a1.size : Int) := fun h => by simp [bt, h]
      replace p8 := eq_true p8
      replace q8 := eq_true q8
      go_enter Tryd.func86, Tryd.ntmps86
      go_wp2
      go_ret
      exact ⟨by first | rfl | (simp; done) | (simp [*]; done), by repeat (first | exact Drawn0.refl _ | apply Drawn0.step)⟩
     ·rw [if_neg c7] at H
      exact absurd H (by simp)
    ·rw [if_neg c6] at H
     have c6b0 : ((a0.extract 0 a1.size).toList == a1.toList) = false := beq_eq_false_iff_ne.mpr c6
     have c6b1 : ((a0.extract 0 a1.size).toList != a1.toList) = true := bne_iff_ne.mpr c6
     obtain rfl := Option.some.inj H
     go_enter Tryd.func86, Tryd.ntmps86
     go_wp2
     go_ret
     exact ⟨by first | rfl | (simp; done) | (simp [*]; done), by repeat (first | exact Drawn0.refl _ | apply Drawn0.step)⟩
   ·rw [if_neg c5] at H
    exact absurd H (by simp)
  ·rw [if_neg c4] at H
   exact absurd H (by simp)
 ·rw [if_neg c3] at H
  have c3b0 : decide ((a1.size : Int) < (a0.size : Int)) = false := decide_eq_false c3
  have c3b1 : decide (a1.size < a0.size) = false := decide_eq_false (fun h => c3 (Int.ofNat_lt.mpr h))
  clear c3
  obtain rfl := Option.some.inj H
  go_enter Tryd.func86, Tryd.ntmps86
  go_wp2
  go_ret
  exact ⟨by first | rfl | (simp; done) | (simp [*]; done), by repeat (first | exact Drawn0.refl _ | apply Drawn0.step)⟩
end Go.Proofs.YtafjlibcdlihcaaDoor.G
end
section
namespace Go.Proofs.YtafjlibcdlihcaaDoor.G
open Go.RowKit Go.Proofs.YtafjlibcdlihcaaDoorW.PrintWords Go.Proofs.YtafjlibcdlihcaaDoorW.PrintLast Go.Proofs.YtafjlibcdlihcaaDoorW.PrintMore
attribute [local go_sem] max2_int min2_int max_two min_two max_three min_three max_four min_four   -- for this text's walks alone
set_option linter.unusedVariables false
set_option linter.unusedSimpArgs false
mutual
def barqueref09_Order.l0 : Nat → ByteArray → ByteArray → Int → Option (Int)
 | 0, _, _, _ => none
 | k + 1, x0, x1, x5 => if x5 < (x0.size : Int) then (barqueref09_Order.j1 k x0 x1 x5 true) else (barqueref09_Order.j1 k x0 x1 x5 (decide (x5 < (x1.size : Int))))
def barqueref09_Order.j1 : Nat → ByteArray → ByteArray → Int → Bool → Option (Int)
 | 0, _, _, _, _ => none
 | k + 1, x0, x1, x5, x17 => if x17 = true then (if x5 < (x0.size : Int) then (if 0 ≤ x5 then (if (bt x0 x5) = 47 then (barqueref09_Order.j2 k x0 x1 x5 0 (-1)) else (barqueref09_Order.j2 k x0 x1 x5 (wrap64 ((wrap64 (bt x0 x5)) + 1)) (-1))) else (none)) else (barqueref09_Order.j2 k x0 x1 x5 (-1) (-1))) else (some 0)
def barqueref09_Order.j2 : Nat → ByteArray → ByteArray → Int → Int → Int → Option (Int)
 | 0, _, _, _, _, _ => none
 | k + 1, x0, x1, x5, x6, x7 => if x5 < (x1.size : Int) then (if 0 ≤ x5 then (if (bt x1 x5) = 47 then (barqueref09_Order.j3 k x0 x1 x5 x6 0) else (barqueref09_Order.j3 k x0 x1 x5 x6 (wrap64 ((wrap64 (bt x1 x5)) + 1)))) else (none)) else (barqueref09_Order.j3 k x0 x1 x5 x6 x7)
def barqueref09_Order.j3 : Nat → ByteArray → ByteArray → Int → Int → Int → Option (Int)
 | 0, _, _, _, _, _ => none
 | k + 1, x0, x1, x5, x6, x7 => if x6 < x7 then (some (-1)) else (if x6 > x7 then (some 1) else (barqueref09_Order.l0 k x0 x1 (wrap64 (x5 + 1))))
end
def barqueref09_Order.f (k : Nat) (a0 : ByteArray) (a1 : ByteArray) : Option (Int) := barqueref09_Order.l0 k a0 a1 0
theorem barqueref09_Order.mono_l : ∀ k, (∀ y0 y1 y2, LeO (barqueref09_Order.l0 k y0 y1 y2) (barqueref09_Order.l0 (k + 1) y0 y1 y2)) ∧ (∀ y0 y1 y2 y3, LeO (barqueref09_Order.j1 k y0 y1 y2 y3) (barqueref09_Order.j1 (k + 1) y0 y1 y2 y3)) ∧ (∀ y0 y1 y2 y3 y4, LeO (barqueref09_Order.j2 k y0 y1 y2 y3 y4) (barqueref09_Order.j2 (k + 1) y0 y1 y2 y3 y4)) ∧ (∀ y0 y1 y2 y3 y4, LeO (barqueref09_Order.j3 k y0 y1 y2 y3 y4) (barqueref09_Order.j3 (k + 1) y0 y1 y2 y3 y4))
 | 0 => ⟨fun _ _ _ r h => by simp [barqueref09_Order.l0] at h, fun _ _ _ _ r h => by simp [barqueref09_Order.j1] at h, fun _ _ _ _ _ r h => by simp [barqueref09_Order.j2] at h, fun _ _ _ _ _ r h => by simp [barqueref09_Order.j3] at h⟩
 | k + 1 => by
  obtain ⟨ih0, ih1, ih2, ih3⟩ := barqueref09_Order.mono_l k
  refine ⟨?_, ?_, ?_, ?_⟩
  ·intro y0 y1 y2
   unfold barqueref09_Order.l0
   repeat' first
   | (with_reducible exact ih0 _ _ _)
   | (with_reducible exact ih1 _ _ _ _)
   | (with_reducible exact ih2 _ _ _ _ _)
   | (with_reducible exact ih3 _ _ _ _ _)
   | (with_reducible exact LeO.refl _)
   | (with_reducible exact LeO.none _)
   | (with_reducible refine LeO.ite ?_ ?_)
   | (with_reducible refine LeO.bind ?_ (fun _ => ?_))
   | exact ih0 _ _ _
   | exact ih1 _ _ _ _
   | exact ih2 _ _ _ _ _
   | exact ih3 _ _ _ _ _
   | exact LeO.none _
   | refine LeO.ite ?_ ?_
   | refine LeO.bind ?_ (fun _ => ?_)
  ·intro y0 y1 y2 y3
   unfold barqueref09_Order.j1
   repeat' first
   | (with_reducible exact ih0 _ _ _)
   | (with_reducible exact ih1 _ _ _ _)
   | (with_reducible exact ih2 _ _ _ _ _)
   | (with_reducible exact ih3 _ _ _ _ _)
   | (with_reducible exact LeO.refl _)
   | (with_reducible exact LeO.none _)
   | (with_reducible refine LeO.ite ?_ ?_)
   | (with_reducible refine LeO.bind ?_ (fun _ => ?_))
   | exact ih0 _ _ _
   | exact ih1 _ _ _ _
   | exact ih2 _ _ _ _ _
   | exact ih3 _ _ _ _ _
   | exact LeO.none _
   | refine LeO.ite ?_ ?_
   | refine LeO.bind ?_ (fun _ => ?_)
  ·intro y0 y1 y2 y3 y4
   unfold barqueref09_Order.j2
   repeat' first
   | (with_reducible exact ih0 _ _ _)
   | (with_reducible exact ih1 _ _ _ _)
   | (with_reducible exact ih2 _ _ _ _ _)
   | (with_reducible exact ih3 _ _ _ _ _)
   | (with_reducible exact LeO.refl _)
   | (with_reducible exact LeO.none _)
   | (with_reducible refine LeO.ite ?_ ?_)
   | (with_reducible refine LeO.bind ?_ (fun _ => ?_))
   | exact ih0 _ _ _
   | exact ih1 _ _ _ _
   | exact ih2 _ _ _ _ _
   | exact ih3 _ _ _ _ _
   | exact LeO.none _
   | refine LeO.ite ?_ ?_
   | refine LeO.bind ?_ (fun _ => ?_)
  ·intro y0 y1 y2 y3 y4
   unfold barqueref09_Order.j3
   repeat' first
   | (with_reducible exact ih0 _ _ _)
   | (with_reducible exact ih1 _ _ _ _)
   | (with_reducible exact ih2 _ _ _ _ _)
   | (with_reducible exact ih3 _ _ _ _ _)
   | (with_reducible exact LeO.refl _)
   | (with_reducible exact LeO.none _)
   | (with_reducible refine LeO.ite ?_ ?_)
   | (with_reducible refine LeO.bind ?_ (fun _ => ?_))
   | exact ih0 _ _ _
   | exact ih1 _ _ _ _
   | exact ih2 _ _ _ _ _
   | exact ih3 _ _ _ _ _
   | exact LeO.none _
   | refine LeO.ite ?_ ?_
   | refine LeO.bind ?_ (fun _ => ?_)
theorem barqueref09_Order.mono : ∀ a0 a1 k, LeO (barqueref09_Order.f k a0 a1) (barqueref09_Order.f (k + 1) a0 a1) := by
 intro a0 a1 k
 obtain ⟨ih0, ih1, ih2, ih3⟩ := barqueref09_Order.mono_l k
 unfold barqueref09_Order.f
 repeat' first
   | (with_reducible exact ih0 _ _ _)
   | (with_reducible exact ih1 _ _ _ _)
   | (with_reducible exact ih2 _ _ _ _ _)
   | (with_reducible exact ih3 _ _ _ _ _)
   | (with_reducible exact LeO.refl _)
   | (with_reducible exact LeO.none _)
   | (with_reducible refine LeO.ite ?_ ?_)
   | (with_reducible refine LeO.bind ?_ (fun _ => ?_))
   | exact ih0 _ _ _
   | exact ih1 _ _ _ _
   | exact ih2 _ _ _ _ _
   | exact ih3 _ _ _ _ _
   | exact LeO.none _
   | refine LeO.ite ?_ ?_
   | refine LeO.bind ?_ (fun _ => ?_)
set_option maxHeartbeats 8000000 in
set_option maxRecDepth 100000 in
theorem barqueref09_Order.calls (k : Nat) (a0 : ByteArray) (a1 : ByteArray) (r : Int) (w : World) (h : barqueref09_Order.f k a0 a1 = some r) :
  Calls Tryd.prog 84 #[.string a0, .string a1] w fun e w' => e = .returned (.int .i64 r) ∧ Drawn0 w w' := by
 have H : (barqueref09_Order.l0 k a0 a1 0) = some r := h
 clear h
 have H' := Aside0.mk H
 clear H
 go_enter Tryd.func84, Tryd.ntmps84
 go_wp2
 go_loopg [5] k (fun kq v5 w' => ∃ (x5_1 : Int), v5 = .int .i64 x5_1 ∧ Aside0 (barqueref09_Order.l0 kq a0 a1 x5_1 = some r) ∧ Aside0 (kq ≤ k) ∧ Drawn0 w w')
 case atStart => exact ⟨(0), (by first | rfl | (simp; done) | (simp [*]; done)), H', ⟨Nat.le_refl _⟩, by repeat (first | exact Drawn0.refl _ | apply Drawn0.step)⟩
 case round =>
  clear H'
  try clear p2
  obtain ⟨x5_1, rfl, HA, HK1, ⟨m1, rfl⟩⟩ := hrel
  cases gk with
  | zero => exact absurd HA.out (by simp [barqueref09_Order.l0])
  | succ k1 =>
   have H := HA.out
   clear HA
   simp only [barqueref09_Order.l0] at H
   have HC3 := Aside0.mk H
   clear H
   go_upto_region 2 with (fail)
   go_cut [17] (fun v17 wc => ∃ (kq : Nat) (x17_2 : Bool), v17 = .bool x17_2 ∧ Aside0 (barqueref09_Order.j1 kq a0 a1 x5_1 x17_2 = some r) ∧ Aside0 (kq ≤ k1) ∧ Drawn0 w wc)
   case first =>
    have H := HC3.out
    clear HC3
    by_cases c4 : x5_1 < (a0.size : Int)
    ·rw [if_pos c4] at H
     have c4b0 : decide (x5_1 < (a0.size : Int)) = true := decide_eq_true c4
     clear c4
     (first | rw [c4b0] | (simp only [i64_w, i32_w]; rw [c4b0]) | skip)
     have H' := Aside0.mk H
     clear H
     go_wp2
     go_meet
     case rel => exact ⟨_, (true), (by first | rfl | (simp; done) | (simp [*]; done)), H', ⟨by have := HK1.out; first | omega | exact Nat.le_refl _⟩, by repeat (first | exact Drawn0.refl _ | apply Drawn0.step)⟩
    ·rw [if_neg c4] at H
     have c4b0 : decide (x5_1 < (a0.size : Int)) = false := decide_eq_false c4
     clear c4
     (first | rw [c4b0] | (simp only [i64_w, i32_w]; rw [c4b0]) | skip)
     have H' := Aside0.mk H
     clear H
     go_wp2
     go_meet
     case rel => exact ⟨_, (decide (x5_1 < (a1.size : Int))), (by first | rfl | (simp; done) | (simp [*]; done)), H', ⟨by have := HK1.out; first | omega | exact Nat.le_refl _⟩, by repeat (first | exact Drawn0.refl _ | apply Drawn0.step)⟩
   case rest =>
    clear HC3
    try clear p2
    try clear c4
    try clear c4b0
    try clear p2
    obtain ⟨kq, x17_2, rfl, HA, HJ2, ⟨mc2, rfl⟩⟩ := hcut
    cases kq with
    | zero => exact absurd HA.out (by simp [barqueref09_Order.j1])
    | succ kj2 =>
     have H := HA.out
     clear HA
     simp only [barqueref09_Order.j1] at H
     by_cases c5 : x17_2 = true
     ·subst c5
      have H1 : (if x5_1 < (a0.size : Int) then (if 0 ≤ x5_1 then (if (bt a0 x5_1) = 47 then (barqueref09_Order.j2 kj2 a0 a1 x5_1 0 (-1)) else (barqueref09_Order.j2 kj2 a0 a1 x5_1 (wrap64 ((wrap64 (bt a0 x5_1)) + 1)) (-1))) else (none)) else (barqueref09_Order.j2 kj2 a0 a1 x5_1 (-1) (-1))) = some r := by rw [if_pos rfl] at H; exact H
      clear H
      have H := H1
      clear H1
      have HC6 := Aside0.mk H
      clear H
      go_upto_if 23 with (fail)
      go_cut [6] (fun v6 wc => ∃ (kq : Nat) (x6_5 : Int), v6 = .int .i64 x6_5 ∧ Aside0 (barqueref09_Order.j2 kq a0 a1 x5_1 x6_5 (-1) = some r) ∧ Aside0 (kq ≤ kj2) ∧ Drawn0 w wc)
      case first =>
       have H := HC6.out
       clear HC6
       by_cases c7 : x5_1 < (a0.size : Int)
       ·rw [if_pos c7] at H
        have c7b0 : decide (x5_1 < (a0.size : Int)) = true := decide_eq_true c7
        clear c7
        (first | rw [c7b0] | (simp only [i64_w, i32_w]; rw [c7b0]) | skip)
        by_cases c8 : 0 ≤ x5_1
        ·rw [if_pos c8] at H
         have c8b0 : decide (0 ≤ x5_1) = true := decide_eq_true c8
         clear c8
         by_cases c11 : (bt a0 x5_1) = 47
         ·rw [if_pos c11] at H
          have c11b0 : ((bt a0 x5_1) == 47) = true := beq_iff_eq.mpr c11
          have c11b1 : ((bt a0 x5_1) != 47) = false := bne_eq_false_iff_eq.mpr c11
          clear c11
          have H' := Aside0.mk H
          clear H
          have p9 : 0 ≤ (x5_1 : Int) := of_decide_eq_true (by first | (with_reducible assumption) | assumption)
          have q9 : x5_1 < (a0.size : Int) := of_decide_eq_true (by first | (with_reducible assumption) | assumption)
          have hx9 := bt_at a0 x5_1
          replace p9 := eq_true p9
          replace q9 := eq_true q9
          have p10 : 0 ≤ (x5_1 : Int) := of_decide_eq_true (by first | (with_reducible assumption) | assumption)
          have q10 : x5_1 < (a0.size : Int) := of_decide_eq_true (by first | (with_reducible assumption) | assumption)
          have hx10 := bt_at a0 x5_1
          replace p10 := eq_true p10
          replace q10 := eq_true q10
          go_wp2
          go_meet
          case rel => exact ⟨_, (0), (by first | rfl | (simp; done) | (simp [*]; done)), H', ⟨by have := HK1.out; have := HJ2.out; first | omega | exact Nat.le_refl _⟩, by repeat (first | exact Drawn0.refl _ | apply Drawn0.step)⟩
         ·rw [if_neg c11] at H
          have c11b0 : ((bt a0 x5_1) == 47) = false := beq_eq_false_iff_ne.mpr c11
          have c11b1 : ((bt a0 x5_1) != 47) = true := bne_iff_ne.mpr c11
          have H' := Aside0.mk H
          clear H
          have p9 : 0 ≤ (x5_1 : Int) := of_decide_eq_true (by first | (with_reducible assumption) | assumption)
          have q9 : x5_1 < (a0.size : Int) := of_decide_eq_true (by first | (with_reducible assumption) | assumption)
          have hx9 := bt_at a0 x5_1
          replace p9 := eq_true p9
          replace q9 := eq_true q9
          have p10 : 0 ≤ (x5_1 : Int) := of_decide_eq_true (by first | (with_reducible assumption) | assumption)
          have q10 : x5_1 < (a0.size : Int) := of_decide_eq_true (by first | (with_reducible assumption) | assumption)
          have hx10 := bt_at a0 x5_1
          replace p10 := eq_true p10
          replace q10 := eq_true q10
          go_wp2
          go_meet
          case rel => exact ⟨_, (wrap64 ((wrap64 (bt a0 x5_1)) + 1)), (by first | rfl | (simp; done) | (simp [*]; done)), H', ⟨by have := HK1.out; have := HJ2.out; first | omega | exact Nat.le_refl _⟩, by repeat (first | exact Drawn0.refl _ | apply Drawn0.step)⟩
        ·rw [if_neg c8] at H
         exact absurd H (by simp)
       ·rw [if_neg c7] at H
        have c7b0 : decide (x5_1 < (a0.size : Int)) = false := decide_eq_false c7
        clear c7
        (first | rw [c7b0] | (simp only [i64_w, i32_w]; rw [c7b0]) | skip)
        have H' := Aside0.mk H
        clear H
        go_wp2
        go_meet
        case rel => exact ⟨_, ((-1)), (by first | rfl | (simp; done) | (simp [*]; done)), H', ⟨by have := HK1.out; have := HJ2.out; first | omega | exact Nat.le_refl _⟩, by repeat (first | exact Drawn0.refl _ | apply Drawn0.step)⟩
      case rest =>
       clear HC6
       try clear c1
       try clear p1
       try clear q1
       try clear hx1
       try clear c2
       try clear p2
       try clear c4
       try clear c4b0
       try clear c5
       try clear p6
       try clear c7
       try clear c7b0
       try clear c8
       try clear c8b0
       try clear p9
       try clear q9
       try clear hx9
       try clear p10
       try clear q10
       try clear hx10
       try clear c11
       try clear c11b0
       try clear c11b1
       try clear p10
       try clear p2
       try clear p9
       try clear q10
       try clear q9
       obtain ⟨kq, x6_5, rfl, HA, HJ5, ⟨mc5, rfl⟩⟩ := hcut
       cases kq with
       | zero => exact absurd HA.out (by simp [barqueref09_Order.j2])
       | succ kj5 =>
        have H := HA.out
        clear HA
        simp only [barqueref09_Order.j2] at H
        have HC12 := Aside0.mk H
        clear H
        go_upto_if 36 with (fail)
        go_cut [7] (fun v7 wc => ∃ (kq : Nat) (x7_11 : Int), v7 = .int .i64 x7_11 ∧ Aside0 (barqueref09_Order.j3 kq a0 a1 x5_1 x6_5 x7_11 = some r) ∧ Aside0 (kq ≤ kj5) ∧ Drawn0 w wc)
        case first =>
         have H := HC12.out
         clear HC12
         by_cases c13 : x5_1 < (a1.size : Int)
         ·rw [if_pos c13] at H
          have c13b0 : decide (x5_1 < (a1.size : Int)) = true := decide_eq_true c13
          clear c13
          (first | rw [c13b0] | (simp only [i64_w, i32_w]; rw [c13b0]) | skip)
          by_cases c14 : 0 ≤ x5_1
          ·rw [if_pos c14] at H
           have c14b0 : decide (0 ≤ x5_1) = true := decide_eq_true c14
           clear c14
           by_cases c17 : (bt a1 x5_1) = 47
           ·rw [if_pos c17] at H
            have c17b0 : ((bt a1 x5_1) == 47) = true := beq_iff_eq.mpr c17
            have c17b1 : ((bt a1 x5_1) != 47) = false := bne_eq_false_iff_eq.mpr c17
            clear c17
            have H' := Aside0.mk H
            clear H
            have p15 : 0 ≤ (x5_1 : Int) := of_decide_eq_true (by first | (with_reducible assumption) | assumption)
            have q15 : x5_1 < (a1.size : Int) := of_decide_eq_true (by first | (with_reducible assumption) | assumption)
            have hx15 := bt_at a1 x5_1
            replace p15 := eq_true p15
            replace q15 := eq_true q15
            have p16 : 0 ≤ (x5_1 : Int) := of_decide_eq_true (by first | (with_reducible assumption) | assumption)
            have q16 : x5_1 < (a1.size : Int) := of_decide_eq_true (by first | (with_reducible assumption) | assumption)
            have hx16 := bt_at a1 x5_1
            replace p16 := eq_true p16
            replace q16 := eq_true q16
            go_wp2
            go_meet
            case rel => exact ⟨_, (0), (by first | rfl | (simp; done) | (simp [*]; done)), H', ⟨by have := HK1.out; have := HJ2.out; have := HJ5.out; first | omega | exact Nat.le_refl _⟩, by repeat (first | exact Drawn0.refl _ | apply Drawn0.step)⟩
           ·rw [if_neg c17] at H
            have c17b0 : ((bt a1 x5_1) == 47) = false := beq_eq_false_iff_ne.mpr c17
            have c17b1 : ((bt a1 x5_1) != 47) = true := bne_iff_ne.mpr c17
            have H' := Aside0.mk H
            clear H
            have p15 : 0 ≤ (x5_1 : Int) := of_decide_eq_true (by first | (with_reducible assumption) | assumption)
            have q15 : x5_1 < (a1.size : Int) := of_decide_eq_true (by first | (with_reducible assumption) | assumption)
            have hx15 := bt_at a1 x5_1
            replace p15 := eq_true p15
            replace q15 := eq_true q15
            have p16 : 0 ≤ (x5_1 : Int) := of_decide_eq_true (by first | (with_reducible assumption) | assumption)
            have q16 : x5_1 < (a1.size : Int) := of_decide_eq_true (by first | (with_reducible assumption) | assumption)
            have hx16 := bt_at a1 x5_1
            replace p16 := eq_true p16
            replace q16 := eq_true q16
            go_wp2
            go_meet
            case rel => exact ⟨_, (wrap64 ((wrap64 (bt a1 x5_1)) + 1)), (by first | rfl | (simp; done) | (simp [*]; done)), H', ⟨by have := HK1.out; have := HJ2.out; have := HJ5.out; first | omega | exact Nat.le_refl _⟩, by repeat (first | exact Drawn0.refl _ | apply Drawn0.step)⟩
          ·rw [if_neg c14] at H
           exact absurd H (by simp)
         ·rw [if_neg c13] at H
          have c13b0 : decide (x5_1 < (a1.size : Int)) = false := decide_eq_false c13
          clear c13
          (first | rw [c13b0] | (simp only [i64_w, i32_w]; rw [c13b0]) | skip)
          have H' := Aside0.mk H
          clear H
          go_wp2
          go_meet
          case rel => exact ⟨_, ((-1)), (by first | rfl | (simp; done) | (simp [*]; done)), H', ⟨by have := HK1.out; have := HJ2.out; have := HJ5.out; first | omega | exact Nat.le_refl _⟩, by repeat (first | exact Drawn0.refl _ | apply Drawn0.step)⟩
        case rest =>
         clear HC12
         try clear c1
         try clear p1
         try clear q1
         try clear hx1
         try clear c2
         try clear p2
         try clear c4
         try clear c4b0
         try clear c5
         try clear p6
         try clear c7
         try clear c7b0
         try clear c8
         try clear c8b0
         try clear p9
         try clear q9
         try clear hx9
         try clear p10
         try clear q10
         try clear hx10
         try clear c11
         try clear c11b0
         try clear c11b1
         try clear c13
         try clear c13b0
         try clear c14
         try clear c14b0
         try clear p15
         try clear q15
         try clear hx15
         try clear p16
         try clear q16
         try clear hx16
         try clear c17
         try clear c17b0
         try clear c17b1
         try clear p1
         try clear p10
         try clear p15
         try clear p16
         try clear p2
         try clear p6
         try clear p9
         try clear q1
         try clear q10
         try clear q15
         try clear q16
         try clear q9
         obtain ⟨kq, x7_11, rfl, HA, HJ11, ⟨mc11, rfl⟩⟩ := hcut
         cases kq with
         | zero => exact absurd HA.out (by simp [barqueref09_Order.j3])
         | succ kj11 =>
          have H := HA.out
          clear HA
          simp only [barqueref09_Order.j3] at H
          by_cases c18 : x6_5 < x7_11
          ·rw [if_pos c18] at H
           have c18b0 : decide (x6_5 < x7_11) = true := decide_eq_true c18
           clear c18
           obtain rfl := Option.some.inj H
           go_wp2
           go_ret
           exact ⟨by first | rfl | (simp; done) | (simp [*]; done), by repeat (first | exact Drawn0.refl _ | apply Drawn0.step)⟩
          ·rw [if_neg c18] at H
           have c18b0 : decide (x6_5 < x7_11) = false := decide_eq_false c18
           clear c18
           by_cases c19 : x6_5 > x7_11
           ·rw [if_pos c19] at H
            have c19b0 : decide (x7_11 < x6_5) = true := decide_eq_true c19
            clear c19
            obtain rfl := Option.some.inj H
            go_wp2
            go_ret
            exact ⟨by first | rfl | (simp; done) | (simp [*]; done), by repeat (first | exact Drawn0.refl _ | apply Drawn0.step)⟩
           ·rw [if_neg c19] at H
            have c19b0 : decide (x7_11 < x6_5) = false := decide_eq_false c19
            clear c19
            have H' := Aside0.mk H
            clear H
            go_wp2
            go_roundg kj11
            case measure => have := HK1.out; have := HJ2.out; have := HJ5.out; have := HJ11.out; omega
            case rel => exact ⟨(wrap64 (x5_1 + 1)), (by first | rfl | (simp; done) | (simp [*]; done)), H', ⟨by have := HK1.out; have := HJ2.out; have := HJ5.out; have := HJ11.out; omega⟩, by repeat (first | exact Drawn0.refl _ | apply Drawn0.step)⟩
     ·replace c5 := Bool.eq_false_iff.mpr c5
      subst c5
      have H1 : (some 0) = some r := by rw [if_neg (show ¬ (false = true) by decide)] at H; exact H
      clear H
      have H := H1
      clear H1
      obtain rfl := Option.some.inj H
      go_wp2
      go_ret
      exact ⟨by first | rfl | (simp; done) | (simp [*]; done), by repeat (first | exact Drawn0.refl _ | apply Drawn0.step)⟩
end Go.Proofs.YtafjlibcdlihcaaDoor.G
end
section
namespace Go.Proofs.YtafjlibcdlihcaaDoor.G
open Go.RowKit Go.Proofs.YtafjlibcdlihcaaDoorW.PrintWords Go.Proofs.YtafjlibcdlihcaaDoorW.PrintLast Go.Proofs.YtafjlibcdlihcaaDoorW.PrintMore
attribute [local go_sem] max2_int min2_int max_two min_two max_three min_three max_four min_four   -- for this text's walks alone
set_option linter.unusedVariables false
set_option linter.unusedSimpArgs false
def barqueref09_Within.f (a0 : ByteArray) (a1 : ByteArray) : Option (Bool) := if (a0.size : Int) > (a1.size : Int) then (if 0 ≤ (wrap64 ((a1.size : Int) + 1)) then (if (wrap64 ((a1.size : Int) + 1)) ≤ (a0.size : Int) then (if a1.size + 1 ≤ 9223372036854775807 then (some ((a0.extract 0 ((wrap64 ((a1.size : Int) + 1)) : Int).toNat).toList == (a1 ++ (⟨#[47]⟩ : ByteArray)).toList)) else (none)) else (none)) else (none)) else (some false)
set_option maxHeartbeats 8000000 in
set_option maxRecDepth 100000 in
theorem barqueref09_Within.calls (a0 : ByteArray) (a1 : ByteArray) (r : Bool) (w : World) (h : barqueref09_Within.f a0 a1 = some r) :
  Calls Tryd.prog 87 #[.string a0, .string a1] w fun e w' => e = .returned (.bool r) ∧ Drawn0 w w' := by
 have H : (if (a0.size : Int) > (a1.size : Int) then (if 0 ≤ (wrap64 ((a1.size : Int) + 1)) then (if (wrap64 ((a1.size : Int) + 1)) ≤ (a0.size : Int) then (if a1.size + 1 ≤ 9223372036854775807 then (some ((a0.extract 0 ((wrap64 ((a1.size : Int) + 1)) : Int).toNat).toList == (a1 ++ (⟨#[47]⟩ : ByteArray)).toList)) else (none)) else (none)) else (none)) else (some false)) = some r := h
 clear h
 by_cases c3 : (a0.size : Int) > (a1.size : Int)
 ·rw [if_pos c3] at H
  have c3b0 : decide ((a1.size : Int) < (a0.size : Int)) = true := decide_eq_true c3
  have c3b1 : decide (a1.size < a0.size) = true := decide_eq_true (Int.ofNat_lt.mp c3)
  clear c3
  obtain ⟨ji4, hji4⟩ : ∃ j_ : Int, (wrap64 ((a1.size : Int) + 1)) = j_ := ⟨_, rfl⟩
  replace H : (if 0 ≤ (ji4) then (if (ji4) ≤ (a0.size : Int) then (if a1.size + 1 ≤ 9223372036854775807 then (some ((a0.extract 0 ((ji4) : Int).toNat).toList == (a1 ++ (⟨#[47]⟩ : ByteArray)).toList)) else (none)) else (none)) else (none)) = some r := by first | (rw [hji4] at H; exact H) | (simp only [hji4] at H ⊢; exact H)
  have hji4w : (IntKind.i64.wrap ((a1.size : Int) + 1)) = ji4 := (i64_w _).trans hji4
  by_cases c5 : 0 ≤ (ji4)
  ·rw [if_pos c5] at H
   have c5b0 := eq_true c5
   have c5b1 : decide (0 ≤ (ji4)) = true := decide_eq_true c5
   clear c5
   by_cases c6 : (ji4) ≤ (a0.size : Int)
   ·rw [if_pos c6] at H
    have c6b0 := eq_true c6
    have c6b1 : decide ((ji4) ≤ (a0.size : Int)) = true := decide_eq_true c6
    clear c6
    by_cases c7 : a1.size + 1 ≤ 9223372036854775807
    ·rw [if_pos c7] at H
     have c7b0 := eq_true c7
     have c7b1 : decide (a1.size + 1 ≤ 9223372036854775807) = true := decide_eq_true c7
     try have c7b2 : (9223372036854775807 < a1.size + 1) = False := eq_false (Nat.not_lt.2 c7)
     (try (have c7b3 := c7b2; simp only [ByteArray.size_append] at c7b3))
     obtain rfl := Option.some.inj H
     go_enter Tryd.func87, Tryd.ntmps87
     go_wp2
     go_ret
     exact ⟨by first | rfl | (simp; done) | (simp only [← hji4] <;> (first | rfl | simp)) | (simp [*]; done), by repeat (first | exact Drawn0.refl _ | apply Drawn0.step)⟩
    ·rw [if_neg c7] at H
     exact absurd H (by simp)
   ·rw [if_neg c6] at H
    exact absurd H (by simp)
  ·rw [if_neg c5] at H
   exact absurd H (by simp)
 ·rw [if_neg c3] at H
  have c3b0 : decide ((a1.size : Int) < (a0.size : Int)) = false := decide_eq_false c3
  have c3b1 : decide (a1.size < a0.size) = false := decide_eq_false (fun h => c3 (Int.ofNat_lt.mpr h))
  clear c3
  obtain rfl := Option.some.inj H
  go_enter Tryd.func87, Tryd.ntmps87
  go_wp2
  go_ret
  exact ⟨by first | rfl | (simp; done) | (simp [*]; done), by repeat (first | exact Drawn0.refl _ | apply Drawn0.step)⟩
end Go.Proofs.YtafjlibcdlihcaaDoor.G
end
section
namespace Go.Proofs.YtafjlibcdlihcaaDoor.G
open Go.RowKit Go.Proofs.YtafjlibcdlihcaaDoorW.PrintWords Go.Proofs.YtafjlibcdlihcaaDoorW.PrintLast Go.Proofs.YtafjlibcdlihcaaDoorW.PrintMore
set_option linter.unusedVariables false
set_option linter.unusedSimpArgs false
def keyI (s : ByteArray) (i : Nat) : Int := if h : i < s.size then (keyB (s.data.toList[i]'(by rw [sz_]; exact h)) : Int) else -1
theorem keyI_in (s : ByteArray) (i : Nat) (h : i < s.size) : keyI s i = (keyB (s.data.toList[i]'(by rw [sz_]; exact h)) : Int) := by unfold keyI; rw [dif_pos h]
theorem keyI_out (s : ByteArray) (i : Nat) (h : ¬ i < s.size) : keyI s i = -1 := by unfold keyI; rw [dif_neg h]
theorem e47_ (c : UInt8) : ((c.toNat : Int) = 47) ↔ c = 47 := ⟨fun e => UInt8.toNat_inj.1 (Int.ofNat.inj e), fun e => by rw [e]; rfl⟩
theorem keyB_num (c : UInt8) (h : ¬ c = 47) : wrap64 (wrap64 (c.toNat : Int) + 1) = (keyB c : Int) := by
 have := c.toNat_lt
 rw [w64_ (i := (c.toNat : Int)) (by omega) (by omega), w64_ (by omega) (by omega)]
 unfold keyB
 rw [if_neg h]
 omega
theorem reforder_j2 (a b : ByteArray) (i : Nat) (x r : Int) (h : Ev (fun k => barqueref09_Order.j3 k a b i x (keyI b i)) r) : Ev (fun k => barqueref09_Order.j2 k a b i x (-1)) r := by
 apply Ev.step
 ·intro k; rw [barqueref09_Order.j2]
 by_cases hb : i < b.size
 ·have c1 : ((i : Int) < (b.size : Int)) := by omega
  have c2 : (0 : Int) ≤ (i : Int) := by omega
  rw [keyI_in b i hb] at h
  simp only [c1, c2, ↓reduceIte, bt_nat b i hb, e47_]
  by_cases h47 : b.data.toList[i]'(by rw [sz_]; exact hb) = 47
  ·simp only [h47, ↓reduceIte]
   rw [h47] at h
   exact h
  ·simp only [h47, ↓reduceIte]
   rw [keyB_num _ h47]
   exact h
 ·have c1 : ¬ ((i : Int) < (b.size : Int)) := by omega
  rw [keyI_out b i hb] at h
  simp only [c1, ↓reduceIte]
  exact h
theorem reforder_j1 (a b : ByteArray) (i : Nat) (r : Int) (h : Ev (fun k => barqueref09_Order.j3 k a b i (keyI a i) (keyI b i)) r) : Ev (fun k => barqueref09_Order.j1 k a b i true) r := by
 apply Ev.step
 ·intro k; rw [barqueref09_Order.j1]
 simp only [↓reduceIte]
 by_cases ha : i < a.size
 ·have c1 : ((i : Int) < (a.size : Int)) := by omega
  have c2 : (0 : Int) ≤ (i : Int) := by omega
  rw [keyI_in a i ha] at h
  simp only [c1, c2, ↓reduceIte, bt_nat a i ha, e47_]
  by_cases h47 : a.data.toList[i]'(by rw [sz_]; exact ha) = 47
  ·simp only [h47, ↓reduceIte]
   rw [h47] at h
   exact reforder_j2 a b i _ r h
  ·simp only [h47, ↓reduceIte]
   rw [keyB_num _ h47]
   exact reforder_j2 a b i _ r h
 ·have c1 : ¬ ((i : Int) < (a.size : Int)) := by omega
  rw [keyI_out a i ha] at h
  simp only [c1, ↓reduceIte]
  exact reforder_j2 a b i _ r h
theorem reforder_l0 (a b : ByteArray) (ha : a.size ≤ 140737488351232) (hb : b.size ≤ 140737488351232) : ∀ (d i : Nat), max a.size b.size - i = d →
  i ≤ 140737488351232 → Ev (fun k => barqueref09_Order.l0 k a b i) (cmpL (a.data.toList.drop i) (b.data.toList.drop i)) := by
 intro d
 induction d with
 | zero =>
  intro i hd hi
  apply Ev.step
  ·intro k; rw [barqueref09_Order.l0]
  have c1 : ¬ ((i : Int) < (a.size : Int)) := by omega
  have c2 : decide ((i : Int) < (b.size : Int)) = false := by simp; omega
  simp only [c1, c2, ↓reduceIte]
  rw [show a.data.toList.drop i = [] from List.drop_eq_nil_of_le (by rw [sz_]; omega), show b.data.toList.drop i = [] from List.drop_eq_nil_of_le (by rw [sz_]; omega)]
  apply Ev.step
  ·intro k; rw [barqueref09_Order.j1]
  simp only [Bool.false_eq_true, ↓reduceIte]
  exact Ev.now _
 | succ d ih =>
  intro i hd hi
  have main : Ev (fun k => barqueref09_Order.j1 k a b i true) (cmpL (a.data.toList.drop i) (b.data.toList.drop i)) := by
   apply reforder_j1
   apply Ev.step
   ·intro k; rw [barqueref09_Order.j3]
   have hw : wrap64 ((i : Int) + 1) = ((i + 1 : Nat) : Int) := by rw [w64_ (by omega) (by omega)]; omega
   rw [hw]
   by_cases h1 : i < a.size <;> by_cases h2 : i < b.size
   ·have hla : i < a.data.toList.length := by rw [sz_]; exact h1
    have hlb : i < b.data.toList.length := by rw [sz_]; exact h2
    rw [keyI_in a i h1, keyI_in b i h2]
    have hih := ih (i + 1) (by omega) (by omega)
    rw [List.drop_eq_getElem_cons hla, List.drop_eq_getElem_cons hlb]
    obtain ⟨x, hx⟩ : ∃ x, a.data.toList[i]'hla = x := ⟨_, rfl⟩
    obtain ⟨y, hy⟩ : ∃ y, b.data.toList[i]'hlb = y := ⟨_, rfl⟩
    rw [hx, hy]
    unfold cmpL
    by_cases he : x = y
    ·subst he
     have c1 : ¬ ((keyB x : Int) < (keyB x : Int)) := by omega
     have c2 : ¬ ((keyB x : Int) > (keyB x : Int)) := by omega
     simp only [c1, c2, ↓reduceIte]
     exact hih
    ·have hk : keyB x ≠ keyB y := fun e => he (keyB_inj e)
     by_cases h3 : keyB x < keyB y
     ·have c1 : ((keyB x : Int) < (keyB y : Int)) := by omega
      simp only [c1, he, h3, ↓reduceIte]
      exact Ev.now _
     ·have c1 : ¬ ((keyB x : Int) < (keyB y : Int)) := by omega
      have c2 : ((keyB x : Int) > (keyB y : Int)) := by omega
      simp only [c1, c2, he, h3, ↓reduceIte]
      exact Ev.now _
   ·have hla : i < a.data.toList.length := by rw [sz_]; exact h1
    rw [keyI_in a i h1, keyI_out b i h2, List.drop_eq_getElem_cons hla, show b.data.toList.drop i = [] from List.drop_eq_nil_of_le (by rw [sz_]; omega), cmpL]
    have c1 : ¬ ((keyB (a.data.toList[i]'hla) : Int) < -1) := by omega
    have c2 : ((keyB (a.data.toList[i]'hla) : Int) > -1) := by omega
    simp only [c1, c2, ↓reduceIte]
    exact Ev.now _
   ·have hlb : i < b.data.toList.length := by rw [sz_]; exact h2
    rw [keyI_out a i h1, keyI_in b i h2, List.drop_eq_getElem_cons hlb, show a.data.toList.drop i = [] from List.drop_eq_nil_of_le (by rw [sz_]; omega), cmpL]
    have c1 : ((-1 : Int) < (keyB (b.data.toList[i]'hlb) : Int)) := by omega
    simp only [c1, ↓reduceIte]
    exact Ev.now _
   ·omega
  apply Ev.step
  ·intro k; rw [barqueref09_Order.l0]
  by_cases h1 : i < a.size
  ·have c1 : ((i : Int) < (a.size : Int)) := by omega
   simp only [c1, ↓reduceIte]
   exact main
  ·have c1 : ¬ ((i : Int) < (a.size : Int)) := by omega
   have c2 : decide ((i : Int) < (b.size : Int)) = true := by simp; omega
   simp only [c1, c2, ↓reduceIte]
   exact main
theorem reforder_ev (a b : ByteArray) (ha : a.size ≤ 140737488351232) (hb : b.size ≤ 140737488351232) : Ev (fun k => barqueref09_Order.f k a b) (cmpL a.data.toList b.data.toList) := by
 unfold barqueref09_Order.f
 have h := reforder_l0 a b ha hb _ 0 rfl (by omega)
 simpa using h
def withinB (s i : List UInt8) : Bool := decide (i.length < s.length) && (s.take (i.length + 1) == i ++ [47])
theorem within_f (a b : ByteArray) : tree_Within.f a b = some (withinB a.data.toList b.data.toList) := by
 unfold tree_Within.f withinB
 rw [sz_, sz_]
 by_cases h : b.size < a.size
 ·have c1 : (a.size : Int) > (b.size : Int) := by omega
  have c2 : (0 : Int) ≤ (b.size : Int) := by omega
  have c3 : (b.size : Int) ≤ (a.size : Int) := by omega
  have c4 : (b.size : Int) < (a.size : Int) := by omega
  have hl : b.size < a.data.toList.length := by rw [sz_]; exact h
  simp only [c1, c2, c3, c4, ↓reduceIte, bt_nat a b.size h, decide_eq_true h, Bool.true_and]
  rw [toList_data_, toList_data_, Go.Lib.extract_data, List.drop_zero, Nat.sub_zero, List.take_succ_eq_append_getElem hl]
  have hlen : (a.data.toList.take b.size).length = b.data.toList.length := by rw [List.length_take, sz_, sz_]; omega
  by_cases he : a.data.toList.take b.size = b.data.toList
  ·simp only [he, ↓reduceIte]
   congr 1
   rw [Bool.eq_iff_iff]
   simp only [beq_iff_eq, e47_, List.append_cancel_left_eq, List.cons.injEq, and_true]
  ·simp only [he, ↓reduceIte]
   congr 1
   symm
   rw [beq_eq_false_iff_ne]
   intro e
   exact he (List.append_inj e hlen).1
 ·have c1 : ¬ ((a.size : Int) > (b.size : Int)) := by omega
  simp only [c1, ↓reduceIte, decide_eq_false h, Bool.false_and]
theorem refwithin_f (a b : ByteArray) (hb : b.size ≤ 140737488351232) : barqueref09_Within.f a b = some (withinB a.data.toList b.data.toList) := by
 unfold barqueref09_Within.f withinB
 rw [sz_, sz_]
 by_cases h : b.size < a.size
 ·have c1 : (a.size : Int) > (b.size : Int) := by omega
  have hw : wrap64 ((b.size : Int) + 1) = ((b.size + 1 : Nat) : Int) := by rw [w64_ (by omega) (by omega)]; omega
  rw [hw]
  have c2 : (0 : Int) ≤ ((b.size + 1 : Nat) : Int) := by omega
  have c3 : ((b.size + 1 : Nat) : Int) ≤ (a.size : Int) := by omega
  have c4 : b.size + 1 ≤ 9223372036854775807 := by omega
  simp only [c1, c2, c3, c4, ↓reduceIte, decide_eq_true h, Bool.true_and, Int.toNat_natCast]
  rw [toList_data_, toList_data_, Go.Lib.extract_data, List.drop_zero, Nat.sub_zero]
  congr 2
 ·have c1 : ¬ ((a.size : Int) > (b.size : Int)) := by omega
  simp only [c1, ↓reduceIte, decide_eq_false h, Bool.false_and]
end Go.Proofs.YtafjlibcdlihcaaDoor.G
end
section
namespace Go.Proofs.YtafjlibcdlihcaaDoor.G
open Go.RowKit Go.Proofs.YtafjlibcdlihcaaDoorW.PrintWords Go.Proofs.YtafjlibcdlihcaaDoorW.PrintLast Go.Proofs.YtafjlibcdlihcaaDoorW.PrintMore
attribute [local go_sem] max2_int min2_int max_two min_two max_three min_three max_four min_four   -- for this text's walks alone
set_option linter.unusedVariables false
set_option linter.unusedSimpArgs false
def tree_paths.l0 : Nat → List ByteArray → List ByteArray → Int → Int → Option (Int)
 | 0, _, _, _, _ => none
 | k + 1, x0, x10, x11, x12 => if x12 < x11 then (if 0 ≤ x12 then (if x12 < (x10.length : Int) then ((tree_Path.f k (rdOf ByteArray.empty x10 x12)).bind fun t118 => (if t118 = 0 then (if x12 = 0 then (tree_paths.l0 k x0 x10 x11 (wrap64 (x12 + 1))) else (if 0 ≤ (wrap64 (x12 - 1)) then (if (wrap64 (x12 - 1)) < (x0.length : Int) then ((tree_Order.f k (rdOf ByteArray.empty x0 (wrap64 (x12 - 1))) (rdOf ByteArray.empty x10 x12)).bind fun t120 => (if t120 > 0 then (some 12) else (if t120 = 0 then (some 9) else ((tree_Within.f (rdOf ByteArray.empty x10 x12) (rdOf ByteArray.empty x0 (wrap64 (x12 - 1)))).bind fun t122 => (if t122 = true then (some 9) else (tree_paths.l0 k x0 x10 x11 (wrap64 (x12 + 1)))))))) else (none)) else (none))) else (some t118))) else (none)) else (none)) else (some 0)
def tree_paths.f (k : Nat) (l0 : List ByteArray) : Option (Int) := if (l0.length : Int) > 256 then (some 7) else (tree_paths.l0 k l0 l0 (l0.length : Int) 0)
theorem tree_paths.mono_l : ∀ k, (∀ y0 y1 y2 y3, LeO (tree_paths.l0 k y0 y1 y2 y3) (tree_paths.l0 (k + 1) y0 y1 y2 y3))
 | 0 => fun _ _ _ _ r h => by simp [tree_paths.l0] at h
 | k + 1 => by
  have ih0 := tree_paths.mono_l k
  ·intro y0 y1 y2 y3
   unfold tree_paths.l0
   repeat' first
   | (with_reducible exact ih0 _ _ _ _)
   | (with_reducible exact tree_Order.mono _ _ _)
   | (with_reducible exact tree_Path.mono _ _)
   | (with_reducible exact LeO.refl _)
   | (with_reducible exact LeO.none _)
   | (with_reducible refine LeO.ite ?_ ?_)
   | (with_reducible refine LeO.bind ?_ (fun _ => ?_))
   | exact ih0 _ _ _ _
   | exact tree_Order.mono _ _ _
   | exact tree_Path.mono _ _
   | exact LeO.none _
   | refine LeO.ite ?_ ?_
   | refine LeO.bind ?_ (fun _ => ?_)
theorem tree_paths.mono : ∀ a0 k, LeO (tree_paths.f k a0) (tree_paths.f (k + 1) a0) := by
 intro a0 k
 have ih0 := tree_paths.mono_l k
 unfold tree_paths.f
 repeat' first
   | (with_reducible exact ih0 _ _ _ _)
   | (with_reducible exact tree_Order.mono _ _ _)
   | (with_reducible exact tree_Path.mono _ _)
   | (with_reducible exact LeO.refl _)
   | (with_reducible exact LeO.none _)
   | (with_reducible refine LeO.ite ?_ ?_)
   | (with_reducible refine LeO.bind ?_ (fun _ => ?_))
   | exact ih0 _ _ _ _
   | exact tree_Order.mono _ _ _
   | exact tree_Path.mono _ _
   | exact LeO.none _
   | refine LeO.ite ?_ ?_
   | refine LeO.bind ?_ (fun _ => ?_)
set_option maxHeartbeats 8000000 in
set_option maxRecDepth 100000 in
theorem tree_paths.calls (k : Nat) (A0 : Option Addr) (c0 : Nat) (l0 : List ByteArray) (r : Int) (w : World) (hr0 : Kd.C Kd.string w A0 l0.length l0) (hc0 : l0.length ≤ c0) (h : tree_paths.f k l0 = some r) :
  Calls Tryd.prog 48 #[.slice A0 l0.length c0] w fun e w' => e = .returned (.int .i64 r) ∧ Below w.heap.size w w' := by
 have HR0 := Aside0.mk hr0
 have HC0 := Aside0.mk hc0
 clear hr0 hc0
 have HB := Aside0.mk (Below.refl w.heap.size w)
 have H : (if (l0.length : Int) > 256 then (some 7) else (tree_paths.l0 k l0 l0 (l0.length : Int) 0)) = some r := h
 clear h
 by_cases c2 : (l0.length : Int) > 256
 ·rw [if_pos c2] at H
  have c2b0 : decide (256 < (l0.length : Int)) = true := decide_eq_true c2
  have c2b1 : decide (256 < l0.length) = true := decide_eq_true (by omega)
  clear c2
  obtain rfl := Option.some.inj H
  go_enter Tryd.func48, Tryd.ntmps48
  go_wp2
  go_ret
  exact ⟨by first | rfl | (simp [errW_none, errW_some] <;> rfl) | (simp [*, errW_none, errW_some] <;> rfl), by repeat (first | (with_reducible first | exact HB.out | apply below_alloc | apply pw_below_drewN | apply below_drew1) | exact HB.out)⟩
 ·rw [if_neg c2] at H
  have c2b0 : decide (256 < (l0.length : Int)) = false := decide_eq_false c2
  have c2b1 : decide (256 < l0.length) = false := decide_eq_false (by omega)
  clear c2
  have H' := Aside0.mk H
  clear H
  go_enter Tryd.func48, Tryd.ntmps48
  go_wp2
  go_loopg [12] k (fun kq v12 w' => ∃ (x12_1 : Int), v12 = .int .i64 x12_1 ∧ Aside0 (tree_paths.l0 kq l0 l0 (l0.length : Int) x12_1 = some r) ∧ Aside0 (kq ≤ k) ∧ Aside0 (Below w.heap.size w w'))
  case atStart => exact ⟨(0), (by first | rfl | (simp; done) | (simp [*]; done)), H', ⟨Nat.le_refl _⟩, ⟨by repeat (first | (with_reducible first | exact HB.out | apply below_alloc | apply pw_below_drewN | apply below_drew1) | exact HB.out)⟩⟩
  case round =>
   clear H'
   try clear c2
   try clear c2b0
   try clear c2b1
   try clear p2
   obtain ⟨x12_1, rfl, HA, HK1, HB⟩ := hrel
   cases gk with
   | zero => exact absurd HA.out (by simp [tree_paths.l0])
   | succ k1 =>
    have H := HA.out
    clear HA
    simp only [tree_paths.l0] at H
    by_cases c3 : x12_1 < (l0.length : Int)
    ·rw [if_pos c3] at H
     have c3b0 : decide (x12_1 < (l0.length : Int)) = true := decide_eq_true c3
     clear c3
     by_cases c4 : 0 ≤ x12_1
     ·rw [if_pos c4] at H
      have c4b0 : decide (0 ≤ x12_1) = true := decide_eq_true c4
      clear c4
      by_cases c5 : x12_1 < (l0.length : Int)
      ·rw [if_pos c5] at H
       have c5b0 : decide (x12_1 < (l0.length : Int)) = true := decide_eq_true c5
       clear c5
       replace H := Option.bind_eq_some_iff.mp H
       obtain ⟨t118, A60, H⟩ := H
       replace H : (if t118 = 0 then (if x12_1 = 0 then (tree_paths.l0 k1 l0 l0 (l0.length : Int) (wrap64 (x12_1 + 1))) else (if 0 ≤ (wrap64 (x12_1 - 1)) then (if (wrap64 (x12_1 - 1)) < (l0.length : Int) then ((tree_Order.f k1 (rdOf ByteArray.empty l0 (wrap64 (x12_1 - 1))) (rdOf ByteArray.empty l0 x12_1)).bind fun t120 => (if t120 > 0 then (some 12) else (if t120 = 0 then (some 9) else ((tree_Within.f (rdOf ByteArray.empty l0 x12_1) (rdOf ByteArray.empty l0 (wrap64 (x12_1 - 1)))).bind fun t122 => (if t122 = true then (some 9) else (tree_paths.l0 k1 l0 l0 (l0.length : Int) (wrap64 (x12_1 + 1)))))))) else (none)) else (none))) else (some t118)) = some r := H
       have A6 := Aside0.mk A60
       clear A60
       by_cases c7 : t118 = 0
       ·rw [if_pos c7] at H
        have c7b0 : (t118 == 0) = true := beq_iff_eq.mpr c7
        have c7b1 : (t118 != 0) = false := bne_eq_false_iff_eq.mpr c7
        clear c7
        by_cases c8 : x12_1 = 0
        ·rw [if_pos c8] at H
         have c8b0 : (x12_1 == 0) = true := beq_iff_eq.mpr c8
         have c8b1 : (x12_1 != 0) = false := bne_eq_false_iff_eq.mpr c8
         clear c8
         have H' := Aside0.mk H
         clear H
         have p117 : 0 ≤ (x12_1 : Int) := of_decide_eq_true (by first | (with_reducible assumption) | assumption)
         have q117 : x12_1 < (l0.length : Int) := of_decide_eq_true (by first | (with_reducible assumption) | assumption)
         obtain ⟨ad117, e117, hx117_0⟩ := Kd.at_string HR0.out x12_1 p117 q117
         cases e117
         replace hx117_0 := (HB.out.cell (World.block_lt_of_cell? w _ hx117_0)).trans hx117_0
         replace p117 := eq_true p117
         replace q117 := eq_true q117
         go_wp2_with (first | ((with_reducible refine gate_callee (f := 14) rfl ?_); refine goesL_ (some 18) rfl rfl Tryd.func14 (by kernel_rfl) rfl #[.string (rdOf ByteArray.empty l0 x12_1)] rfl (by (try simp only [List.map_toArray, List.map_cons, List.map_nil]); first | done | rfl | (simp only [List.length_drop, List.length_take]; rfl)) ?_; (with_reducible refine (tree_Path.calls k1 (rdOf ByteArray.empty l0 x12_1) t118 _ A6.out).mono ?_); rintro e w9 ⟨rfl, hb⟩; refine ⟨_, rfl, ?_⟩; have n0_ := Aside0.mk (below_step (by repeat (first | (with_reducible first | exact HB.out | apply below_alloc | apply pw_below_drewN | apply below_drew1) | exact HB.out)) hb); clear HB; have HB := n0_; clear n0_; (try clear hb); (try clear hb2); (try clear hk); (try clear hi)))
         go_roundg k1
         case measure => have := HK1.out; omega
         case rel => exact ⟨(wrap64 (x12_1 + 1)), (by first | rfl | (simp; done) | (simp [*]; done)), H', ⟨by have := HK1.out; omega⟩, ⟨by repeat (first | (with_reducible first | exact HB.out | apply below_alloc | apply pw_below_drewN | apply below_drew1) | exact HB.out)⟩⟩
        ·rw [if_neg c8] at H
         have c8b0 : (x12_1 == 0) = false := beq_eq_false_iff_ne.mpr c8
         have c8b1 : (x12_1 != 0) = true := bne_iff_ne.mpr c8
         obtain ⟨ji10, hji10⟩ : ∃ j_ : Int, (wrap64 (x12_1 - 1)) = j_ := ⟨_, rfl⟩
         replace H : (if 0 ≤ (ji10) then (if (ji10) < (l0.length : Int) then ((tree_Order.f k1 (rdOf ByteArray.empty l0 (ji10)) (rdOf ByteArray.empty l0 x12_1)).bind fun t120 => (if t120 > 0 then (some 12) else (if t120 = 0 then (some 9) else ((tree_Within.f (rdOf ByteArray.empty l0 x12_1) (rdOf ByteArray.empty l0 (ji10))).bind fun t122 => (if t122 = true then (some 9) else (tree_paths.l0 k1 l0 l0 (l0.length : Int) (wrap64 (x12_1 + 1)))))))) else (none)) else (none)) = some r := by first | (rw [hji10] at H; exact H) | (simp only [hji10] at H ⊢; exact H)
         (try rw [hji10] at A6)
         have hji10w : (IntKind.i64.wrap (x12_1 - 1)) = ji10 := (i64_w _).trans hji10
         by_cases c11 : 0 ≤ (ji10)
         ·rw [if_pos c11] at H
          have c11b0 : decide (0 ≤ (ji10)) = true := decide_eq_true c11
          clear c11
          by_cases c12 : (ji10) < (l0.length : Int)
          ·rw [if_pos c12] at H
           have c12b0 : decide ((ji10) < (l0.length : Int)) = true := decide_eq_true c12
           clear c12
           replace H := Option.bind_eq_some_iff.mp H
           obtain ⟨t120, A130, H⟩ := H
           replace H : (if t120 > 0 then (some 12) else (if t120 = 0 then (some 9) else ((tree_Within.f (rdOf ByteArray.empty l0 x12_1) (rdOf ByteArray.empty l0 (ji10))).bind fun t122 => (if t122 = true then (some 9) else (tree_paths.l0 k1 l0 l0 (l0.length : Int) (wrap64 (x12_1 + 1))))))) = some r := H
           have A13 := Aside0.mk A130
           clear A130
           by_cases c14 : t120 > 0
           ·rw [if_pos c14] at H
            have c14b0 : decide (0 < t120) = true := decide_eq_true c14
            clear c14
            obtain rfl := Option.some.inj H
            have p117 : 0 ≤ (x12_1 : Int) := of_decide_eq_true (by first | (with_reducible assumption) | assumption)
            have q117 : x12_1 < (l0.length : Int) := of_decide_eq_true (by first | (with_reducible assumption) | assumption)
            obtain ⟨ad117, e117, hx117_0⟩ := Kd.at_string HR0.out x12_1 p117 q117
            cases e117
            replace hx117_0 := (HB.out.cell (World.block_lt_of_cell? w _ hx117_0)).trans hx117_0
            replace p117 := eq_true p117
            replace q117 := eq_true q117
            go_wp2_with (first | ((with_reducible refine gate_callee (f := 14) rfl ?_); refine goesL_ (some 18) rfl rfl Tryd.func14 (by kernel_rfl) rfl #[.string (rdOf ByteArray.empty l0 x12_1)] rfl (by (try simp only [List.map_toArray, List.map_cons, List.map_nil]); first | done | rfl | (simp only [List.length_drop, List.length_take]; rfl)) ?_; (with_reducible refine (tree_Path.calls k1 (rdOf ByteArray.empty l0 x12_1) t118 _ A6.out).mono ?_); rintro e w15 ⟨rfl, hb⟩; refine ⟨_, rfl, ?_⟩; have n0_ := Aside0.mk (below_step (by repeat (first | (with_reducible first | exact HB.out | apply below_alloc | apply pw_below_drewN | apply below_drew1) | exact HB.out)) hb); clear HB; have HB := n0_; clear n0_; (try clear hb); (try clear hb2); (try clear hk); (try clear hi); have p119 : 0 ≤ ((ji10) : Int) := of_decide_eq_true (by first | (with_reducible assumption) | assumption); have q119 : (ji10) < (l0.length : Int) := of_decide_eq_true (by first | (with_reducible assumption) | assumption); obtain ⟨ad119, e119, hx119_0⟩ := Kd.at_string HR0.out (ji10) p119 q119; obtain rfl : ad117 = ad119 := (by injection e119); replace hx119_0 := (HB.out.cell (World.block_lt_of_cell? w _ hx119_0)).trans hx119_0; replace p119 := eq_true p119; replace q119 := eq_true q119) | ((with_reducible refine gate_callee (f := 18) rfl ?_); refine goesL_ (some 30) rfl rfl Tryd.func18 (by kernel_rfl) rfl #[.string (rdOf ByteArray.empty l0 (ji10)), .string (rdOf ByteArray.empty l0 x12_1)] rfl (by (try simp only [List.map_toArray, List.map_cons, List.map_nil]); first | done | (simp only [hji10]; rfl) | rfl | (simp only [List.length_drop, List.length_take]; rfl)) ?_; (with_reducible refine (tree_Order.calls k1 (rdOf ByteArray.empty l0 (ji10)) (rdOf ByteArray.empty l0 x12_1) t120 _ A13.out).mono ?_); rintro e w16 ⟨rfl, hb⟩; refine ⟨_, rfl, ?_⟩; have n0_ := Aside0.mk (below_step (by repeat (first | (with_reducible first | exact HB.out | apply below_alloc | apply pw_below_drewN | apply below_drew1) | exact HB.out)) hb); clear HB; have HB := n0_; clear n0_; (try clear hb); (try clear hb2); (try clear hk); (try clear hi)))
            go_ret
            exact ⟨by first | rfl | (simp [errW_none, errW_some] <;> rfl) | (simp only [← hji10]; first | rfl | (simp [errW_none, errW_some] <;> rfl)) | (simp [*, errW_none, errW_some] <;> rfl), by repeat (first | (with_reducible first | exact HB.out | apply below_alloc | apply pw_below_drewN | apply below_drew1) | exact HB.out)⟩
           ·rw [if_neg c14] at H
            have c14b0 : decide (0 < t120) = false := decide_eq_false c14
            clear c14
            by_cases c17 : t120 = 0
            ·rw [if_pos c17] at H
             have c17b0 : (t120 == 0) = true := beq_iff_eq.mpr c17
             have c17b1 : (t120 != 0) = false := bne_eq_false_iff_eq.mpr c17
             clear c17
             obtain rfl := Option.some.inj H
             have p117 : 0 ≤ (x12_1 : Int) := of_decide_eq_true (by first | (with_reducible assumption) | assumption)
             have q117 : x12_1 < (l0.length : Int) := of_decide_eq_true (by first | (with_reducible assumption) | assumption)
             obtain ⟨ad117, e117, hx117_0⟩ := Kd.at_string HR0.out x12_1 p117 q117
             cases e117
             replace hx117_0 := (HB.out.cell (World.block_lt_of_cell? w _ hx117_0)).trans hx117_0
             replace p117 := eq_true p117
             replace q117 := eq_true q117
             go_wp2_with (first | ((with_reducible refine gate_callee (f := 14) rfl ?_); refine goesL_ (some 18) rfl rfl Tryd.func14 (by kernel_rfl) rfl #[.string (rdOf ByteArray.empty l0 x12_1)] rfl (by (try simp only [List.map_toArray, List.map_cons, List.map_nil]); first | done | rfl | (simp only [List.length_drop, List.length_take]; rfl)) ?_; (with_reducible refine (tree_Path.calls k1 (rdOf ByteArray.empty l0 x12_1) t118 _ A6.out).mono ?_); rintro e w18 ⟨rfl, hb⟩; refine ⟨_, rfl, ?_⟩; have n0_ := Aside0.mk (below_step (by repeat (first | (with_reducible first | exact HB.out | apply below_alloc | apply pw_below_drewN | apply below_drew1) | exact HB.out)) hb); clear HB; have HB := n0_; clear n0_; (try clear hb); (try clear hb2); (try clear hk); (try clear hi); have p119 : 0 ≤ ((ji10) : Int) := of_decide_eq_true (by first | (with_reducible assumption) | assumption); have q119 : (ji10) < (l0.length : Int) := of_decide_eq_true (by first | (with_reducible assumption) | assumption); obtain ⟨ad119, e119, hx119_0⟩ := Kd.at_string HR0.out (ji10) p119 q119; obtain rfl : ad117 = ad119 := (by injection e119); replace hx119_0 := (HB.out.cell (World.block_lt_of_cell? w _ hx119_0)).trans hx119_0; replace p119 := eq_true p119; replace q119 := eq_true q119) | ((with_reducible refine gate_callee (f := 18) rfl ?_); refine goesL_ (some 30) rfl rfl Tryd.func18 (by kernel_rfl) rfl #[.string (rdOf ByteArray.empty l0 (ji10)), .string (rdOf ByteArray.empty l0 x12_1)] rfl (by (try simp only [List.map_toArray, List.map_cons, List.map_nil]); first | done | (simp only [hji10]; rfl) | rfl | (simp only [List.length_drop, List.length_take]; rfl)) ?_; (with_reducible refine (tree_Order.calls k1 (rdOf ByteArray.empty l0 (ji10)) (rdOf ByteArray.empty l0 x12_1) t120 _ A13.out).mono ?_); rintro e w19 ⟨rfl, hb⟩; refine ⟨_, rfl, ?_⟩; have n0_ := Aside0.mk (below_step (by repeat (first | (with_reducible first | exact HB.out | apply below_alloc | apply pw_below_drewN | apply below_drew1) | exact HB.out)) hb); clear HB; have HB := n0_; clear n0_; (try clear hb); (try clear hb2); (try clear hk); (try clear hi)))
             go_ret
             exact ⟨by first | rfl | (simp [errW_none, errW_some] <;> rfl) | (simp only [← hji10]; first | rfl | (simp [errW_none, errW_some] <;> rfl)) | (simp [*, errW_none, errW_some] <;> rfl), by repeat (first | (with_reducible first | exact HB.out | apply below_alloc | apply pw_below_drewN | apply below_drew1) | exact HB.out)⟩
            ·rw [if_neg c17] at H
             have c17b0 : (t120 == 0) = false := beq_eq_false_iff_ne.mpr c17
             have c17b1 : (t120 != 0) = true := bne_iff_ne.mpr c17
             replace H := Option.bind_eq_some_iff.mp H
             obtain ⟨t122, A200, H⟩ := H
             replace H : (if t122 = true then (some 9) else (tree_paths.l0 k1 l0 l0 (l0.length : Int) (wrap64 (x12_1 + 1)))) = some r := H
             have A20 := Aside0.mk A200
             clear A200
             by_cases c21 : t122 = true
             ·subst c21
              have H1 : (some 9) = some r := by rw [if_pos rfl] at H; exact H
              clear H
              have H := H1
              clear H1
              obtain rfl := Option.some.inj H
              have p117 : 0 ≤ (x12_1 : Int) := of_decide_eq_true (by first | (with_reducible assumption) | assumption)
              have q117 : x12_1 < (l0.length : Int) := of_decide_eq_true (by first | (with_reducible assumption) | assumption)
              obtain ⟨ad117, e117, hx117_0⟩ := Kd.at_string HR0.out x12_1 p117 q117
              cases e117
              replace hx117_0 := (HB.out.cell (World.block_lt_of_cell? w _ hx117_0)).trans hx117_0
              replace p117 := eq_true p117
              replace q117 := eq_true q117
              go_wp2_with (first | ((with_reducible refine gate_callee (f := 14) rfl ?_); refine goesL_ (some 18) rfl rfl Tryd.func14 (by kernel_rfl) rfl #[.string (rdOf ByteArray.empty l0 x12_1)] rfl (by (try simp only [List.map_toArray, List.map_cons, List.map_nil]); first | done | rfl | (simp only [List.length_drop, List.length_take]; rfl)) ?_; (with_reducible refine (tree_Path.calls k1 (rdOf ByteArray.empty l0 x12_1) t118 _ A6.out).mono ?_); rintro e w22 ⟨rfl, hb⟩; refine ⟨_, rfl, ?_⟩; have n0_ := Aside0.mk (below_step (by repeat (first | (with_reducible first | exact HB.out | apply below_alloc | apply pw_below_drewN | apply below_drew1) | exact HB.out)) hb); clear HB; have HB := n0_; clear n0_; (try clear hb); (try clear hb2); (try clear hk); (try clear hi); have p119 : 0 ≤ ((ji10) : Int) := of_decide_eq_true (by first | (with_reducible assumption) | assumption); have q119 : (ji10) < (l0.length : Int) := of_decide_eq_true (by first | (with_reducible assumption) | assumption); obtain ⟨ad119, e119, hx119_0⟩ := Kd.at_string HR0.out (ji10) p119 q119; obtain rfl : ad117 = ad119 := (by injection e119); replace hx119_0 := (HB.out.cell (World.block_lt_of_cell? w _ hx119_0)).trans hx119_0; replace p119 := eq_true p119; replace q119 := eq_true q119) | ((with_reducible refine gate_callee (f := 18) rfl ?_); refine goesL_ (some 30) rfl rfl Tryd.func18 (by kernel_rfl) rfl #[.string (rdOf ByteArray.empty l0 (ji10)), .string (rdOf ByteArray.empty l0 x12_1)] rfl (by (try simp only [List.map_toArray, List.map_cons, List.map_nil]); first | done | (simp only [hji10]; rfl) | rfl | (simp only [List.length_drop, List.length_take]; rfl)) ?_; (with_reducible refine (tree_Order.calls k1 (rdOf ByteArray.empty l0 (ji10)) (rdOf ByteArray.empty l0 x12_1) t120 _ A13.out).mono ?_); rintro e w23 ⟨rfl, hb⟩; refine ⟨_, rfl, ?_⟩; have n0_ := Aside0.mk (below_step (by repeat (first | (with_reducible first | exact HB.out | apply below_alloc | apply pw_below_drewN | apply below_drew1) | exact HB.out)) hb); clear HB; have HB := n0_; clear n0_; (try clear hb); (try clear hb2); (try clear hk); (try clear hi); have p121 : 0 ≤ ((ji10) : Int) := of_decide_eq_true (by first | (with_reducible assumption) | assumption); have q121 : (ji10) < (l0.length : Int) := of_decide_eq_true (by first | (with_reducible assumption) | assumption); obtain ⟨ad121, e121, hx121_0⟩ := Kd.at_string HR0.out (ji10) p121 q121; obtain rfl : ad117 = ad121 := (by injection e121); replace hx121_0 := (HB.out.cell (World.block_lt_of_cell? w _ hx121_0)).trans hx121_0; replace p121 := eq_true p121; replace q121 := eq_true q121) | ((with_reducible refine gate_callee (f := 86) rfl ?_); refine goesL_ (some 43) rfl rfl Tryd.func86 (by kernel_rfl) rfl #[.string (rdOf ByteArray.empty l0 x12_1), .string (rdOf ByteArray.empty l0 (ji10))] rfl (by (try simp only [List.map_toArray, List.map_cons, List.map_nil]); first | done | (simp only [hji10]; rfl) | rfl | (simp only [List.length_drop, List.length_take]; rfl)) ?_; (with_reducible refine (tree_Within.calls (rdOf ByteArray.empty l0 x12_1) (rdOf ByteArray.empty l0 (ji10)) true _ A20.out).mono ?_); rintro e w' ⟨rfl, ⟨nd, rfl⟩⟩; refine ⟨_, rfl, ?_⟩))
              go_ret
              exact ⟨by first | rfl | (simp [errW_none, errW_some] <;> rfl) | (simp only [← hji10]; first | rfl | (simp [errW_none, errW_some] <;> rfl)) | (simp [*, errW_none, errW_some] <;> rfl), by repeat (first | (with_reducible first | exact HB.out | apply below_alloc | apply pw_below_drewN | apply below_drew1) | exact HB.out)⟩
             ·replace c21 := Bool.eq_false_iff.mpr c21
              subst c21
              have H1 : (tree_paths.l0 k1 l0 l0 (l0.length : Int) (wrap64 (x12_1 + 1))) = some r := by rw [if_neg (show ¬ (false = true) by decide)] at H; exact H
              clear H
              have H := H1
              clear H1
              have H' := Aside0.mk H
              clear H
              have p117 : 0 ≤ (x12_1 : Int) := of_decide_eq_true (by first | (with_reducible assumption) | assumption)
              have q117 : x12_1 < (l0.length : Int) := of_decide_eq_true (by first | (with_reducible assumption) | assumption)
              obtain ⟨ad117, e117, hx117_0⟩ := Kd.at_string HR0.out x12_1 p117 q117
              cases e117
              replace hx117_0 := (HB.out.cell (World.block_lt_of_cell? w _ hx117_0)).trans hx117_0
              replace p117 := eq_true p117
              replace q117 := eq_true q117
              go_wp2_with (first | ((with_reducible refine gate_callee (f := 14) rfl ?_); refine goesL_ (some 18) rfl rfl Tryd.func14 (by kernel_rfl) rfl #[.string (rdOf ByteArray.empty l0 x12_1)] rfl (by (try simp only [List.map_toArray, List.map_cons, List.map_nil]); first | done | rfl | (simp only [List.length_drop, List.length_take]; rfl)) ?_; (with_reducible refine (tree_Path.calls k1 (rdOf ByteArray.empty l0 x12_1) t118 _ A6.out).mono ?_); rintro e w24 ⟨rfl, hb⟩; refine ⟨_, rfl, ?_⟩; have n0_ := Aside0.mk (below_step (by repeat (first | (with_reducible first | exact HB.out | apply below_alloc | apply pw_below_drewN | apply below_drew1) | exact HB.out)) hb); clear HB; have HB := n0_; clear n0_; (try clear hb); (try clear hb2); (try clear hk); (try clear hi); have p119 : 0 ≤ ((ji10) : Int) := of_decide_eq_true (by first | (with_reducible assumption) | assumption); have q119 : (ji10) < (l0.length : Int) := of_decide_eq_true (by first | (with_reducible assumption) | assumption); obtain ⟨ad119, e119, hx119_0⟩ := Kd.at_string HR0.out (ji10) p119 q119; obtain rfl : ad117 = ad119 := (by injection e119); replace hx119_0 := (HB.out.cell (World.block_lt_of_cell? w _ hx119_0)).trans hx119_0; replace p119 := eq_true p119; replace q119 := eq_true q119) | ((with_reducible refine gate_callee (f := 18) rfl ?_); refine goesL_ (some 30) rfl rfl Tryd.func18 (by kernel_rfl) rfl #[.string (rdOf ByteArray.empty l0 (ji10)), .string (rdOf ByteArray.empty l0 x12_1)] rfl (by (try simp only [List.map_toArray, List.map_cons, List.map_nil]); first | done | (simp only [hji10]; rfl) | rfl | (simp only [List.length_drop, List.length_take]; rfl)) ?_; (with_reducible refine (tree_Order.calls k1 (rdOf ByteArray.empty l0 (ji10)) (rdOf ByteArray.empty l0 x12_1) t120 _ A13.out).mono ?_); rintro e w25 ⟨rfl, hb⟩; refine ⟨_, rfl, ?_⟩; have n0_ := Aside0.mk (below_step (by repeat (first | (with_reducible first | exact HB.out | apply below_alloc | apply pw_below_drewN | apply below_drew1) | exact HB.out)) hb); clear HB; have HB := n0_; clear n0_; (try clear hb); (try clear hb2); (try clear hk); (try clear hi); have p121 : 0 ≤ ((ji10) : Int) := of_decide_eq_true (by first | (with_reducible assumption) | assumption); have q121 : (ji10) < (l0.length : Int) := of_decide_eq_true (by first | (with_reducible assumption) | assumption); obtain ⟨ad121, e121, hx121_0⟩ := Kd.at_string HR0.out (ji10) p121 q121; obtain rfl : ad117 = ad121 := (by injection e121); replace hx121_0 := (HB.out.cell (World.block_lt_of_cell? w _ hx121_0)).trans hx121_0; replace p121 := eq_true p121; replace q121 := eq_true q121) | ((with_reducible refine gate_callee (f := 86) rfl ?_); refine goesL_ (some 43) rfl rfl Tryd.func86 (by kernel_rfl) rfl #[.string (rdOf ByteArray.empty l0 x12_1), .string (rdOf ByteArray.empty l0 (ji10))] rfl (by (try simp only [List.map_toArray, List.map_cons, List.map_nil]); first | done | (simp only [hji10]; rfl) | rfl | (simp only [List.length_drop, List.length_take]; rfl)) ?_; (with_reducible refine (tree_Within.calls (rdOf ByteArray.empty l0 x12_1) (rdOf ByteArray.empty l0 (ji10)) false _ A20.out).mono ?_); rintro e w' ⟨rfl, ⟨nd, rfl⟩⟩; refine ⟨_, rfl, ?_⟩))
              go_roundg k1
              case measure => have := HK1.out; omega
              case rel => exact ⟨(wrap64 (x12_1 + 1)), (by first | rfl | (simp; done) | (simp [*]; done)), H', ⟨by have := HK1.out; omega⟩, ⟨by repeat (first | (with_reducible first | exact HB.out | apply below_alloc | apply pw_below_drewN | apply below_drew1) | exact HB.out)⟩⟩
          ·rw [if_neg c12] at H
           exact absurd H (by simp)
         ·rw [if_neg c11] at H
          exact absurd H (by simp)
       ·rw [if_neg c7] at H
        have c7b0 : (t118 == 0) = false := beq_eq_false_iff_ne.mpr c7
        have c7b1 : (t118 != 0) = true := bne_iff_ne.mpr c7
        obtain rfl := Option.some.inj H
        have p117 : 0 ≤ (x12_1 : Int) := of_decide_eq_true (by first | (with_reducible assumption) | assumption)
        have q117 : x12_1 < (l0.length : Int) := of_decide_eq_true (by first | (with_reducible assumption) | assumption)
        obtain ⟨ad117, e117, hx117_0⟩ := Kd.at_string HR0.out x12_1 p117 q117
        cases e117
        replace hx117_0 := (HB.out.cell (World.block_lt_of_cell? w _ hx117_0)).trans hx117_0
        replace p117 := eq_true p117
        replace q117 := eq_true q117
        go_wp2_with (first | ((with_reducible refine gate_callee (f := 14) rfl ?_); refine goesL_ (some 18) rfl rfl Tryd.func14 (by kernel_rfl) rfl #[.string (rdOf ByteArray.empty l0 x12_1)] rfl (by (try simp only [List.map_toArray, List.map_cons, List.map_nil]); first | done | rfl | (simp only [List.length_drop, List.length_take]; rfl)) ?_; (with_reducible refine (tree_Path.calls k1 (rdOf ByteArray.empty l0 x12_1) t118 _ A6.out).mono ?_); rintro e w26 ⟨rfl, hb⟩; refine ⟨_, rfl, ?_⟩; have n0_ := Aside0.mk (below_step (by repeat (first | (with_reducible first | exact HB.out | apply below_alloc | apply pw_below_drewN | apply below_drew1) | exact HB.out)) hb); clear HB; have HB := n0_; clear n0_; (try clear hb); (try clear hb2); (try clear hk); (try clear hi)))
        go_ret
        exact ⟨by first | rfl | (simp [errW_none, errW_some] <;> rfl) | (simp [*, errW_none, errW_some] <;> rfl), by repeat (first | (with_reducible first | exact HB.out | apply below_alloc | apply pw_below_drewN | apply below_drew1) | exact HB.out)⟩
      ·rw [if_neg c5] at H
       exact absurd H (by simp)
     ·rw [if_neg c4] at H
      exact absurd H (by simp)
    ·rw [if_neg c3] at H
     have c3b0 : decide (x12_1 < (l0.length : Int)) = false := decide_eq_false c3
     clear c3
     obtain rfl := Option.some.inj H
     go_wp2
     go_ret
     exact ⟨by first | rfl | (simp [errW_none, errW_some] <;> rfl) | (simp [*, errW_none, errW_some] <;> rfl), by repeat (first | (with_reducible first | exact HB.out | apply below_alloc | apply pw_below_drewN | apply below_drew1) | exact HB.out)⟩
end Go.Proofs.YtafjlibcdlihcaaDoor.G
end
