/- Texts of this session's claim of ImageDrops, less what its theorem does not reach. No condition. -/
import Derived.Test.YtmeofdpmddjbgaaDoorID12
import Derived.Test.YtmeofdpmddjbgaaDoorID13
import Derived.Test.YtmeofdpmddjbgaaDoorID14
import Derived.Test.YtmeofdpmddjbgaaDoorID15
import Derived.Test.YtmeofdpmddjbgaaDoorID16
import Derived.Test.YtmeofdpmddjbgaaDoorID17
section
namespace Go.Proofs.YtmeofdpmddjbgaaDoor.G
open Go.RowKit Go.Proofs.YtmeofdpmddjbgaaDoorW.PrintWords Go.Proofs.YtmeofdpmddjbgaaDoorW.PrintLast Go.Proofs.YtmeofdpmddjbgaaDoorW.PrintMore
attribute [local go_sem] max2_int min2_int max_two min_two max_three min_three max_four min_four   -- for this text's walks alone
set_option linter.unusedVariables false
set_option linter.unusedSimpArgs false
def barquelaw10_awake.f (k : Nat)  : Option (Bool) := (image_Of.f k (([(⟨(⟨#[97]⟩ : ByteArray), 0, (⟨#[104, 105]⟩ : ByteArray)⟩ : S33)] : List (S33)))).bind fun bt195 => (if bt195.1.toList = ([1, 1, 97, 0, 2, 104, 105] : List UInt8) then (some (bt195.2 == 0)) else (some false))
theorem barquelaw10_awake.mono : ∀ k, LeO (barquelaw10_awake.f k ) (barquelaw10_awake.f (k + 1) ) := by
  intro  k
  unfold barquelaw10_awake.f
  repeat' first
      | (with_reducible exact image_Of.mono _ _)
      | (with_reducible exact LeO.refl _)
      | (with_reducible exact LeO.none _)
      | (with_reducible refine LeO.ite ?_ ?_)
      | (with_reducible refine LeO.bind ?_ (fun _ => ?_))
      | exact image_Of.mono _ _
      | exact LeO.none _
      | refine LeO.ite ?_ ?_
      | refine LeO.bind ?_ (fun _ => ?_)
set_option maxHeartbeats 8000000 in
set_option maxRecDepth 100000 in
theorem barquelaw10_awake.calls (k : Nat)  (r : Bool) (w : World) (h : barquelaw10_awake.f k  = some r) :
    Calls Tryd.prog 15 #[] w fun e w' => e = .returned (.bool r) ∧ Below w.heap.size w w' := by
  have hu33 := Tryd.underlying33
  have HB := Aside0.mk (Below.refl w.heap.size w)
  have H : ((image_Of.f k (([(⟨(⟨#[97]⟩ : ByteArray), 0, (⟨#[104, 105]⟩ : ByteArray)⟩ : S33)] : List (S33)))).bind fun bt195 => (if bt195.1.toList = ([1, 1, 97, 0, 2, 104, 105] : List UInt8) then (some (bt195.2 == 0)) else (some false))) = some r := h
  clear h
  obtain ⟨y192, hy192⟩ : ∃ y_ : List (S33), y_ = (([(⟨(⟨#[97]⟩ : ByteArray), 0, (⟨#[104, 105]⟩ : ByteArray)⟩ : S33)] : List (S33))) := ⟨_, rfl⟩
  replace H : ((image_Of.f k y192).bind fun bt195 => (if bt195.1.toList = ([1, 1, 97, 0, 2, 104, 105] : List UInt8) then (some (bt195.2 == 0)) else (some false))) = some r := by first | (rw [hy192]; with_reducible exact H) | (have H2_ := (Option.bind_some _ _).symm.trans H; rw [hy192]; with_reducible exact H2_) | (have H2_ := (Option.bind_some _ _).symm.trans H; with_reducible exact H2_) | with_reducible exact H | (rw [hy192]; exact H) | exact H
  have Ny192 := Aside0.mk hy192
  clear hy192
  replace H := Option.bind_eq_some_iff.mp H
  obtain ⟨⟨t195, t196⟩, A10, H⟩ := H
  replace H : (if t195.toList = ([1, 1, 97, 0, 2, 104, 105] : List UInt8) then (some (t196 == 0)) else (some false)) = some r := H
  have A1 := Aside0.mk A10
  clear A10
  by_cases c2 : t195.toList = ([1, 1, 97, 0, 2, 104, 105] : List UInt8)
  · rw [if_pos c2] at H
    have c2b0 : (t195.toList == ([1, 1, 97, 0, 2, 104, 105] : List UInt8)) = true := beq_iff_eq.mpr c2
    have c2b1 : (t195.toList != ([1, 1, 97, 0, 2, 104, 105] : List UInt8)) = false := bne_eq_false_iff_eq.mpr c2
    clear c2
    obtain rfl := Option.some.inj H
    go_enter Tryd.func15, Tryd.ntmps15
    go_wp2_with (first | ((with_reducible refine gate_dst (N := 5) rfl ?_); refine Kd.R_lit k33 _ 33 ?hg (N := 5) ?hd (xs := ([(⟨(⟨#[97]⟩ : ByteArray), 0, (⟨#[104, 105]⟩ : ByteArray)⟩ : S33)] : List (S33))) (inner := [.string (⟨#[97]⟩ : ByteArray), .int .i64 0, .string (⟨#[104, 105]⟩ : ByteArray)]) (ok := fun _ => True) (okp := fun _ => True) ?hr ?hp (fun _ hk => hk) trivial (Below.refl _ _) (Nat.le_refl _) (by simp) ?_; (case hd => rfl); (case hg => rfl); (case hr => first | (go_simp; done) | (go_simp; rfl)); (case hp => exact (Reps.c3 (show Kd.M k33 _ _ _ (⟨(⟨#[97]⟩ : ByteArray), 0, (⟨#[104, 105]⟩ : ByteArray)⟩ : S33) [.string (⟨#[97]⟩ : ByteArray), .int .i64 0, .string (⟨#[104, 105]⟩ : ByteArray)] from (k33_mkM _ _ _ (⟨(⟨#[97]⟩ : ByteArray), 0, (⟨#[104, 105]⟩ : ByteArray)⟩ : S33) )) (Reps.none _ _))); intro v193 w3 ho4 hb hg_ hnew_; clear hg_ hnew_; (first | rw [← Ny192.out] at ho4 | (simp only [Int.reduceToNat] at ho4; rw [← Ny192.out] at ho4)); have n0_ := Aside0.mk (Kd.R_lower ho4 (below_size (by repeat (first | (with_reducible first | exact HB.out | apply below_alloc | apply pw_below_drewN | apply below_drew1) | exact HB.out)))); have n1_ := Aside0.mk (below_step (by repeat (first | (with_reducible first | exact HB.out | apply below_alloc | apply pw_below_drewN | apply below_drew1) | exact HB.out)) hb); clear HB; have HO194 := n0_; have HB := n1_; clear n0_ n1_; clear hb ho4; obtain ⟨Ao5, co5, eo5⟩ := Kd.R_slice HO194.out; subst eo5) | ((with_reducible refine gate_callee (f := 12) rfl ?_); refine goesL_ (some 6) rfl rfl Tryd.func12 (by kernel_rfl) rfl #[.slice Ao5 y192.length co5] rfl (by (try simp only [List.map_toArray, List.map_cons, List.map_nil]); first | done | rfl | (simp only [List.length_drop, List.length_take]; rfl)) ?_; (with_reducible refine (image_Of.calls k _ _ y192 t195 t196 _ ?side1 ?side2 A1.out).mono ?_); (case side1 => repeat (first | exact (Kd.R_reads' HO194.out).2.2 | (with_reducible refine Kd.C_alloc ?_ _) | (with_reducible refine Kd.C_drewN ?_ _) | (with_reducible refine Kd.C_drew ?_))); (case side2 => exact (Kd.R_reads' HO194.out).2.1); rintro e w6 ⟨rfl, hb⟩; refine ⟨_, rfl, ?_⟩; have n0_ := Aside0.mk (Kd.R_below (by (with_reducible repeat (first | apply Kd.R_alloc | apply Kd.R_drewN | apply Kd.R_drew)); exact HO194.out) hb); have n1_ := Aside0.mk (below_step (by repeat (first | (with_reducible first | exact HB.out | apply below_alloc | apply pw_below_drewN | apply below_drew1) | exact HB.out)) hb); clear HO194; clear HB; have HO194 := n0_; have HB := n1_; clear n0_ n1_; (try clear hb); (try clear hb2); (try clear hk); (try clear hi)))
    go_ret
    exact ⟨by first | rfl | (simp [errW_none, errW_some] <;> rfl) | (simp [*, errW_none, errW_some] <;> rfl), by repeat (first | (with_reducible first | exact HB.out | apply below_alloc | apply pw_below_drewN | apply below_drew1) | exact HB.out)⟩
  · rw [if_neg c2] at H
    have c2b0 : (t195.toList == ([1, 1, 97, 0, 2, 104, 105] : List UInt8)) = false := beq_eq_false_iff_ne.mpr c2
    have c2b1 : (t195.toList != ([1, 1, 97, 0, 2, 104, 105] : List UInt8)) = true := bne_iff_ne.mpr c2
    obtain rfl := Option.some.inj H
    go_enter Tryd.func15, Tryd.ntmps15
    go_wp2_with (first | ((with_reducible refine gate_dst (N := 5) rfl ?_); refine Kd.R_lit k33 _ 33 ?hg (N := 5) ?hd (xs := ([(⟨(⟨#[97]⟩ : ByteArray), 0, (⟨#[104, 105]⟩ : ByteArray)⟩ : S33)] : List (S33))) (inner := [.string (⟨#[97]⟩ : ByteArray), .int .i64 0, .string (⟨#[104, 105]⟩ : ByteArray)]) (ok := fun _ => True) (okp := fun _ => True) ?hr ?hp (fun _ hk => hk) trivial (Below.refl _ _) (Nat.le_refl _) (by simp) ?_; (case hd => rfl); (case hg => rfl); (case hr => first | (go_simp; done) | (go_simp; rfl)); (case hp => exact (Reps.c3 (show Kd.M k33 _ _ _ (⟨(⟨#[97]⟩ : ByteArray), 0, (⟨#[104, 105]⟩ : ByteArray)⟩ : S33) [.string (⟨#[97]⟩ : ByteArray), .int .i64 0, .string (⟨#[104, 105]⟩ : ByteArray)] from (k33_mkM _ _ _ (⟨(⟨#[97]⟩ : ByteArray), 0, (⟨#[104, 105]⟩ : ByteArray)⟩ : S33) )) (Reps.none _ _))); intro v193 w7 ho8 hb hg_ hnew_; clear hg_ hnew_; (first | rw [← Ny192.out] at ho8 | (simp only [Int.reduceToNat] at ho8; rw [← Ny192.out] at ho8)); have n0_ := Aside0.mk (Kd.R_lower ho8 (below_size (by repeat (first | (with_reducible first | exact HB.out | apply below_alloc | apply pw_below_drewN | apply below_drew1) | exact HB.out)))); have n1_ := Aside0.mk (below_step (by repeat (first | (with_reducible first | exact HB.out | apply below_alloc | apply pw_below_drewN | apply below_drew1) | exact HB.out)) hb); clear HB; have HO194 := n0_; have HB := n1_; clear n0_ n1_; clear hb ho8; obtain ⟨Ao9, co9, eo9⟩ := Kd.R_slice HO194.out; subst eo9) | ((with_reducible refine gate_callee (f := 12) rfl ?_); refine goesL_ (some 6) rfl rfl Tryd.func12 (by kernel_rfl) rfl #[.slice Ao9 y192.length co9] rfl (by (try simp only [List.map_toArray, List.map_cons, List.map_nil]); first | done | rfl | (simp only [List.length_drop, List.length_take]; rfl)) ?_; (with_reducible refine (image_Of.calls k _ _ y192 t195 t196 _ ?side1 ?side2 A1.out).mono ?_); (case side1 => repeat (first | exact (Kd.R_reads' HO194.out).2.2 | (with_reducible refine Kd.C_alloc ?_ _) | (with_reducible refine Kd.C_drewN ?_ _) | (with_reducible refine Kd.C_drew ?_))); (case side2 => exact (Kd.R_reads' HO194.out).2.1); rintro e w10 ⟨rfl, hb⟩; refine ⟨_, rfl, ?_⟩; have n0_ := Aside0.mk (Kd.R_below (by (with_reducible repeat (first | apply Kd.R_alloc | apply Kd.R_drewN | apply Kd.R_drew)); exact HO194.out) hb); have n1_ := Aside0.mk (below_step (by repeat (first | (with_reducible first | exact HB.out | apply below_alloc | apply pw_below_drewN | apply below_drew1) | exact HB.out)) hb); clear HO194; clear HB; have HO194 := n0_; have HB := n1_; clear n0_ n1_; (try clear hb); (try clear hb2); (try clear hk); (try clear hi)))
    go_ret
    exact ⟨by first | rfl | (simp [errW_none, errW_some] <;> rfl) | (simp [*, errW_none, errW_some] <;> rfl), by repeat (first | (with_reducible first | exact HB.out | apply below_alloc | apply pw_below_drewN | apply below_drew1) | exact HB.out)⟩
end Go.Proofs.YtmeofdpmddjbgaaDoor.G
end
section
namespace Go.Proofs.YtmeofdpmddjbgaaDoor.G
open Go.RowKit Go.Proofs.YtmeofdpmddjbgaaDoorW.PrintWords Go.Proofs.YtmeofdpmddjbgaaDoorW.PrintLast Go.Proofs.YtmeofdpmddjbgaaDoorW.PrintMore
set_option linter.unusedVariables false
set_option linter.unusedSimpArgs false
theorem awakeI_ev : Ev (fun k => barquelaw10_awake.f k) true := Ev.of (fun k => barquelaw10_awake.mono k) (k := 60) (by kernel_rfl)
end Go.Proofs.YtmeofdpmddjbgaaDoor.G
end
section
namespace Go.Proofs.YtmeofdpmddjbgaaDoor.G
open Go.RowKit Go.Proofs.YtmeofdpmddjbgaaDoorW.PrintWords Go.Proofs.YtmeofdpmddjbgaaDoorW.PrintLast Go.Proofs.YtmeofdpmddjbgaaDoorW.PrintMore
attribute [local go_sem] max2_int min2_int max_two min_two max_three min_three max_four min_four   -- for this text's walks alone
set_option linter.unusedVariables false
set_option linter.unusedSimpArgs false
def barquelaw10_cut.f (a0 : ByteArray) : Option (ByteArray) := if (a0.size : Int) > 20000 then (if 0 ≤ 20000 then (if 20000 ≤ (a0.size : Int) then (some (a0.extract 0 20000)) else (none)) else (none)) else (some a0)
set_option maxHeartbeats 8000000 in
set_option maxRecDepth 100000 in
theorem barquelaw10_cut.calls (a0 : ByteArray) (r : ByteArray) (w : World) (h : barquelaw10_cut.f a0 = some r) :
    Calls Tryd.prog 16 #[.string a0] w fun e w' => e = .returned (.string r) ∧ Drawn0 w w' := by
  have H : (if (a0.size : Int) > 20000 then (if 0 ≤ 20000 then (if 20000 ≤ (a0.size : Int) then (some (a0.extract 0 20000)) else (none)) else (none)) else (some a0)) = some r := h
  clear h
  by_cases c2 : (a0.size : Int) > 20000
  · rw [if_pos c2] at H
    have c2b0 : decide (20000 < (a0.size : Int)) = true := decide_eq_true c2
    have c2b1 : decide (20000 < a0.size) = true := decide_eq_true (by omega)
    clear c2
    by_cases c3 : 0 ≤ 20000
    · rw [if_pos c3] at H
      have c3b0 := eq_true c3
      have c3b1 : decide (0 ≤ 20000) = true := decide_eq_true c3
      clear c3
      by_cases c4 : 20000 ≤ (a0.size : Int)
      · rw [if_pos c4] at H
        have c4b0 := eq_true c4
        have c4b1 : decide (20000 ≤ (a0.size : Int)) = true := decide_eq_true c4
        clear c4
        obtain rfl := Option.some.inj H
        go_enter Tryd.func16, Tryd.ntmps16
        go_wp2
        go_ret
        exact ⟨by first | rfl | (simp; done) | (simp [*]; done), by repeat (first | exact Drawn0.refl _ | apply Drawn0.step)⟩
      · rw [if_neg c4] at H
        exact absurd H (by simp)
    · exact absurd (by decide) c3
  · rw [if_neg c2] at H
    have c2b0 : decide (20000 < (a0.size : Int)) = false := decide_eq_false c2
    have c2b1 : decide (20000 < a0.size) = false := decide_eq_false (by omega)
    clear c2
    obtain rfl := Option.some.inj H
    go_enter Tryd.func16, Tryd.ntmps16
    go_wp2
    go_ret
    exact ⟨by first | rfl | (simp; done) | (simp [*]; done), by repeat (first | exact Drawn0.refl _ | apply Drawn0.step)⟩
end Go.Proofs.YtmeofdpmddjbgaaDoor.G
end
section
namespace Go.Proofs.YtmeofdpmddjbgaaDoor.G
open Go.RowKit Go.Proofs.YtmeofdpmddjbgaaDoorW.PrintWords Go.Proofs.YtmeofdpmddjbgaaDoorW.PrintLast Go.Proofs.YtmeofdpmddjbgaaDoorW.PrintMore
attribute [local go_sem] max2_int min2_int max_two min_two max_three min_three max_four min_four   -- for this text's walks alone
set_option linter.unusedVariables false
set_option linter.unusedSimpArgs false
def image_Tree.l0 : Nat → ByteArray → List (S33) → Int → List Int → Int → Int → Option ((List (S33)) × Int)
  | 0, _, _, _, _, _, _ => none
  | k + 1, x0, x4, x6, x23, x24, x25 => if x25 < x24 then (if 0 ≤ x25 then (if x25 < (x23.length : Int) then (if (rd x23 x25) > (wrap64 ((x0.size : Int) - x6)) then (some (([] : List (S33)), 3)) else (if 0 ≤ x6 then (if x6 ≤ (wrap64 (x6 + (rd x23 x25))) then (if (wrap64 (x6 + (rd x23 x25))) ≤ (x0.size : Int) then (if x25 < (x4.length : Int) then (image_Tree.l0 k x0 (x4.set (x25 : Int).toNat (⟨(rd_T33 x4 x25).f0, (rd_T33 x4 x25).f1, x0.extract (x6 : Int).toNat ((wrap64 (x6 + (rd x23 x25))) : Int).toNat⟩ : S33)) (wrap64 (x6 + (rd x23 x25))) x23 x24 (wrap64 (x25 + 1))) else (none)) else (none)) else (none)) else (none))) else (none)) else (none)) else (if x6 < (x0.size : Int) then (some (([] : List (S33)), 4)) else (some (x4, 0)))
def image_Tree.f (k : Nat) (a0 : ByteArray) : Option ((List (S33)) × Int) := if (a0.size : Int) > 524288 then (some (([] : List (S33)), 4)) else ((image_head.f k a0).bind fun bt325 => (if bt325.2.2.2 = 0 then (image_Tree.l0 k a0 bt325.1 bt325.2.2.1 bt325.2.1 (bt325.2.1.length : Int) 0) else (some (([] : List (S33)), bt325.2.2.2))))
theorem image_Tree.mono_l : ∀ k, (∀ y0 y1 y2 y3 y4 y5, LeO (image_Tree.l0 k y0 y1 y2 y3 y4 y5) (image_Tree.l0 (k + 1) y0 y1 y2 y3 y4 y5))
  | 0 => fun _ _ _ _ _ _ r h => by simp [image_Tree.l0] at h
  | k + 1 => by
    have ih0 := image_Tree.mono_l k
    · intro y0 y1 y2 y3 y4 y5
      unfold image_Tree.l0
      repeat' first
      | (with_reducible exact ih0 _ _ _ _ _ _)
      | (with_reducible exact image_head.mono _ _)
      | (with_reducible exact LeO.refl _)
      | (with_reducible exact LeO.none _)
      | (with_reducible refine LeO.ite ?_ ?_)
      | (with_reducible refine LeO.bind ?_ (fun _ => ?_))
      | exact ih0 _ _ _ _ _ _
      | exact image_head.mono _ _
      | exact LeO.none _
      | refine LeO.ite ?_ ?_
      | refine LeO.bind ?_ (fun _ => ?_)
theorem image_Tree.mono : ∀ a0 k, LeO (image_Tree.f k a0) (image_Tree.f (k + 1) a0) := by
  intro a0 k
  have ih0 := image_Tree.mono_l k
  unfold image_Tree.f
  repeat' first
      | (with_reducible exact ih0 _ _ _ _ _ _)
      | (with_reducible exact image_head.mono _ _)
      | (with_reducible exact LeO.refl _)
      | (with_reducible exact LeO.none _)
      | (with_reducible refine LeO.ite ?_ ?_)
      | (with_reducible refine LeO.bind ?_ (fun _ => ?_))
      | exact ih0 _ _ _ _ _ _
      | exact image_head.mono _ _
      | exact LeO.none _
      | refine LeO.ite ?_ ?_
      | refine LeO.bind ?_ (fun _ => ?_)
set_option maxHeartbeats 8000000 in
set_option maxRecDepth 100000 in
theorem image_Tree.calls (k : Nat) (a0 : ByteArray) (r1 : List (S33)) (r2 : Int) (w : World) (h : image_Tree.f k a0 = some (r1, r2)) :
    Calls Tryd.prog 17 #[.string a0] w fun e w' => ∃ v0_ : Value, e = .returned (.tuple #[v0_, .int .i64 r2]) ∧ Kd.R k33 33 w' w.heap.size (fun _ => True) v0_ r1 ∧ Below w.heap.size w w' := by
  have HB := Aside0.mk (Below.refl w.heap.size w)
  have H : (if (a0.size : Int) > 524288 then (some (([] : List (S33)), 4)) else ((image_head.f k a0).bind fun bt325 => (if bt325.2.2.2 = 0 then (image_Tree.l0 k a0 bt325.1 bt325.2.2.1 bt325.2.1 (bt325.2.1.length : Int) 0) else (some (([] : List (S33)), bt325.2.2.2))))) = some (r1, r2) := h
  clear h
  by_cases c2 : (a0.size : Int) > 524288
  · rw [if_pos c2] at H
    have c2b0 : decide (524288 < (a0.size : Int)) = true := decide_eq_true c2
    have c2b1 : decide (524288 < a0.size) = true := decide_eq_true (by omega)
    clear c2
    simp only [Option.some.injEq, Prod.mk.injEq] at H
    obtain ⟨rfl, rfl⟩ := H
    go_enter Tryd.func17, Tryd.ntmps17
    go_wp2
    go_ret2
    exact ⟨_, by first | rfl | (simp [errW_none, errW_some] <;> rfl) | (simp [*, errW_none, errW_some] <;> rfl), by first | exact Kd.R_nil _ _ _ _ _ | exact Kd.N_nil _ _ _ _ _ | exact Kd.V_nil _ _ _ _ _ | exact Kd.Q_nil _ _ _ _ _ | exact Kd.S_nil _ _ _ _ _, by repeat (first | (with_reducible first | exact HB.out | apply below_alloc | apply pw_below_drewN | apply below_drew1) | exact HB.out)⟩
  · rw [if_neg c2] at H
    have c2b0 : decide (524288 < (a0.size : Int)) = false := decide_eq_false c2
    have c2b1 : decide (524288 < a0.size) = false := decide_eq_false (by omega)
    clear c2
    replace H := Option.bind_eq_some_iff.mp H
    obtain ⟨⟨t325, t326, t327, t328⟩, A30, H⟩ := H
    replace H : (if t328 = 0 then (image_Tree.l0 k a0 t325 t327 t326 (t326.length : Int) 0) else (some (([] : List (S33)), t328))) = some (r1, r2) := H
    have A3 := Aside0.mk A30
    clear A30
    by_cases c4 : t328 = 0
    · rw [if_pos c4] at H
      have c4b0 : (t328 == 0) = true := beq_iff_eq.mpr c4
      have c4b1 : (t328 != 0) = false := bne_eq_false_iff_eq.mpr c4
      clear c4
      have H' := Aside0.mk H
      clear H
      go_enter Tryd.func17, Tryd.ntmps17
      go_wp2_with (first | ((with_reducible refine gate_callee (f := 37) rfl ?_); refine goesL_ (some 15) rfl rfl Tryd.func37 (by kernel_rfl) rfl #[.string a0] rfl (by (try simp only [List.map_toArray, List.map_cons, List.map_nil]); first | done | rfl | (simp only [List.length_drop, List.length_take]; rfl)) ?_; (with_reducible refine (image_head.calls k a0 t325 t326 t327 t328 _ A3.out).mono ?_); rintro e w5 ⟨v329, v331, rfl, ho0, ho1, hb⟩; refine ⟨_, rfl, ?_⟩; have n0_ := Aside0.mk (Kd.R_lower ho0 (below_size (by repeat (first | (with_reducible first | exact HB.out | apply below_alloc | apply pw_below_drewN | apply below_drew1) | exact HB.out)))); have n1_ := Aside0.mk (Kd.R_lower ho1 (below_size (by repeat (first | (with_reducible first | exact HB.out | apply below_alloc | apply pw_below_drewN | apply below_drew1) | exact HB.out)))); have n2_ := Aside0.mk (below_step (by repeat (first | (with_reducible first | exact HB.out | apply below_alloc | apply pw_below_drewN | apply below_drew1) | exact HB.out)) hb); clear HB; have HO330 := n0_; have HO332 := n1_; have HB := n2_; clear n0_ n1_ n2_; (try clear hb); (try clear hb2); (try clear hk); (try clear hi); (try clear ho0); (try clear ho1); obtain ⟨Ao6, co6, eo6⟩ := Kd.R_slice HO332.out; subst eo6))
      go_loopg [6, 25] k (fun kq v6 v25 w' => ∃ (x4_1 : List (S33)) (x6_1 : Int) (x25_1 : Int), v6 = .int .i64 x6_1 ∧ v25 = .int .i64 x25_1 ∧ Aside0 (image_Tree.l0 kq a0 x4_1 x6_1 t326 (t326.length : Int) x25_1 = some (r1, r2)) ∧ Aside0 (kq ≤ k) ∧ Aside0 (Kd.R k33 33 w' w.heap.size (fun _ => True) v329 x4_1) ∧ Aside0 (Kd.R (Kd.int .i64) 3 w' w.heap.size (fun _ => True) (.slice Ao6 t326.length co6) t326) ∧ Aside0 (Below w.heap.size w w'))
      case atStart => exact ⟨(t325), (t327), (0), (by first | rfl | (simp; done) | (simp [*]; done)), (by first | rfl | (simp; done) | (simp [*]; done)), H', ⟨Nat.le_refl _⟩, ⟨by (with_reducible repeat (first | apply Kd.R_alloc | apply Kd.R_drewN | apply Kd.R_drew)); exact HO330.out⟩, ⟨by (with_reducible repeat (first | apply Kd.R_alloc | apply Kd.R_drewN | apply Kd.R_drew)); exact HO332.out⟩, ⟨by repeat (first | (with_reducible first | exact HB.out | apply below_alloc | apply pw_below_drewN | apply below_drew1) | exact HB.out)⟩⟩
      case round =>
        clear H'
        try clear c1
        try clear c2
        try clear c2b0
        try clear c2b1
        try clear p2
        try clear c3
        try clear c4
        try clear c4b0
        try clear c4b1
        obtain ⟨x4_1, x6_1, x25_1, rfl, rfl, HA, HK1, HO_4, HO_23, HB⟩ := hrel
        cases gk with
        | zero => exact absurd HA.out (by simp [image_Tree.l0])
        | succ k1 =>
          have H := HA.out
          clear HA
          simp only [image_Tree.l0] at H
          by_cases c7 : x25_1 < (t326.length : Int)
          · rw [if_pos c7] at H
            have c7b0 : decide (x25_1 < (t326.length : Int)) = true := decide_eq_true c7
            clear c7
            by_cases c8 : 0 ≤ x25_1
            · rw [if_pos c8] at H
              have c8b0 : decide (0 ≤ x25_1) = true := decide_eq_true c8
              clear c8
              by_cases c9 : x25_1 < (t326.length : Int)
              · rw [if_pos c9] at H
                have c9b0 : decide (x25_1 < (t326.length : Int)) = true := decide_eq_true c9
                clear c9
                by_cases c10 : (rd t326 x25_1) > (wrap64 ((a0.size : Int) - x6_1))
                · rw [if_pos c10] at H
                  have c10b0 : decide ((wrap64 ((a0.size : Int) - x6_1)) < (rd t326 x25_1)) = true := decide_eq_true c10
                  clear c10
                  simp only [Option.some.injEq, Prod.mk.injEq] at H
                  obtain ⟨rfl, rfl⟩ := H
                  have p333 : 0 ≤ (x25_1 : Int) := of_decide_eq_true (by first | (with_reducible assumption) | assumption)
                  have q333 : x25_1 < (t326.length : Int) := of_decide_eq_true (by first | (with_reducible assumption) | assumption)
                  obtain ⟨ad333, e333, hx333_0⟩ := Kd.at_int (Kd.R_reads' HO_23.out).2.2 x25_1 p333 q333
                  cases e333
                  replace p333 := eq_true p333
                  replace q333 := eq_true q333
                  go_wp2
                  go_ret2
                  exact ⟨_, by first | rfl | (simp [errW_none, errW_some] <;> rfl) | (simp [*, errW_none, errW_some] <;> rfl), by first | exact Kd.R_nil _ _ _ _ _ | exact Kd.N_nil _ _ _ _ _ | exact Kd.V_nil _ _ _ _ _ | exact Kd.Q_nil _ _ _ _ _ | exact Kd.S_nil _ _ _ _ _, by repeat (first | (with_reducible first | exact HB.out | apply below_alloc | apply pw_below_drewN | apply below_drew1) | exact HB.out)⟩
                · rw [if_neg c10] at H
                  have c10b0 : decide ((wrap64 ((a0.size : Int) - x6_1)) < (rd t326 x25_1)) = false := decide_eq_false c10
                  clear c10
                  by_cases c11 : 0 ≤ x6_1
                  · rw [if_pos c11] at H
                    have c11b0 := eq_true c11
                    have c11b1 : decide (0 ≤ x6_1) = true := decide_eq_true c11
                    clear c11
                    by_cases c12 : x6_1 ≤ (wrap64 (x6_1 + (rd t326 x25_1)))
                    · rw [if_pos c12] at H
                      have c12b0 := eq_true c12
                      have c12b1 : decide (x6_1 ≤ (wrap64 (x6_1 + (rd t326 x25_1)))) = true := decide_eq_true c12
                      by_cases c13 : (wrap64 (x6_1 + (rd t326 x25_1))) ≤ (a0.size : Int)
                      · rw [if_pos c13] at H
                        have c13b0 := eq_true c13
                        have c13b1 : decide ((wrap64 (x6_1 + (rd t326 x25_1))) ≤ (a0.size : Int)) = true := decide_eq_true c13
                        by_cases c14 : x25_1 < (x4_1.length : Int)
                        · rw [if_pos c14] at H
                          have c14b0 : decide (x25_1 < (x4_1.length : Int)) = true := decide_eq_true c14
                          clear c14
                          obtain ⟨y334, hy334⟩ : ∃ y_ : List (S33), y_ = (x4_1.set (x25_1 : Int).toNat (⟨(rd_T33 x4_1 x25_1).f0, (rd_T33 x4_1 x25_1).f1, a0.extract (x6_1 : Int).toNat ((wrap64 (x6_1 + (rd t326 x25_1))) : Int).toNat⟩ : S33)) := ⟨_, rfl⟩
                          replace H : (image_Tree.l0 k1 a0 y334 (wrap64 (x6_1 + (rd t326 x25_1))) t326 (t326.length : Int) (wrap64 (x25_1 + 1))) = some (r1, r2) := by first | (rw [hy334]; with_reducible exact H) | (have H2_ := (Option.bind_some _ _).symm.trans H; rw [hy334]; with_reducible exact H2_) | (have H2_ := (Option.bind_some _ _).symm.trans H; with_reducible exact H2_) | with_reducible exact H | (rw [hy334]; exact H) | exact H
                          have Ny334 := Aside0.mk hy334
                          clear hy334
                          have H' := Aside0.mk H
                          clear H
                          have p333 : 0 ≤ (x25_1 : Int) := of_decide_eq_true (by first | (with_reducible assumption) | assumption)
                          have q333 : x25_1 < (t326.length : Int) := of_decide_eq_true (by first | (with_reducible assumption) | assumption)
                          obtain ⟨ad333, e333, hx333_0⟩ := Kd.at_int (Kd.R_reads' HO_23.out).2.2 x25_1 p333 q333
                          cases e333
                          replace p333 := eq_true p333
                          replace q333 := eq_true q333
                          have p15 : 0 ≤ (x25_1 : Int) := of_decide_eq_true (by first | (with_reducible assumption) | assumption)
                          have q15 : (x25_1 : Int) < ((x4_1.length : Int) : Int) := of_decide_eq_true (by first | (with_reducible assumption) | assumption)
                          obtain ⟨go15, co15, eo15, gb15, gl15, cl15, HG15⟩ := Kd.R_form HO_4.out (by omega)
                          (first | cases eo15 | (injection eo15 with ea_ en_ ec_; (first | subst ea_ | (injection ea_ with ea_; subst ea_)); subst ec_; clear en_))
                          have GB15 := Aside0.mk gb15
                          have GG15 := Aside0.mk HG15
                          clear gb15 gl15 HG15
                          obtain ⟨ce15, hcl15, hM15, hcc15, hfr15⟩ := Kd.R_elem HO_4.out z33 (x25_1 : Int) p15 q15
                          obtain rfl := k33_openM hM15
                          have hx15_0 : wr.cell? ⟨go15, (x25_1 : Int).toNat * 3, none⟩ = some (.string ((rd_T33 x4_1 x25_1).f0)) := hcc15 0 _ rfl
                          have hx15_1 : wr.cell? ⟨go15, (x25_1 : Int).toNat * 3 + 1, none⟩ = some (.int .i64 ((rd_T33 x4_1 x25_1).f1)) := hcc15 1 _ rfl
                          have hx15_2 : wr.cell? ⟨go15, (x25_1 : Int).toNat * 3 + 2, none⟩ = some (.string ((rd_T33 x4_1 x25_1).f2)) := hcc15 2 _ rfl
                          have hf15_0 : wr.frozen? ⟨go15, (x25_1 : Int).toNat * 3, none⟩ = false := hfr15 0
                          have hf15_1 : wr.frozen? ⟨go15, (x25_1 : Int).toNat * 3 + 1, none⟩ = false := hfr15 1
                          have hf15_2 : wr.frozen? ⟨go15, (x25_1 : Int).toNat * 3 + 2, none⟩ = false := hfr15 2
                          clear hcl15 hcc15 hfr15 hM15
                          replace p15 := eq_true p15
                          replace q15 := eq_true q15
                          have HX16 := Aside0.mk (show Kd.R k33 33 wr w.heap.size (fun _ => True) (.slice (some ⟨go15, 0, none⟩) x4_1.length co15) x4_1 from (by (with_reducible repeat (first | apply Kd.R_alloc | apply Kd.R_drewN | apply Kd.R_drew)); exact HO_4.out))
                          obtain ⟨ce16, hcl16, hM16, hcc16, hfr16⟩ := Kd.R_elem HX16.out z33 (x25_1 : Int) (of_decide_eq_true (by first | (with_reducible assumption) | assumption)) (by have h_ : (x25_1 : Int) < ((x4_1.length : Int) : Int) := of_decide_eq_true (by first | (with_reducible assumption) | assumption); first | exact h_ | (have e_ := (Kd.R_reads' HO_4.out).1; omega) | simpa using h_)
                          obtain rfl := k33_openM hM16
                          have HP16 := Kd.R_seg HX16.out (x25_1 : Int) (of_decide_eq_true (by first | (with_reducible assumption) | assumption)) (by have h_ : (x25_1 : Int) < ((x4_1.length : Int) : Int) := of_decide_eq_true (by first | (with_reducible assumption) | assumption); first | exact h_ | (have e_ := (Kd.R_reads' HO_4.out).1; omega) | simpa using h_) (seg := [.string (a0.extract (x6_1 : Int).toNat ((wrap64 (x6_1 + (rd t326 x25_1))) : Int).toNat)]) (j := 2) hcl16 hcc16 (show 3 ≤ 3 from by decide) (x' := (⟨(rd_T33 x4_1 x25_1).f0, (rd_T33 x4_1 x25_1).f1, a0.extract (x6_1 : Int).toNat ((wrap64 (x6_1 + (rd t326 x25_1))) : Int).toNat⟩ : S33)) (k33_mkM _ _ _ (⟨(rd_T33 x4_1 x25_1).f0, (rd_T33 x4_1 x25_1).f1, a0.extract (x6_1 : Int).toNat ((wrap64 (x6_1 + (rd t326 x25_1))) : Int).toNat⟩ : S33) ) (fun _ hk => hk)
                          have hx16_2 := hcc16 2 _ rfl
                          (try simp only [show (k33).sz = 3 from rfl, Nat.mul_one, Nat.add_zero] at hx16_2)
                          have hf16_2 := hfr16 2
                          (try simp only [show (k33).sz = 3 from rfl, Nat.mul_one, Nat.add_zero] at hf16_2)
                          clear hcl16 hcc16 hfr16 hM16
                          go_wp2_with (first | ((with_reducible refine gate_store (t := 9) (p := 45) rfl ?_); refine store_event (t := 9) (p := 45) (v := ?vo_w17) (w1 := (wr.setCell ⟨go15, (x25_1 : Int).toNat * 3 + 2, none⟩ (.string (a0.extract (x6_1 : Int).toNat ((wrap64 (x6_1 + (rd t326 x25_1))) : Int).toNat)))) ?hg ?ho ?hn ?hr ?_; (case ho => rfl); (case hg => rfl); (case hn => rfl); (case hr => first | (go_simp; done) | (go_simp; rfl)); intro w17 hw; have hg : wr.grownBy w17 (some go15) := (by rw [hw]; exact HP16.2); have hp_ : Kd.R k33 33 w17 w.heap.size (fun _ => True) (.slice (some ⟨go15, 0, none⟩) x4_1.length co15) y334 := (by rw [hw, Ny334.out]; exact HP16.1); clear HP16; have n0_ := Aside0.mk (hp_); have n1_ := Aside0.mk (Kd.R_over' (v := (.slice (some ⟨go15, 0, none⟩) x4_1.length co15)) (by (with_reducible repeat (first | apply Kd.R_alloc | apply Kd.R_drewN | apply Kd.R_drew)); exact HO_23.out) (Kd.R_typed HO_4.out) (by decide) hg); have n2_ := Aside0.mk ((by rw [hw]; exact below_set (HB.out) GB15.out : Below w.heap.size w w17)); clear HO_4; clear HO_23; clear HB; have HO_4 := n0_; have HO_23 := n1_; have HB := n2_; clear n0_ n1_ n2_; clear hg hw hp_))
                          go_roundg k1
                          case measure => have := HK1.out; omega
                          case rel => exact ⟨(y334), (wrap64 (x6_1 + (rd t326 x25_1))), (wrap64 (x25_1 + 1)), (by first | rfl | (simp; done) | (simp [*]; done)), (by first | rfl | (simp; done) | (simp [*]; done)), H', ⟨by have := HK1.out; omega⟩, ⟨by (with_reducible repeat (first | apply Kd.R_alloc | apply Kd.R_drewN | apply Kd.R_drew)); exact HO_4.out⟩, ⟨by (with_reducible repeat (first | apply Kd.R_alloc | apply Kd.R_drewN | apply Kd.R_drew)); exact HO_23.out⟩, ⟨by repeat (first | (with_reducible first | exact HB.out | apply below_alloc | apply pw_below_drewN | apply below_drew1) | exact HB.out)⟩⟩
                        · rw [if_neg c14] at H
                          exact absurd H (by simp)
                      · rw [if_neg c13] at H
                        exact absurd H (by simp)
                    · rw [if_neg c12] at H
                      exact absurd H (by simp)
                  · rw [if_neg c11] at H
                    exact absurd H (by simp)
              · rw [if_neg c9] at H
                exact absurd H (by simp)
            · rw [if_neg c8] at H
              exact absurd H (by simp)
          · rw [if_neg c7] at H
            have c7b0 : decide (x25_1 < (t326.length : Int)) = false := decide_eq_false c7
            clear c7
            by_cases c18 : x6_1 < (a0.size : Int)
            · rw [if_pos c18] at H
              have c18b0 : decide (x6_1 < (a0.size : Int)) = true := decide_eq_true c18
              clear c18
              simp only [Option.some.injEq, Prod.mk.injEq] at H
              obtain ⟨rfl, rfl⟩ := H
              go_wp2
              go_ret2
              exact ⟨_, by first | rfl | (simp [errW_none, errW_some] <;> rfl) | (simp [*, errW_none, errW_some] <;> rfl), by first | exact Kd.R_nil _ _ _ _ _ | exact Kd.N_nil _ _ _ _ _ | exact Kd.V_nil _ _ _ _ _ | exact Kd.Q_nil _ _ _ _ _ | exact Kd.S_nil _ _ _ _ _, by repeat (first | (with_reducible first | exact HB.out | apply below_alloc | apply pw_below_drewN | apply below_drew1) | exact HB.out)⟩
            · rw [if_neg c18] at H
              have c18b0 : decide (x6_1 < (a0.size : Int)) = false := decide_eq_false c18
              clear c18
              simp only [Option.some.injEq, Prod.mk.injEq] at H
              obtain ⟨rfl, rfl⟩ := H
              go_wp2
              go_ret2
              exact ⟨_, by first | rfl | (simp [errW_none, errW_some] <;> rfl) | (simp [*, errW_none, errW_some] <;> rfl), by (with_reducible repeat (first | apply Kd.R_alloc | apply Kd.R_drewN | apply Kd.R_drew)); exact HO_4.out, by repeat (first | (with_reducible first | exact HB.out | apply below_alloc | apply pw_below_drewN | apply below_drew1) | exact HB.out)⟩
    · rw [if_neg c4] at H
      have c4b0 : (t328 == 0) = false := beq_eq_false_iff_ne.mpr c4
      have c4b1 : (t328 != 0) = true := bne_iff_ne.mpr c4
      simp only [Option.some.injEq, Prod.mk.injEq] at H
      obtain ⟨rfl, rfl⟩ := H
      go_enter Tryd.func17, Tryd.ntmps17
      go_wp2_with (first | ((with_reducible refine gate_callee (f := 37) rfl ?_); refine goesL_ (some 15) rfl rfl Tryd.func37 (by kernel_rfl) rfl #[.string a0] rfl (by (try simp only [List.map_toArray, List.map_cons, List.map_nil]); first | done | rfl | (simp only [List.length_drop, List.length_take]; rfl)) ?_; (with_reducible refine (image_head.calls k a0 t325 t326 t327 t328 _ A3.out).mono ?_); rintro e w19 ⟨v329, v331, rfl, ho0, ho1, hb⟩; refine ⟨_, rfl, ?_⟩; have n0_ := Aside0.mk (Kd.R_lower ho0 (below_size (by repeat (first | (with_reducible first | exact HB.out | apply below_alloc | apply pw_below_drewN | apply below_drew1) | exact HB.out)))); have n1_ := Aside0.mk (Kd.R_lower ho1 (below_size (by repeat (first | (with_reducible first | exact HB.out | apply below_alloc | apply pw_below_drewN | apply below_drew1) | exact HB.out)))); have n2_ := Aside0.mk (below_step (by repeat (first | (with_reducible first | exact HB.out | apply below_alloc | apply pw_below_drewN | apply below_drew1) | exact HB.out)) hb); clear HB; have HO330 := n0_; have HO332 := n1_; have HB := n2_; clear n0_ n1_ n2_; (try clear hb); (try clear hb2); (try clear hk); (try clear hi); (try clear ho0); (try clear ho1)))
      go_ret2
      exact ⟨_, by first | rfl | (simp [errW_none, errW_some] <;> rfl) | (simp [*, errW_none, errW_some] <;> rfl), by first | exact Kd.R_nil _ _ _ _ _ | exact Kd.N_nil _ _ _ _ _ | exact Kd.V_nil _ _ _ _ _ | exact Kd.Q_nil _ _ _ _ _ | exact Kd.S_nil _ _ _ _ _, by repeat (first | (with_reducible first | exact HB.out | apply below_alloc | apply pw_below_drewN | apply below_drew1) | exact HB.out)⟩
end Go.Proofs.YtmeofdpmddjbgaaDoor.G
end
section
namespace Go.Proofs.YtmeofdpmddjbgaaDoor.G
open Go.RowKit Go.Proofs.YtmeofdpmddjbgaaDoorW.PrintWords Go.Proofs.YtmeofdpmddjbgaaDoorW.PrintLast Go.Proofs.YtmeofdpmddjbgaaDoorW.PrintMore
attribute [local go_sem] max2_int min2_int max_two min_two max_three min_three max_four min_four   -- for this text's walks alone
set_option linter.unusedVariables false
set_option linter.unusedSimpArgs false
def barqueref10_Tree.l0 : Nat → ByteArray → Int → List (S33) → Int → List (S75) → Int → Option ((List (S33)) × Int)
  | 0, _, _, _, _, _, _ => none
  | k + 1, x0, x6, x7, x8, x357000, x357001 => if x8 < (x357000.length : Int) then (if 0 ≤ x8 then (if ((rd_T75 x357000 x8).f1) > (wrap64 ((x0.size : Int) - x6)) then (some (([] : List (S33)), 3)) else (if 0 ≤ x6 then (if x6 ≤ (wrap64 (x6 + ((rd_T75 x357000 x8).f1))) then (if (wrap64 (x6 + ((rd_T75 x357000 x8).f1))) ≤ (x0.size : Int) then (if x7.length < 3518437208883 then (barqueref10_Tree.l0 k x0 (wrap64 (x6 + ((rd_T75 x357000 x8).f1))) (x7 ++ [(⟨(rd_T75 x357000 x8).f0.f0, (rd_T75 x357000 x8).f0.f1, x0.extract (x6 : Int).toNat ((wrap64 (x6 + ((rd_T75 x357000 x8).f1))) : Int).toNat⟩ : S33)]) (wrap64 (x8 + 1)) x357000 x357001) else (none)) else (none)) else (none)) else (none))) else (none)) else (if x6 < (x0.size : Int) then (some (([] : List (S33)), 4)) else (some (x7, 0)))
def barqueref10_Tree.f (k : Nat) (a0 : ByteArray) : Option ((List (S33)) × Int) := if (a0.size : Int) > 524288 then (some (([] : List (S33)), 4)) else ((barqueref10_Told.f k a0).bind fun bt351 => (if bt351.2.2 = 0 then (barqueref10_Tree.l0 k a0 bt351.2.1 ([] : List (S33)) 0 bt351.1 bt351.2.1) else (some (([] : List (S33)), bt351.2.2))))
theorem barqueref10_Tree.mono_l : ∀ k, (∀ y0 y1 y2 y3 y4 y5, LeO (barqueref10_Tree.l0 k y0 y1 y2 y3 y4 y5) (barqueref10_Tree.l0 (k + 1) y0 y1 y2 y3 y4 y5))
  | 0 => fun _ _ _ _ _ _ r h => by simp [barqueref10_Tree.l0] at h
  | k + 1 => by
    have ih0 := barqueref10_Tree.mono_l k
    · intro y0 y1 y2 y3 y4 y5
      unfold barqueref10_Tree.l0
      repeat' first
      | (with_reducible exact ih0 _ _ _ _ _ _)
      | (with_reducible exact barqueref10_Told.mono _ _)
      | (with_reducible exact LeO.refl _)
      | (with_reducible exact LeO.none _)
      | (with_reducible refine LeO.ite ?_ ?_)
      | (with_reducible refine LeO.bind ?_ (fun _ => ?_))
      | exact ih0 _ _ _ _ _ _
      | exact barqueref10_Told.mono _ _
      | exact LeO.none _
      | refine LeO.ite ?_ ?_
      | refine LeO.bind ?_ (fun _ => ?_)
theorem barqueref10_Tree.mono : ∀ a0 k, LeO (barqueref10_Tree.f k a0) (barqueref10_Tree.f (k + 1) a0) := by
  intro a0 k
  have ih0 := barqueref10_Tree.mono_l k
  unfold barqueref10_Tree.f
  repeat' first
      | (with_reducible exact ih0 _ _ _ _ _ _)
      | (with_reducible exact barqueref10_Told.mono _ _)
      | (with_reducible exact LeO.refl _)
      | (with_reducible exact LeO.none _)
      | (with_reducible refine LeO.ite ?_ ?_)
      | (with_reducible refine LeO.bind ?_ (fun _ => ?_))
      | exact ih0 _ _ _ _ _ _
      | exact barqueref10_Told.mono _ _
      | exact LeO.none _
      | refine LeO.ite ?_ ?_
      | refine LeO.bind ?_ (fun _ => ?_)
set_option maxHeartbeats 8000000 in
set_option maxRecDepth 100000 in
theorem barqueref10_Tree.calls (k : Nat) (a0 : ByteArray) (r1 : List (S33)) (r2 : Int) (w : World) (h : barqueref10_Tree.f k a0 = some (r1, r2)) :
    Calls Tryd.prog 18 #[.string a0] w fun e w' => ∃ v0_ : Value, e = .returned (.tuple #[v0_, .int .i64 r2]) ∧ Kd.R k33 33 w' w.heap.size (fun _ => True) v0_ r1 ∧ Below w.heap.size w w' := by
  have hu71 := Tryd.underlying71
  have hu75 := Tryd.underlying75
  have hu33 := Tryd.underlying33
  have HB := Aside0.mk (Below.refl w.heap.size w)
  have H : (if (a0.size : Int) > 524288 then (some (([] : List (S33)), 4)) else ((barqueref10_Told.f k a0).bind fun bt351 => (if bt351.2.2 = 0 then (barqueref10_Tree.l0 k a0 bt351.2.1 ([] : List (S33)) 0 bt351.1 bt351.2.1) else (some (([] : List (S33)), bt351.2.2))))) = some (r1, r2) := h
  clear h
  by_cases c2 : (a0.size : Int) > 524288
  · rw [if_pos c2] at H
    have c2b0 : decide (524288 < (a0.size : Int)) = true := decide_eq_true c2
    have c2b1 : decide (524288 < a0.size) = true := decide_eq_true (by omega)
    clear c2
    simp only [Option.some.injEq, Prod.mk.injEq] at H
    obtain ⟨rfl, rfl⟩ := H
    go_enter Tryd.func18, Tryd.ntmps18
    go_wp2
    go_ret2
    exact ⟨_, by first | rfl | (simp [errW_none, errW_some] <;> rfl) | (simp [*, errW_none, errW_some] <;> rfl), by first | exact Kd.R_nil _ _ _ _ _ | exact Kd.N_nil _ _ _ _ _ | exact Kd.V_nil _ _ _ _ _ | exact Kd.Q_nil _ _ _ _ _ | exact Kd.S_nil _ _ _ _ _, by repeat (first | (with_reducible first | exact HB.out | apply below_alloc | apply pw_below_drewN | apply below_drew1) | exact HB.out)⟩
  · rw [if_neg c2] at H
    have c2b0 : decide (524288 < (a0.size : Int)) = false := decide_eq_false c2
    have c2b1 : decide (524288 < a0.size) = false := decide_eq_false (by omega)
    clear c2
    replace H := Option.bind_eq_some_iff.mp H
    obtain ⟨⟨t351, t354, t355⟩, A30, H⟩ := H
    replace H : (if t355 = 0 then (barqueref10_Tree.l0 k a0 t354 ([] : List (S33)) 0 t351 t354) else (some (([] : List (S33)), t355))) = some (r1, r2) := H
    have A3 := Aside0.mk A30
    clear A30
    by_cases c4 : t355 = 0
    · rw [if_pos c4] at H
      have c4b0 : (t355 == 0) = true := beq_iff_eq.mpr c4
      have c4b1 : (t355 != 0) = false := bne_eq_false_iff_eq.mpr c4
      clear c4
      have H' := Aside0.mk H
      clear H
      go_enter Tryd.func18, Tryd.ntmps18
      go_wp2_with (first | ((with_reducible refine gate_callee (f := 38) rfl ?_); refine goesL_ (some 15) rfl rfl Tryd.func38 (by kernel_rfl) rfl #[.string a0] rfl (by (try simp only [List.map_toArray, List.map_cons, List.map_nil]); first | done | rfl | (simp only [List.length_drop, List.length_take]; rfl)) ?_; (with_reducible refine (barqueref10_Told.calls k a0 t351 t354 t355 _ A3.out).mono ?_); rintro e w5 ⟨v352, rfl, ho0, hb⟩; refine ⟨_, rfl, ?_⟩; have n0_ := Aside0.mk (Kd.R_lower ho0 (below_size (by repeat (first | (with_reducible first | exact HB.out | apply below_alloc | apply pw_below_drewN | apply below_drew1) | exact HB.out)))); have n1_ := Aside0.mk (below_step (by repeat (first | (with_reducible first | exact HB.out | apply below_alloc | apply pw_below_drewN | apply below_drew1) | exact HB.out)) hb); clear HB; have HO353 := n0_; have HB := n1_; clear n0_ n1_; (try clear hb); (try clear hb2); (try clear hk); (try clear hi); (try clear ho0)) | ((with_reducible refine gate_dst (N := 4) rfl ?_); refine box_event ?hg (N := 4) ?hd (cs := #[.slice none 0 0, .int .i64 0]) (t := 71) ?hr ?_; (case hd => rfl); (case hg => rfl); (case hr => first | (go_simp; done) | (go_simp; rfl)); intro gb356 hg w6 hbox hb; have n0_ := Aside0.mk (Kd.R_below (by (with_reducible repeat (first | apply Kd.R_alloc | apply Kd.R_drewN | apply Kd.R_drew)); exact HO353.out) hb); have n1_ := Aside0.mk (below_step (by repeat (first | (with_reducible first | exact HB.out | apply below_alloc | apply pw_below_drewN | apply below_drew1) | exact HB.out)) hb); have n2_ := Aside0.mk (hbox); have n3_ := Aside0.mk ((by rw [hg]; exact (below_size (by repeat (first | (with_reducible first | exact HB.out | apply below_alloc | apply pw_below_drewN | apply below_drew1) | exact HB.out))) : w.heap.size ≤ gb356)); have n4_ := Aside0.mk ((by rw [hg]; exact (below_size (by repeat (first | (with_reducible first | exact HB.out | apply below_alloc | apply pw_below_drewN | apply below_drew1) | exact HB.out))) : w.heap.size ≤ gb356)); clear HO353; clear HB; have HO353 := n0_; have HB := n1_; have BK356 := n2_; have GW356 := n3_; have GE356 := n4_; clear n0_ n1_ n2_ n3_ n4_; clear hb hbox hg; obtain ⟨Ao7, co7, eo7⟩ := Kd.R_slice HO353.out; subst eo7; have hcz8_0 : w6.cell? ⟨gb356, 0, none⟩ = some (.slice none 0 0) := (blk_cell BK356.out 0).trans rfl; have hcz8_1 : w6.cell? ⟨gb356, 1, none⟩ = some (.int .i64 0) := (blk_cell BK356.out 1).trans rfl; have hfz8_0 := blk_frozen BK356.out 0; have hfz8_1 := blk_frozen BK356.out 1))
      go_loopg [6, 7, 8] k (fun kq v6 v7 v8 w' => ∃ (x6_1 : Int) (x7_1 : List (S33)) (x8_1 : Int), v6 = .int .i64 x6_1 ∧ v8 = .int .i64 x8_1 ∧ Aside0 (barqueref10_Tree.l0 kq a0 x6_1 x7_1 x8_1 t351 t354 = some (r1, r2)) ∧ Aside0 (kq ≤ k) ∧ Aside0 (Kd.R k33 33 w' w.heap.size (fun _ => True) v7 x7_1) ∧ Aside0 (Kd.R k75 75 w' w.heap.size (fun _ => True) (.slice Ao7 t351.length co7) t351) ∧ Aside0 (w'.heap[gb356]? = some (.cells #[(.slice Ao7 t351.length co7), .int .i64 t354] 71 (0, 0))) ∧ Aside0 (Below w.heap.size w w'))
      case atStart => exact ⟨(t354), (([] : List (S33))), (0), (by first | rfl | (simp; done) | (simp [*]; done)), (by first | rfl | (simp; done) | (simp [*]; done)), H', ⟨Nat.le_refl _⟩, ⟨by first | exact Kd.R_nil _ _ _ _ _ | exact Kd.N_nil _ _ _ _ _ | exact Kd.V_nil _ _ _ _ _ | exact Kd.Q_nil _ _ _ _ _ | exact Kd.S_nil _ _ _ _ _⟩, ⟨by (with_reducible repeat (first | apply Kd.R_alloc | apply Kd.R_drewN | apply Kd.R_drew)); exact Kd.R_mono (Kd.R_far (p := ⟨gb356, 1, none⟩) (Kd.R_far (p := ⟨gb356, 0, none⟩) (Kd.R_types HO353.out BK356.out (by decide)) (fun _ hk => hk.2) (.slice Ao7 t351.length co7)) (fun _ hk => hk.2) (.int .i64 t354)) (fun _ hk => trivial)⟩, ⟨by (with_reducible repeat (first | refine blk_drewN ?_ _ | refine blk_drew ?_ | refine blk_alloc ?_ _)); refine blk_put (cs := #[.slice Ao7 t351.length co7, .int .i64 0]) ?_ 1 _ rfl; (with_reducible repeat (first | refine blk_drewN ?_ _ | refine blk_drew ?_ | refine blk_alloc ?_ _)); refine blk_put (cs := #[.slice none 0 0, .int .i64 0]) ?_ 0 _ rfl; (with_reducible repeat (first | refine blk_drewN ?_ _ | refine blk_drew ?_ | refine blk_alloc ?_ _)); exact BK356.out⟩, ⟨by repeat (first | (with_reducible first | exact HB.out | apply below_alloc | apply pw_below_drewN | apply below_drew1 | refine below_set ?_ GE356.out) | exact HB.out)⟩⟩
      case round =>
        clear H'
        try clear c1
        try clear c2
        try clear c2b0
        try clear c2b1
        try clear p2
        try clear c3
        try clear c4
        try clear c4b0
        try clear c4b1
        try clear hcz8_0
        try clear hcz8_1
        try clear hfz8_0
        try clear hfz8_1
        obtain ⟨x6_1, x7_1, x8_1, rfl, rfl, HA, HK1, HO_7, HO_357000, BK356, HB⟩ := hrel
        cases gk with
        | zero => exact absurd HA.out (by simp [barqueref10_Tree.l0])
        | succ k1 =>
          have H := HA.out
          clear HA
          simp only [barqueref10_Tree.l0] at H
          by_cases c9 : x8_1 < (t351.length : Int)
          · rw [if_pos c9] at H
            have c9b0 : decide (x8_1 < (t351.length : Int)) = true := decide_eq_true c9
            clear c9
            by_cases c10 : 0 ≤ x8_1
            · rw [if_pos c10] at H
              have c10b0 : decide (0 ≤ x8_1) = true := decide_eq_true c10
              clear c10
              by_cases c11 : ((rd_T75 t351 x8_1).f1) > (wrap64 ((a0.size : Int) - x6_1))
              · rw [if_pos c11] at H
                have c11b0 : decide ((wrap64 ((a0.size : Int) - x6_1)) < ((rd_T75 t351 x8_1).f1)) = true := decide_eq_true c11
                clear c11
                simp only [Option.some.injEq, Prod.mk.injEq] at H
                obtain ⟨rfl, rfl⟩ := H
                have hcz12_0 : wr.cell? ⟨gb356, 0, none⟩ = some (.slice Ao7 t351.length co7) := (blk_cell BK356.out 0).trans rfl
                have hcz12_1 : wr.cell? ⟨gb356, 1, none⟩ = some (.int .i64 t354) := (blk_cell BK356.out 1).trans rfl
                have hfz12_0 := blk_frozen BK356.out 0
                have hfz12_1 := blk_frozen BK356.out 1
                have p357 : 0 ≤ (x8_1 : Int) := of_decide_eq_true (by first | (with_reducible assumption) | assumption)
                have q357 : x8_1 < (t351.length : Int) := of_decide_eq_true (by first | (with_reducible assumption) | assumption)
                obtain ⟨ad357, e357, hx357_0, hx357_1, hx357_2, hx357_3⟩ := at_T75 (Kd.R_reads' HO_357000.out).2.2 x8_1 p357 q357
                cases e357
                replace p357 := eq_true p357
                replace q357 := eq_true q357
                go_wp2_with (first | ((with_reducible refine gate_dst (N := 9) rfl ?_); refine box_event ?hg (N := 9) ?hd (cs := #[.string (⟨#[]⟩ : ByteArray), .int .i64 0, .string (⟨#[]⟩ : ByteArray), .int .i64 0]) (t := 75) ?hr ?_; (case hd => rfl); (case hg => rfl); (case hr => first | (go_simp; done) | (go_simp; rfl)); intro gb358 hg w13 hbox hb; have n0_ := Aside0.mk (Kd.R_below (by (with_reducible repeat (first | apply Kd.R_alloc | apply Kd.R_drewN | apply Kd.R_drew)); exact HO_7.out) hb); have n1_ := Aside0.mk (Kd.R_below (Kd.R_elderB (by (with_reducible repeat (first | apply Kd.R_alloc | apply Kd.R_drewN | apply Kd.R_drew)); exact HO_357000.out) gb358 (Nat.le_of_eq hg.symm)) hb); have n2_ := Aside0.mk (blk_below (g := gb356) (o := .cells #[.slice (some ad357) t351.length co7, .int .i64 t354] 71 (0, 0)) (by (with_reducible repeat (first | refine blk_drewN ?_ _ | refine blk_drew ?_ | refine blk_alloc ?_ _)); exact BK356.out) hb); have n3_ := Aside0.mk (below_step (by repeat (first | (with_reducible first | exact HB.out | apply below_alloc | apply pw_below_drewN | apply below_drew1 | refine below_set ?_ GE356.out) | exact HB.out)) hb); have n4_ := Aside0.mk (hbox); have n5_ := Aside0.mk ((by rw [hg]; exact (below_size (by repeat (first | (with_reducible first | exact HB.out | apply below_alloc | apply pw_below_drewN | apply below_drew1 | refine below_set ?_ GE356.out) | exact HB.out))) : w.heap.size ≤ gb358)); have n6_ := Aside0.mk ((by rw [hg]; exact (below_size (by repeat (first | (with_reducible first | exact HB.out | apply below_alloc | apply pw_below_drewN | apply below_drew1 | refine below_set ?_ GE356.out) | exact HB.out))) : w.heap.size ≤ gb358)); have n7_ := Aside0.mk ((by rw [hg]; exact Nat.ne_of_lt (blk_lt (g := gb356) (o := .cells #[.slice (some ad357) t351.length co7, .int .i64 t354] 71 (0, 0)) (by (with_reducible repeat (first | refine blk_drewN ?_ _ | refine blk_drew ?_ | refine blk_alloc ?_ _)); exact BK356.out)) : gb356 ≠ gb358)); have n8_ := Aside0.mk ((by rw [hg]; exact Nat.ne_of_gt (blk_lt (g := gb356) (o := .cells #[.slice (some ad357) t351.length co7, .int .i64 t354] 71 (0, 0)) (by (with_reducible repeat (first | refine blk_drewN ?_ _ | refine blk_drew ?_ | refine blk_alloc ?_ _)); exact BK356.out)) : gb358 ≠ gb356)); clear HO_7; clear HO_357000; clear BK356; clear HB; have HO_7 := n0_; have HO_357000 := n1_; have BK356 := n2_; have HB := n3_; have BK358 := n4_; have GW358 := n5_; have GE358 := n6_; have NB356_358 := n7_; have NB358_356 := n8_; clear n0_ n1_ n2_ n3_ n4_ n5_ n6_ n7_ n8_; clear hb hbox hg; have hnb14 := NB358_356.out; have hnc14 := NB356_358.out; have hcz15_0 : w13.cell? ⟨gb358, 0, none⟩ = some (.string (⟨#[]⟩ : ByteArray)) := (blk_cell BK358.out 0).trans rfl; have hcz15_1 : w13.cell? ⟨gb358, 1, none⟩ = some (.int .i64 0) := (blk_cell BK358.out 1).trans rfl; have hcz15_2 : w13.cell? ⟨gb358, 2, none⟩ = some (.string (⟨#[]⟩ : ByteArray)) := (blk_cell BK358.out 2).trans rfl; have hcz15_3 : w13.cell? ⟨gb358, 3, none⟩ = some (.int .i64 0) := (blk_cell BK358.out 3).trans rfl; have hfz15_0 := blk_frozen BK358.out 0; have hfz15_1 := blk_frozen BK358.out 1; have hfz15_2 := blk_frozen BK358.out 2; have hfz15_3 := blk_frozen BK358.out 3; have hq40_ : ∀ (a_ b_ c_ d_ : Value), ((((w13.setCell ⟨gb358, 0, none⟩ a_).setCell ⟨gb358, 1, none⟩ b_).setCell ⟨gb358, 2, none⟩ c_).setCell ⟨gb358, 3, none⟩ d_).cell? ⟨gb358, 0, none⟩ = some a_ := fun a_ b_ c_ d_ => (blk_cell (blk_put (blk_put (blk_put (blk_put BK358.out 0 a_ rfl) 1 b_ rfl) 2 c_ rfl) 3 d_ rfl) 0).trans rfl; have hq41_ : ∀ (a_ b_ c_ d_ : Value), ((((w13.setCell ⟨gb358, 0, none⟩ a_).setCell ⟨gb358, 1, none⟩ b_).setCell ⟨gb358, 2, none⟩ c_).setCell ⟨gb358, 3, none⟩ d_).cell? ⟨gb358, 1, none⟩ = some b_ := fun a_ b_ c_ d_ => (blk_cell (blk_put (blk_put (blk_put (blk_put BK358.out 0 a_ rfl) 1 b_ rfl) 2 c_ rfl) 3 d_ rfl) 1).trans rfl; have hq42_ : ∀ (a_ b_ c_ d_ : Value), ((((w13.setCell ⟨gb358, 0, none⟩ a_).setCell ⟨gb358, 1, none⟩ b_).setCell ⟨gb358, 2, none⟩ c_).setCell ⟨gb358, 3, none⟩ d_).cell? ⟨gb358, 2, none⟩ = some c_ := fun a_ b_ c_ d_ => (blk_cell (blk_put (blk_put (blk_put (blk_put BK358.out 0 a_ rfl) 1 b_ rfl) 2 c_ rfl) 3 d_ rfl) 2).trans rfl; have hq43_ : ∀ (a_ b_ c_ d_ : Value), ((((w13.setCell ⟨gb358, 0, none⟩ a_).setCell ⟨gb358, 1, none⟩ b_).setCell ⟨gb358, 2, none⟩ c_).setCell ⟨gb358, 3, none⟩ d_).cell? ⟨gb358, 3, none⟩ = some d_ := fun a_ b_ c_ d_ => (blk_cell (blk_put (blk_put (blk_put (blk_put BK358.out 0 a_ rfl) 1 b_ rfl) 2 c_ rfl) 3 d_ rfl) 3).trans rfl; have hqf4_ : ∀ (a_ b_ c_ d_ : Value), ((((w13.setCell ⟨gb358, 0, none⟩ a_).setCell ⟨gb358, 1, none⟩ b_).setCell ⟨gb358, 2, none⟩ c_).setCell ⟨gb358, 3, none⟩ d_).frozen? ⟨gb358, 2, none⟩ = false := fun a_ b_ c_ d_ => blk_frozen (blk_put (blk_put (blk_put (blk_put BK358.out 0 a_ rfl) 1 b_ rfl) 2 c_ rfl) 3 d_ rfl) 2; have hq50_ : ∀ (a_ b_ c_ d_ e_ : Value), (((((w13.setCell ⟨gb358, 0, none⟩ a_).setCell ⟨gb358, 1, none⟩ b_).setCell ⟨gb358, 2, none⟩ c_).setCell ⟨gb358, 3, none⟩ d_).setCell ⟨gb358, 2, none⟩ e_).cell? ⟨gb358, 0, none⟩ = some a_ := fun a_ b_ c_ d_ e_ => (blk_cell (blk_put (blk_put (blk_put (blk_put (blk_put BK358.out 0 a_ rfl) 1 b_ rfl) 2 c_ rfl) 3 d_ rfl) 2 e_ rfl) 0).trans rfl; have hq51_ : ∀ (a_ b_ c_ d_ e_ : Value), (((((w13.setCell ⟨gb358, 0, none⟩ a_).setCell ⟨gb358, 1, none⟩ b_).setCell ⟨gb358, 2, none⟩ c_).setCell ⟨gb358, 3, none⟩ d_).setCell ⟨gb358, 2, none⟩ e_).cell? ⟨gb358, 1, none⟩ = some b_ := fun a_ b_ c_ d_ e_ => (blk_cell (blk_put (blk_put (blk_put (blk_put (blk_put BK358.out 0 a_ rfl) 1 b_ rfl) 2 c_ rfl) 3 d_ rfl) 2 e_ rfl) 1).trans rfl; have hq52_ : ∀ (a_ b_ c_ d_ e_ : Value), (((((w13.setCell ⟨gb358, 0, none⟩ a_).setCell ⟨gb358, 1, none⟩ b_).setCell ⟨gb358, 2, none⟩ c_).setCell ⟨gb358, 3, none⟩ d_).setCell ⟨gb358, 2, none⟩ e_).cell? ⟨gb358, 2, none⟩ = some e_ := fun a_ b_ c_ d_ e_ => (blk_cell (blk_put (blk_put (blk_put (blk_put (blk_put BK358.out 0 a_ rfl) 1 b_ rfl) 2 c_ rfl) 3 d_ rfl) 2 e_ rfl) 2).trans rfl; have hq53_ : ∀ (a_ b_ c_ d_ e_ : Value), (((((w13.setCell ⟨gb358, 0, none⟩ a_).setCell ⟨gb358, 1, none⟩ b_).setCell ⟨gb358, 2, none⟩ c_).setCell ⟨gb358, 3, none⟩ d_).setCell ⟨gb358, 2, none⟩ e_).cell? ⟨gb358, 3, none⟩ = some d_ := fun a_ b_ c_ d_ e_ => (blk_cell (blk_put (blk_put (blk_put (blk_put (blk_put BK358.out 0 a_ rfl) 1 b_ rfl) 2 c_ rfl) 3 d_ rfl) 2 e_ rfl) 3).trans rfl; have hqf5_ : ∀ (a_ b_ c_ d_ e_ : Value), (((((w13.setCell ⟨gb358, 0, none⟩ a_).setCell ⟨gb358, 1, none⟩ b_).setCell ⟨gb358, 2, none⟩ c_).setCell ⟨gb358, 3, none⟩ d_).setCell ⟨gb358, 2, none⟩ e_).frozen? ⟨gb358, 2, none⟩ = false := fun a_ b_ c_ d_ e_ => blk_frozen (blk_put (blk_put (blk_put (blk_put (blk_put BK358.out 0 a_ rfl) 1 b_ rfl) 2 c_ rfl) 3 d_ rfl) 2 e_ rfl) 2))
                go_ret2
                exact ⟨_, by first | rfl | (simp [errW_none, errW_some] <;> rfl) | (simp [*, errW_none, errW_some] <;> rfl), by first | exact Kd.R_nil _ _ _ _ _ | exact Kd.N_nil _ _ _ _ _ | exact Kd.V_nil _ _ _ _ _ | exact Kd.Q_nil _ _ _ _ _ | exact Kd.S_nil _ _ _ _ _, by repeat (first | (with_reducible first | exact HB.out | apply below_alloc | apply pw_below_drewN | apply below_drew1 | refine below_set ?_ GE356.out | refine below_set ?_ GE358.out) | exact HB.out)⟩
              · rw [if_neg c11] at H
                have c11b0 : decide ((wrap64 ((a0.size : Int) - x6_1)) < ((rd_T75 t351 x8_1).f1)) = false := decide_eq_false c11
                clear c11
                by_cases c16 : 0 ≤ x6_1
                · rw [if_pos c16] at H
                  have c16b0 := eq_true c16
                  have c16b1 : decide (0 ≤ x6_1) = true := decide_eq_true c16
                  clear c16
                  by_cases c17 : x6_1 ≤ (wrap64 (x6_1 + ((rd_T75 t351 x8_1).f1)))
                  · rw [if_pos c17] at H
                    have c17b0 := eq_true c17
                    have c17b1 : decide (x6_1 ≤ (wrap64 (x6_1 + ((rd_T75 t351 x8_1).f1)))) = true := decide_eq_true c17
                    by_cases c18 : (wrap64 (x6_1 + ((rd_T75 t351 x8_1).f1))) ≤ (a0.size : Int)
                    · rw [if_pos c18] at H
                      have c18b0 := eq_true c18
                      have c18b1 : decide ((wrap64 (x6_1 + ((rd_T75 t351 x8_1).f1))) ≤ (a0.size : Int)) = true := decide_eq_true c18
                      by_cases c19 : x7_1.length < 3518437208883
                      · rw [if_pos c19] at H
                        have LMc19 := Aside0.mk c19
                        clear c19
                        obtain ⟨y359, hy359⟩ : ∃ y_ : List (S33), y_ = (x7_1 ++ [(⟨(rd_T75 t351 x8_1).f0.f0, (rd_T75 t351 x8_1).f0.f1, a0.extract (x6_1 : Int).toNat ((wrap64 (x6_1 + ((rd_T75 t351 x8_1).f1))) : Int).toNat⟩ : S33)]) := ⟨_, rfl⟩
                        replace H : (barqueref10_Tree.l0 k1 a0 (wrap64 (x6_1 + ((rd_T75 t351 x8_1).f1))) y359 (wrap64 (x8_1 + 1)) t351 t354) = some (r1, r2) := by first | (rw [hy359]; with_reducible exact H) | (have H2_ := (Option.bind_some _ _).symm.trans H; rw [hy359]; with_reducible exact H2_) | (have H2_ := (Option.bind_some _ _).symm.trans H; with_reducible exact H2_) | with_reducible exact H | (rw [hy359]; exact H) | exact H
                        have Ny359 := Aside0.mk hy359
                        clear hy359
                        have H' := Aside0.mk H
                        clear H
                        have hcz20_0 : wr.cell? ⟨gb356, 0, none⟩ = some (.slice Ao7 t351.length co7) := (blk_cell BK356.out 0).trans rfl
                        have hcz20_1 : wr.cell? ⟨gb356, 1, none⟩ = some (.int .i64 t354) := (blk_cell BK356.out 1).trans rfl
                        have hfz20_0 := blk_frozen BK356.out 0
                        have hfz20_1 := blk_frozen BK356.out 1
                        have p357 : 0 ≤ (x8_1 : Int) := of_decide_eq_true (by first | (with_reducible assumption) | assumption)
                        have q357 : x8_1 < (t351.length : Int) := of_decide_eq_true (by first | (with_reducible assumption) | assumption)
                        obtain ⟨ad357, e357, hx357_0, hx357_1, hx357_2, hx357_3⟩ := at_T75 (Kd.R_reads' HO_357000.out).2.2 x8_1 p357 q357
                        cases e357
                        replace p357 := eq_true p357
                        replace q357 := eq_true q357
                        go_wp2_with (first | ((with_reducible refine gate_dst (N := 9) rfl ?_); refine box_event ?hg (N := 9) ?hd (cs := #[.string (⟨#[]⟩ : ByteArray), .int .i64 0, .string (⟨#[]⟩ : ByteArray), .int .i64 0]) (t := 75) ?hr ?_; (case hd => rfl); (case hg => rfl); (case hr => first | (go_simp; done) | (go_simp; rfl)); intro gb358 hg w21 hbox hb; have n0_ := Aside0.mk (Kd.R_below (by (with_reducible repeat (first | apply Kd.R_alloc | apply Kd.R_drewN | apply Kd.R_drew)); exact HO_7.out) hb); have n1_ := Aside0.mk (Kd.R_below (Kd.R_elderB (by (with_reducible repeat (first | apply Kd.R_alloc | apply Kd.R_drewN | apply Kd.R_drew)); exact HO_357000.out) gb358 (Nat.le_of_eq hg.symm)) hb); have n2_ := Aside0.mk (blk_below (g := gb356) (o := .cells #[.slice (some ad357) t351.length co7, .int .i64 t354] 71 (0, 0)) (by (with_reducible repeat (first | refine blk_drewN ?_ _ | refine blk_drew ?_ | refine blk_alloc ?_ _)); exact BK356.out) hb); have n3_ := Aside0.mk (below_step (by repeat (first | (with_reducible first | exact HB.out | apply below_alloc | apply pw_below_drewN | apply below_drew1 | refine below_set ?_ GE356.out) | exact HB.out)) hb); have n4_ := Aside0.mk (hbox); have n5_ := Aside0.mk ((by rw [hg]; exact (below_size (by repeat (first | (with_reducible first | exact HB.out | apply below_alloc | apply pw_below_drewN | apply below_drew1 | refine below_set ?_ GE356.out) | exact HB.out))) : w.heap.size ≤ gb358)); have n6_ := Aside0.mk ((by rw [hg]; exact (below_size (by repeat (first | (with_reducible first | exact HB.out | apply below_alloc | apply pw_below_drewN | apply below_drew1 | refine below_set ?_ GE356.out) | exact HB.out))) : w.heap.size ≤ gb358)); have n7_ := Aside0.mk ((by rw [hg]; exact Nat.ne_of_lt (blk_lt (g := gb356) (o := .cells #[.slice (some ad357) t351.length co7, .int .i64 t354] 71 (0, 0)) (by (with_reducible repeat (first | refine blk_drewN ?_ _ | refine blk_drew ?_ | refine blk_alloc ?_ _)); exact BK356.out)) : gb356 ≠ gb358)); have n8_ := Aside0.mk ((by rw [hg]; exact Nat.ne_of_gt (blk_lt (g := gb356) (o := .cells #[.slice (some ad357) t351.length co7, .int .i64 t354] 71 (0, 0)) (by (with_reducible repeat (first | refine blk_drewN ?_ _ | refine blk_drew ?_ | refine blk_alloc ?_ _)); exact BK356.out)) : gb358 ≠ gb356)); clear HO_7; clear HO_357000; clear BK356; clear HB; have HO_7 := n0_; have HO_357000 := n1_; have BK356 := n2_; have HB := n3_; have BK358 := n4_; have GW358 := n5_; have GE358 := n6_; have NB356_358 := n7_; have NB358_356 := n8_; clear n0_ n1_ n2_ n3_ n4_ n5_ n6_ n7_ n8_; clear hb hbox hg; have hnb22 := NB358_356.out; have hnc22 := NB356_358.out; have hcz23_0 : w21.cell? ⟨gb358, 0, none⟩ = some (.string (⟨#[]⟩ : ByteArray)) := (blk_cell BK358.out 0).trans rfl; have hcz23_1 : w21.cell? ⟨gb358, 1, none⟩ = some (.int .i64 0) := (blk_cell BK358.out 1).trans rfl; have hcz23_2 : w21.cell? ⟨gb358, 2, none⟩ = some (.string (⟨#[]⟩ : ByteArray)) := (blk_cell BK358.out 2).trans rfl; have hcz23_3 : w21.cell? ⟨gb358, 3, none⟩ = some (.int .i64 0) := (blk_cell BK358.out 3).trans rfl; have hfz23_0 := blk_frozen BK358.out 0; have hfz23_1 := blk_frozen BK358.out 1; have hfz23_2 := blk_frozen BK358.out 2; have hfz23_3 := blk_frozen BK358.out 3; have hq40_ : ∀ (a_ b_ c_ d_ : Value), ((((w21.setCell ⟨gb358, 0, none⟩ a_).setCell ⟨gb358, 1, none⟩ b_).setCell ⟨gb358, 2, none⟩ c_).setCell ⟨gb358, 3, none⟩ d_).cell? ⟨gb358, 0, none⟩ = some a_ := fun a_ b_ c_ d_ => (blk_cell (blk_put (blk_put (blk_put (blk_put BK358.out 0 a_ rfl) 1 b_ rfl) 2 c_ rfl) 3 d_ rfl) 0).trans rfl; have hq41_ : ∀ (a_ b_ c_ d_ : Value), ((((w21.setCell ⟨gb358, 0, none⟩ a_).setCell ⟨gb358, 1, none⟩ b_).setCell ⟨gb358, 2, none⟩ c_).setCell ⟨gb358, 3, none⟩ d_).cell? ⟨gb358, 1, none⟩ = some b_ := fun a_ b_ c_ d_ => (blk_cell (blk_put (blk_put (blk_put (blk_put BK358.out 0 a_ rfl) 1 b_ rfl) 2 c_ rfl) 3 d_ rfl) 1).trans rfl; have hq42_ : ∀ (a_ b_ c_ d_ : Value), ((((w21.setCell ⟨gb358, 0, none⟩ a_).setCell ⟨gb358, 1, none⟩ b_).setCell ⟨gb358, 2, none⟩ c_).setCell ⟨gb358, 3, none⟩ d_).cell? ⟨gb358, 2, none⟩ = some c_ := fun a_ b_ c_ d_ => (blk_cell (blk_put (blk_put (blk_put (blk_put BK358.out 0 a_ rfl) 1 b_ rfl) 2 c_ rfl) 3 d_ rfl) 2).trans rfl; have hq43_ : ∀ (a_ b_ c_ d_ : Value), ((((w21.setCell ⟨gb358, 0, none⟩ a_).setCell ⟨gb358, 1, none⟩ b_).setCell ⟨gb358, 2, none⟩ c_).setCell ⟨gb358, 3, none⟩ d_).cell? ⟨gb358, 3, none⟩ = some d_ := fun a_ b_ c_ d_ => (blk_cell (blk_put (blk_put (blk_put (blk_put BK358.out 0 a_ rfl) 1 b_ rfl) 2 c_ rfl) 3 d_ rfl) 3).trans rfl; have hqf4_ : ∀ (a_ b_ c_ d_ : Value), ((((w21.setCell ⟨gb358, 0, none⟩ a_).setCell ⟨gb358, 1, none⟩ b_).setCell ⟨gb358, 2, none⟩ c_).setCell ⟨gb358, 3, none⟩ d_).frozen? ⟨gb358, 2, none⟩ = false := fun a_ b_ c_ d_ => blk_frozen (blk_put (blk_put (blk_put (blk_put BK358.out 0 a_ rfl) 1 b_ rfl) 2 c_ rfl) 3 d_ rfl) 2; have hq50_ : ∀ (a_ b_ c_ d_ e_ : Value), (((((w21.setCell ⟨gb358, 0, none⟩ a_).setCell ⟨gb358, 1, none⟩ b_).setCell ⟨gb358, 2, none⟩ c_).setCell ⟨gb358, 3, none⟩ d_).setCell ⟨gb358, 2, none⟩ e_).cell? ⟨gb358, 0, none⟩ = some a_ := fun a_ b_ c_ d_ e_ => (blk_cell (blk_put (blk_put (blk_put (blk_put (blk_put BK358.out 0 a_ rfl) 1 b_ rfl) 2 c_ rfl) 3 d_ rfl) 2 e_ rfl) 0).trans rfl; have hq51_ : ∀ (a_ b_ c_ d_ e_ : Value), (((((w21.setCell ⟨gb358, 0, none⟩ a_).setCell ⟨gb358, 1, none⟩ b_).setCell ⟨gb358, 2, none⟩ c_).setCell ⟨gb358, 3, none⟩ d_).setCell ⟨gb358, 2, none⟩ e_).cell? ⟨gb358, 1, none⟩ = some b_ := fun a_ b_ c_ d_ e_ => (blk_cell (blk_put (blk_put (blk_put (blk_put (blk_put BK358.out 0 a_ rfl) 1 b_ rfl) 2 c_ rfl) 3 d_ rfl) 2 e_ rfl) 1).trans rfl; have hq52_ : ∀ (a_ b_ c_ d_ e_ : Value), (((((w21.setCell ⟨gb358, 0, none⟩ a_).setCell ⟨gb358, 1, none⟩ b_).setCell ⟨gb358, 2, none⟩ c_).setCell ⟨gb358, 3, none⟩ d_).setCell ⟨gb358, 2, none⟩ e_).cell? ⟨gb358, 2, none⟩ = some e_ := fun a_ b_ c_ d_ e_ => (blk_cell (blk_put (blk_put (blk_put (blk_put (blk_put BK358.out 0 a_ rfl) 1 b_ rfl) 2 c_ rfl) 3 d_ rfl) 2 e_ rfl) 2).trans rfl; have hq53_ : ∀ (a_ b_ c_ d_ e_ : Value), (((((w21.setCell ⟨gb358, 0, none⟩ a_).setCell ⟨gb358, 1, none⟩ b_).setCell ⟨gb358, 2, none⟩ c_).setCell ⟨gb358, 3, none⟩ d_).setCell ⟨gb358, 2, none⟩ e_).cell? ⟨gb358, 3, none⟩ = some d_ := fun a_ b_ c_ d_ e_ => (blk_cell (blk_put (blk_put (blk_put (blk_put (blk_put BK358.out 0 a_ rfl) 1 b_ rfl) 2 c_ rfl) 3 d_ rfl) 2 e_ rfl) 3).trans rfl; have hqf5_ : ∀ (a_ b_ c_ d_ e_ : Value), (((((w21.setCell ⟨gb358, 0, none⟩ a_).setCell ⟨gb358, 1, none⟩ b_).setCell ⟨gb358, 2, none⟩ c_).setCell ⟨gb358, 3, none⟩ d_).setCell ⟨gb358, 2, none⟩ e_).frozen? ⟨gb358, 2, none⟩ = false := fun a_ b_ c_ d_ e_ => blk_frozen (blk_put (blk_put (blk_put (blk_put (blk_put BK358.out 0 a_ rfl) 1 b_ rfl) 2 c_ rfl) 3 d_ rfl) 2 e_ rfl) 2) | ((with_reducible refine gate_builtin (b := .append) (xs := #[.tmp 51, .tmp 54]) rfl ?_); at_builtin; refine Kd.R_append k33 (w0 := w) w.heap.size rfl (.tmp 51) (.tmp 54) 22 33 (.agg #[(.string ⟨#[]⟩), (.int .i64 0), (.string ⟨#[]⟩)]) 40 rfl Tryd.underlying22 info33 rfl (by decide) (by omega) u7 x7_1 (⟨(rd_T75 t351 x8_1).f0.f0, (rd_T75 t351 x8_1).f0.f1, a0.extract (x6_1 : Int).toNat ((wrap64 (x6_1 + ((rd_T75 t351 x8_1).f1))) : Int).toNat⟩ : S33) [.string ((rd_T75 t351 x8_1).f0.f0), .int .i64 ((rd_T75 t351 x8_1).f0.f1), .string (a0.extract (x6_1 : Int).toNat ((wrap64 (x6_1 + ((rd_T75 t351 x8_1).f1))) : Int).toNat)] (fun _ => True) (fun _ => False) rfl (by first | (go_simp; done) | (go_simp; rfl)) ?aP (fun _ hk => hk.elim) ?aF ?aO ?aB ?aS ?aL ?_; (case aP => exact k33_mkM _ _ _ (⟨(rd_T75 t351 x8_1).f0.f0, (rd_T75 t351 x8_1).f0.f1, a0.extract (x6_1 : Int).toNat ((wrap64 (x6_1 + ((rd_T75 t351 x8_1).f1))) : Int).toNat⟩ : S33)); (case aB => exact (by repeat (first | (with_reducible first | exact HB.out | apply below_alloc | apply pw_below_drewN | apply below_drew1 | refine below_set ?_ GE356.out | refine below_set ?_ GE358.out) | exact HB.out))); (case aF => exact (fun _ _ => trivial)); (case aO => exact (by (with_reducible repeat (first | apply Kd.R_alloc | apply Kd.R_drewN | apply Kd.R_drew)); exact Kd.R_mono (Kd.R_far (p := ⟨gb358, 2, none⟩) (Kd.R_far (p := ⟨gb358, 3, none⟩) (Kd.R_far (p := ⟨gb358, 2, none⟩) (Kd.R_far (p := ⟨gb358, 1, none⟩) (Kd.R_far (p := ⟨gb358, 0, none⟩) (Kd.R_types HO_7.out BK358.out (by decide)) (fun _ hk => hk.2) (.string ((rd_T75 t351 x8_1).f0.f0))) (fun _ hk => hk.2) (.int .i64 ((rd_T75 t351 x8_1).f0.f1))) (fun _ hk => hk.2) (.string ((rd_T75 t351 x8_1).f0.f2))) (fun _ hk => hk.2) (.int .i64 ((rd_T75 t351 x8_1).f1))) (fun _ hk => hk.2) (.string (a0.extract (x6_1 : Int).toNat ((wrap64 (x6_1 + ((rd_T75 t351 x8_1).f1))) : Int).toNat))) (fun _ hk => trivial))); (case aS => exact (below_size (by repeat (first | (with_reducible first | exact HB.out | apply below_alloc | apply pw_below_drewN | apply below_drew1 | refine below_set ?_ GE356.out | refine below_set ?_ GE358.out) | exact HB.out)))); (case aL => have := LMc19.out; omega); intro v360 w24 ho hb hg hat; rw [← Ny359.out] at ho; have n0_ := Aside0.mk (Kd.R_over' (by (with_reducible repeat (first | apply Kd.R_alloc | apply Kd.R_drewN | apply Kd.R_drew)); exact (Kd.R_mono (Kd.R_far (p := ⟨gb358, 2, none⟩) (Kd.R_far (p := ⟨gb358, 3, none⟩) (Kd.R_far (p := ⟨gb358, 2, none⟩) (Kd.R_far (p := ⟨gb358, 1, none⟩) (Kd.R_far (p := ⟨gb358, 0, none⟩) (Kd.R_mono HO_357000.out (fun k_ hk => (⟨hk, hk.2⟩ : _ ∧ k_ ≠ gb358))) (fun _ hk => hk.2) (.string ((rd_T75 t351 x8_1).f0.f0))) (fun _ hk => hk.2) (.int .i64 ((rd_T75 t351 x8_1).f0.f1))) (fun _ hk => hk.2) (.string ((rd_T75 t351 x8_1).f0.f2))) (fun _ hk => hk.2) (.int .i64 ((rd_T75 t351 x8_1).f1))) (fun _ hk => hk.2) (.string (a0.extract (x6_1 : Int).toNat ((wrap64 (x6_1 + ((rd_T75 t351 x8_1).f1))) : Int).toNat))) (fun _ h_ => h_.1))) (Kd.R_typed (by (with_reducible repeat (first | apply Kd.R_alloc | apply Kd.R_drewN | apply Kd.R_drew)); exact (Kd.R_mono (Kd.R_far (p := ⟨gb358, 2, none⟩) (Kd.R_far (p := ⟨gb358, 3, none⟩) (Kd.R_far (p := ⟨gb358, 2, none⟩) (Kd.R_far (p := ⟨gb358, 1, none⟩) (Kd.R_far (p := ⟨gb358, 0, none⟩) (Kd.R_types HO_7.out BK358.out (by decide)) (fun _ hk => hk.2) (.string ((rd_T75 t351 x8_1).f0.f0))) (fun _ hk => hk.2) (.int .i64 ((rd_T75 t351 x8_1).f0.f1))) (fun _ hk => hk.2) (.string ((rd_T75 t351 x8_1).f0.f2))) (fun _ hk => hk.2) (.int .i64 ((rd_T75 t351 x8_1).f1))) (fun _ hk => hk.2) (.string (a0.extract (x6_1 : Int).toNat ((wrap64 (x6_1 + ((rd_T75 t351 x8_1).f1))) : Int).toNat))) (fun _ h_ => h_.1)))) (by decide) hg); have n1_ := Aside0.mk (blk_grown (g := gb356) (o := .cells #[.slice (some ad357) t351.length co7, .int .i64 t354] 71 (0, 0)) (by (with_reducible repeat (first | refine blk_drewN ?_ _ | refine blk_drew ?_ | refine blk_alloc ?_ _)); refine blk_far ?_ NB356_358.out _; (with_reducible repeat (first | refine blk_drewN ?_ _ | refine blk_drew ?_ | refine blk_alloc ?_ _)); refine blk_far ?_ NB356_358.out _; (with_reducible repeat (first | refine blk_drewN ?_ _ | refine blk_drew ?_ | refine blk_alloc ?_ _)); refine blk_far ?_ NB356_358.out _; (with_reducible repeat (first | refine blk_drewN ?_ _ | refine blk_drew ?_ | refine blk_alloc ?_ _)); refine blk_far ?_ NB356_358.out _; (with_reducible repeat (first | refine blk_drewN ?_ _ | refine blk_drew ?_ | refine blk_alloc ?_ _)); refine blk_far ?_ NB356_358.out _; (with_reducible repeat (first | refine blk_drewN ?_ _ | refine blk_drew ?_ | refine blk_alloc ?_ _)); exact BK356.out) hg (Kd.R_ne HO_7.out BK356.out (by decide))); have n2_ := Aside0.mk (blk_grown (g := gb358) (o := .cells #[.string ((rd_T75 t351 x8_1).f0.f0), .int .i64 ((rd_T75 t351 x8_1).f0.f1), .string (a0.extract (x6_1 : Int).toNat ((wrap64 (x6_1 + ((rd_T75 t351 x8_1).f1))) : Int).toNat), .int .i64 ((rd_T75 t351 x8_1).f1)] 75 (0, 0)) (by (with_reducible repeat (first | refine blk_drewN ?_ _ | refine blk_drew ?_ | refine blk_alloc ?_ _)); refine blk_put (cs := #[.string ((rd_T75 t351 x8_1).f0.f0), .int .i64 ((rd_T75 t351 x8_1).f0.f1), .string ((rd_T75 t351 x8_1).f0.f2), .int .i64 ((rd_T75 t351 x8_1).f1)]) ?_ 2 _ rfl; (with_reducible repeat (first | refine blk_drewN ?_ _ | refine blk_drew ?_ | refine blk_alloc ?_ _)); refine blk_put (cs := #[.string ((rd_T75 t351 x8_1).f0.f0), .int .i64 ((rd_T75 t351 x8_1).f0.f1), .string ((rd_T75 t351 x8_1).f0.f2), .int .i64 0]) ?_ 3 _ rfl; (with_reducible repeat (first | refine blk_drewN ?_ _ | refine blk_drew ?_ | refine blk_alloc ?_ _)); refine blk_put (cs := #[.string ((rd_T75 t351 x8_1).f0.f0), .int .i64 ((rd_T75 t351 x8_1).f0.f1), .string (⟨#[]⟩ : ByteArray), .int .i64 0]) ?_ 2 _ rfl; (with_reducible repeat (first | refine blk_drewN ?_ _ | refine blk_drew ?_ | refine blk_alloc ?_ _)); refine blk_put (cs := #[.string ((rd_T75 t351 x8_1).f0.f0), .int .i64 0, .string (⟨#[]⟩ : ByteArray), .int .i64 0]) ?_ 1 _ rfl; (with_reducible repeat (first | refine blk_drewN ?_ _ | refine blk_drew ?_ | refine blk_alloc ?_ _)); refine blk_put (cs := #[.string (⟨#[]⟩ : ByteArray), .int .i64 0, .string (⟨#[]⟩ : ByteArray), .int .i64 0]) ?_ 0 _ rfl; (with_reducible repeat (first | refine blk_drewN ?_ _ | refine blk_drew ?_ | refine blk_alloc ?_ _)); exact BK358.out) hg (Kd.R_ne HO_7.out BK358.out (by decide))); have n3_ := Aside0.mk (hb); have n4_ := Aside0.mk (ho); clear HO_357000; clear BK356; clear BK358; clear HB; clear HO_7; have HO_357000 := n0_; have BK356 := n1_; have BK358 := n2_; have HB := n3_; have HO361 := n4_; clear n0_ n1_ n2_ n3_ n4_; clear ho hb hg hat; have hcz25_0 : w24.cell? ⟨gb358, 0, none⟩ = some (.string ((rd_T75 t351 x8_1).f0.f0)) := (blk_cell BK358.out 0).trans rfl; have hcz25_1 : w24.cell? ⟨gb358, 1, none⟩ = some (.int .i64 ((rd_T75 t351 x8_1).f0.f1)) := (blk_cell BK358.out 1).trans rfl; have hcz25_2 : w24.cell? ⟨gb358, 2, none⟩ = some (.string (a0.extract (x6_1 : Int).toNat ((wrap64 (x6_1 + ((rd_T75 t351 x8_1).f1))) : Int).toNat)) := (blk_cell BK358.out 2).trans rfl; have hcz25_3 : w24.cell? ⟨gb358, 3, none⟩ = some (.int .i64 ((rd_T75 t351 x8_1).f1)) := (blk_cell BK358.out 3).trans rfl; have hfz25_0 := blk_frozen BK358.out 0; have hfz25_1 := blk_frozen BK358.out 1; have hfz25_2 := blk_frozen BK358.out 2; have hfz25_3 := blk_frozen BK358.out 3; have hq40_ : ∀ (a_ b_ c_ d_ : Value), ((((w24.setCell ⟨gb358, 0, none⟩ a_).setCell ⟨gb358, 1, none⟩ b_).setCell ⟨gb358, 2, none⟩ c_).setCell ⟨gb358, 3, none⟩ d_).cell? ⟨gb358, 0, none⟩ = some a_ := fun a_ b_ c_ d_ => (blk_cell (blk_put (blk_put (blk_put (blk_put BK358.out 0 a_ rfl) 1 b_ rfl) 2 c_ rfl) 3 d_ rfl) 0).trans rfl; have hq41_ : ∀ (a_ b_ c_ d_ : Value), ((((w24.setCell ⟨gb358, 0, none⟩ a_).setCell ⟨gb358, 1, none⟩ b_).setCell ⟨gb358, 2, none⟩ c_).setCell ⟨gb358, 3, none⟩ d_).cell? ⟨gb358, 1, none⟩ = some b_ := fun a_ b_ c_ d_ => (blk_cell (blk_put (blk_put (blk_put (blk_put BK358.out 0 a_ rfl) 1 b_ rfl) 2 c_ rfl) 3 d_ rfl) 1).trans rfl; have hq42_ : ∀ (a_ b_ c_ d_ : Value), ((((w24.setCell ⟨gb358, 0, none⟩ a_).setCell ⟨gb358, 1, none⟩ b_).setCell ⟨gb358, 2, none⟩ c_).setCell ⟨gb358, 3, none⟩ d_).cell? ⟨gb358, 2, none⟩ = some c_ := fun a_ b_ c_ d_ => (blk_cell (blk_put (blk_put (blk_put (blk_put BK358.out 0 a_ rfl) 1 b_ rfl) 2 c_ rfl) 3 d_ rfl) 2).trans rfl; have hq43_ : ∀ (a_ b_ c_ d_ : Value), ((((w24.setCell ⟨gb358, 0, none⟩ a_).setCell ⟨gb358, 1, none⟩ b_).setCell ⟨gb358, 2, none⟩ c_).setCell ⟨gb358, 3, none⟩ d_).cell? ⟨gb358, 3, none⟩ = some d_ := fun a_ b_ c_ d_ => (blk_cell (blk_put (blk_put (blk_put (blk_put BK358.out 0 a_ rfl) 1 b_ rfl) 2 c_ rfl) 3 d_ rfl) 3).trans rfl; have hqf4_ : ∀ (a_ b_ c_ d_ : Value), ((((w24.setCell ⟨gb358, 0, none⟩ a_).setCell ⟨gb358, 1, none⟩ b_).setCell ⟨gb358, 2, none⟩ c_).setCell ⟨gb358, 3, none⟩ d_).frozen? ⟨gb358, 2, none⟩ = false := fun a_ b_ c_ d_ => blk_frozen (blk_put (blk_put (blk_put (blk_put BK358.out 0 a_ rfl) 1 b_ rfl) 2 c_ rfl) 3 d_ rfl) 2; have hq50_ : ∀ (a_ b_ c_ d_ e_ : Value), (((((w24.setCell ⟨gb358, 0, none⟩ a_).setCell ⟨gb358, 1, none⟩ b_).setCell ⟨gb358, 2, none⟩ c_).setCell ⟨gb358, 3, none⟩ d_).setCell ⟨gb358, 2, none⟩ e_).cell? ⟨gb358, 0, none⟩ = some a_ := fun a_ b_ c_ d_ e_ => (blk_cell (blk_put (blk_put (blk_put (blk_put (blk_put BK358.out 0 a_ rfl) 1 b_ rfl) 2 c_ rfl) 3 d_ rfl) 2 e_ rfl) 0).trans rfl; have hq51_ : ∀ (a_ b_ c_ d_ e_ : Value), (((((w24.setCell ⟨gb358, 0, none⟩ a_).setCell ⟨gb358, 1, none⟩ b_).setCell ⟨gb358, 2, none⟩ c_).setCell ⟨gb358, 3, none⟩ d_).setCell ⟨gb358, 2, none⟩ e_).cell? ⟨gb358, 1, none⟩ = some b_ := fun a_ b_ c_ d_ e_ => (blk_cell (blk_put (blk_put (blk_put (blk_put (blk_put BK358.out 0 a_ rfl) 1 b_ rfl) 2 c_ rfl) 3 d_ rfl) 2 e_ rfl) 1).trans rfl; have hq52_ : ∀ (a_ b_ c_ d_ e_ : Value), (((((w24.setCell ⟨gb358, 0, none⟩ a_).setCell ⟨gb358, 1, none⟩ b_).setCell ⟨gb358, 2, none⟩ c_).setCell ⟨gb358, 3, none⟩ d_).setCell ⟨gb358, 2, none⟩ e_).cell? ⟨gb358, 2, none⟩ = some e_ := fun a_ b_ c_ d_ e_ => (blk_cell (blk_put (blk_put (blk_put (blk_put (blk_put BK358.out 0 a_ rfl) 1 b_ rfl) 2 c_ rfl) 3 d_ rfl) 2 e_ rfl) 2).trans rfl; have hq53_ : ∀ (a_ b_ c_ d_ e_ : Value), (((((w24.setCell ⟨gb358, 0, none⟩ a_).setCell ⟨gb358, 1, none⟩ b_).setCell ⟨gb358, 2, none⟩ c_).setCell ⟨gb358, 3, none⟩ d_).setCell ⟨gb358, 2, none⟩ e_).cell? ⟨gb358, 3, none⟩ = some d_ := fun a_ b_ c_ d_ e_ => (blk_cell (blk_put (blk_put (blk_put (blk_put (blk_put BK358.out 0 a_ rfl) 1 b_ rfl) 2 c_ rfl) 3 d_ rfl) 2 e_ rfl) 3).trans rfl; have hqf5_ : ∀ (a_ b_ c_ d_ e_ : Value), (((((w24.setCell ⟨gb358, 0, none⟩ a_).setCell ⟨gb358, 1, none⟩ b_).setCell ⟨gb358, 2, none⟩ c_).setCell ⟨gb358, 3, none⟩ d_).setCell ⟨gb358, 2, none⟩ e_).frozen? ⟨gb358, 2, none⟩ = false := fun a_ b_ c_ d_ e_ => blk_frozen (blk_put (blk_put (blk_put (blk_put (blk_put BK358.out 0 a_ rfl) 1 b_ rfl) 2 c_ rfl) 3 d_ rfl) 2 e_ rfl) 2))
                        go_roundg k1
                        case measure => have := HK1.out; omega
                        case rel => exact ⟨(wrap64 (x6_1 + ((rd_T75 t351 x8_1).f1))), (y359), (wrap64 (x8_1 + 1)), (by first | rfl | (simp; done) | (simp [*]; done)), (by first | rfl | (simp; done) | (simp [*]; done)), H', ⟨by have := HK1.out; omega⟩, ⟨by (with_reducible repeat (first | apply Kd.R_alloc | apply Kd.R_drewN | apply Kd.R_drew)); exact HO361.out⟩, ⟨by (with_reducible repeat (first | apply Kd.R_alloc | apply Kd.R_drewN | apply Kd.R_drew)); exact Kd.R_mono HO_357000.out (fun _ hk => trivial)⟩, ⟨by (with_reducible repeat (first | refine blk_drewN ?_ _ | refine blk_drew ?_ | refine blk_alloc ?_ _)); exact BK356.out⟩, ⟨by repeat (first | (with_reducible first | exact HB.out | apply below_alloc | apply pw_below_drewN | apply below_drew1 | refine below_set ?_ GE356.out | refine below_set ?_ GE358.out) | exact HB.out)⟩⟩
                      · rw [if_neg c19] at H
                        exact absurd H (by simp)
                    · rw [if_neg c18] at H
                      exact absurd H (by simp)
                  · rw [if_neg c17] at H
                    exact absurd H (by simp)
                · rw [if_neg c16] at H
                  exact absurd H (by simp)
            · rw [if_neg c10] at H
              exact absurd H (by simp)
          · rw [if_neg c9] at H
            have c9b0 : decide (x8_1 < (t351.length : Int)) = false := decide_eq_false c9
            clear c9
            by_cases c26 : x6_1 < (a0.size : Int)
            · rw [if_pos c26] at H
              have c26b0 : decide (x6_1 < (a0.size : Int)) = true := decide_eq_true c26
              clear c26
              simp only [Option.some.injEq, Prod.mk.injEq] at H
              obtain ⟨rfl, rfl⟩ := H
              have hcz27_0 : wr.cell? ⟨gb356, 0, none⟩ = some (.slice Ao7 t351.length co7) := (blk_cell BK356.out 0).trans rfl
              have hcz27_1 : wr.cell? ⟨gb356, 1, none⟩ = some (.int .i64 t354) := (blk_cell BK356.out 1).trans rfl
              have hfz27_0 := blk_frozen BK356.out 0
              have hfz27_1 := blk_frozen BK356.out 1
              go_wp2
              go_ret2
              exact ⟨_, by first | rfl | (simp [errW_none, errW_some] <;> rfl) | (simp [*, errW_none, errW_some] <;> rfl), by first | exact Kd.R_nil _ _ _ _ _ | exact Kd.N_nil _ _ _ _ _ | exact Kd.V_nil _ _ _ _ _ | exact Kd.Q_nil _ _ _ _ _ | exact Kd.S_nil _ _ _ _ _, by repeat (first | (with_reducible first | exact HB.out | apply below_alloc | apply pw_below_drewN | apply below_drew1 | refine below_set ?_ GE356.out) | exact HB.out)⟩
            · rw [if_neg c26] at H
              have c26b0 : decide (x6_1 < (a0.size : Int)) = false := decide_eq_false c26
              clear c26
              simp only [Option.some.injEq, Prod.mk.injEq] at H
              obtain ⟨rfl, rfl⟩ := H
              have hcz28_0 : wr.cell? ⟨gb356, 0, none⟩ = some (.slice Ao7 t351.length co7) := (blk_cell BK356.out 0).trans rfl
              have hcz28_1 : wr.cell? ⟨gb356, 1, none⟩ = some (.int .i64 t354) := (blk_cell BK356.out 1).trans rfl
              have hfz28_0 := blk_frozen BK356.out 0
              have hfz28_1 := blk_frozen BK356.out 1
              go_wp2
              go_ret2
              exact ⟨_, by first | rfl | (simp [errW_none, errW_some] <;> rfl) | (simp [*, errW_none, errW_some] <;> rfl), by (with_reducible repeat (first | apply Kd.R_alloc | apply Kd.R_drewN | apply Kd.R_drew)); exact HO_7.out, by repeat (first | (with_reducible first | exact HB.out | apply below_alloc | apply pw_below_drewN | apply below_drew1 | refine below_set ?_ GE356.out) | exact HB.out)⟩
    · rw [if_neg c4] at H
      have c4b0 : (t355 == 0) = false := beq_eq_false_iff_ne.mpr c4
      have c4b1 : (t355 != 0) = true := bne_iff_ne.mpr c4
      simp only [Option.some.injEq, Prod.mk.injEq] at H
      obtain ⟨rfl, rfl⟩ := H
      go_enter Tryd.func18, Tryd.ntmps18
      go_wp2_with (first | ((with_reducible refine gate_callee (f := 38) rfl ?_); refine goesL_ (some 15) rfl rfl Tryd.func38 (by kernel_rfl) rfl #[.string a0] rfl (by (try simp only [List.map_toArray, List.map_cons, List.map_nil]); first | done | rfl | (simp only [List.length_drop, List.length_take]; rfl)) ?_; (with_reducible refine (barqueref10_Told.calls k a0 t351 t354 t355 _ A3.out).mono ?_); rintro e w29 ⟨v352, rfl, ho0, hb⟩; refine ⟨_, rfl, ?_⟩; have n0_ := Aside0.mk (Kd.R_lower ho0 (below_size (by repeat (first | (with_reducible first | exact HB.out | apply below_alloc | apply pw_below_drewN | apply below_drew1) | exact HB.out)))); have n1_ := Aside0.mk (below_step (by repeat (first | (with_reducible first | exact HB.out | apply below_alloc | apply pw_below_drewN | apply below_drew1) | exact HB.out)) hb); clear HB; have HO353 := n0_; have HB := n1_; clear n0_ n1_; (try clear hb); (try clear hb2); (try clear hk); (try clear hi); (try clear ho0)) | ((with_reducible refine gate_dst (N := 4) rfl ?_); refine box_event ?hg (N := 4) ?hd (cs := #[.slice none 0 0, .int .i64 0]) (t := 71) ?hr ?_; (case hd => rfl); (case hg => rfl); (case hr => first | (go_simp; done) | (go_simp; rfl)); intro gb356 hg w30 hbox hb; have n0_ := Aside0.mk (Kd.R_below (by (with_reducible repeat (first | apply Kd.R_alloc | apply Kd.R_drewN | apply Kd.R_drew)); exact HO353.out) hb); have n1_ := Aside0.mk (below_step (by repeat (first | (with_reducible first | exact HB.out | apply below_alloc | apply pw_below_drewN | apply below_drew1) | exact HB.out)) hb); have n2_ := Aside0.mk (hbox); have n3_ := Aside0.mk ((by rw [hg]; exact (below_size (by repeat (first | (with_reducible first | exact HB.out | apply below_alloc | apply pw_below_drewN | apply below_drew1) | exact HB.out))) : w.heap.size ≤ gb356)); have n4_ := Aside0.mk ((by rw [hg]; exact (below_size (by repeat (first | (with_reducible first | exact HB.out | apply below_alloc | apply pw_below_drewN | apply below_drew1) | exact HB.out))) : w.heap.size ≤ gb356)); clear HO353; clear HB; have HO353 := n0_; have HB := n1_; have BK356 := n2_; have GW356 := n3_; have GE356 := n4_; clear n0_ n1_ n2_ n3_ n4_; clear hb hbox hg; obtain ⟨Ao31, co31, eo31⟩ := Kd.R_slice HO353.out; subst eo31; have hcz32_0 : w30.cell? ⟨gb356, 0, none⟩ = some (.slice none 0 0) := (blk_cell BK356.out 0).trans rfl; have hcz32_1 : w30.cell? ⟨gb356, 1, none⟩ = some (.int .i64 0) := (blk_cell BK356.out 1).trans rfl; have hfz32_0 := blk_frozen BK356.out 0; have hfz32_1 := blk_frozen BK356.out 1))
      go_ret2
      exact ⟨_, by first | rfl | (simp [errW_none, errW_some] <;> rfl) | (simp [*, errW_none, errW_some] <;> rfl), by first | exact Kd.R_nil _ _ _ _ _ | exact Kd.N_nil _ _ _ _ _ | exact Kd.V_nil _ _ _ _ _ | exact Kd.Q_nil _ _ _ _ _ | exact Kd.S_nil _ _ _ _ _, by repeat (first | (with_reducible first | exact HB.out | apply below_alloc | apply pw_below_drewN | apply below_drew1 | refine below_set ?_ GE356.out) | exact HB.out)⟩
end Go.Proofs.YtmeofdpmddjbgaaDoor.G
end
section
namespace Go.Proofs.YtmeofdpmddjbgaaDoor.G
open Go.RowKit Go.Proofs.YtmeofdpmddjbgaaDoorW.PrintWords Go.Proofs.YtmeofdpmddjbgaaDoorW.PrintLast Go.Proofs.YtmeofdpmddjbgaaDoorW.PrintMore
attribute [local go_sem] max2_int min2_int max_two min_two max_three min_three max_four min_four   -- for this text's walks alone
set_option linter.unusedVariables false
set_option linter.unusedSimpArgs false
theorem eqA33 (d : Nat) (w : World) (x0 y0 : ByteArray) (x1 y1 : Int) (x2 y2 : ByteArray) :
    (Op.equalIn (d + 2) 33 (.agg #[.string x0, .int .i64 x1, .string x2]) (.agg #[.string y0, .int .i64 y1, .string y2])).run Tryd.prog w = .ok (x0.toList == y0.toList && (x1 == y1 && (x2.toList == y2.toList))) w := by
  refine eqA_of Tryd.underlying33 (by kernel_rfl) ?_
  refine eqf_cons (by rfl) (by go_simp; rfl) (by go_simp; rfl) (by go_simp) ?_
  refine eqf_cons (by rfl) (by go_simp; rfl) (by go_simp; rfl) (by go_simp) ?_
  exact eqf_last (by rfl) (by go_simp; rfl) (by go_simp; rfl) (by go_simp)
end Go.Proofs.YtmeofdpmddjbgaaDoor.G
end
section
namespace Go.Proofs.YtmeofdpmddjbgaaDoor.G
open Go.RowKit Go.Proofs.YtmeofdpmddjbgaaDoorW.PrintWords Go.Proofs.YtmeofdpmddjbgaaDoorW.PrintLast Go.Proofs.YtmeofdpmddjbgaaDoorW.PrintMore
attribute [local go_sem] max2_int min2_int max_two min_two max_three min_three max_four min_four   -- for this text's walks alone
set_option linter.unusedVariables false
set_option linter.unusedSimpArgs false
attribute [local go_sem high] eqA33
def barqueref09_Files.l0 : Nat → List (S33) → List (S33) → Int → Option (Bool)
  | 0, _, _, _ => none
  | k + 1, x0, x1, x5 => if x5 < (x0.length : Int) then (if 0 ≤ x5 then (if x5 < (x1.length : Int) then (if (!((((rd_T33 x0 x5).f0).toList) == (((rd_T33 x1 x5).f0).toList)) || (!(((rd_T33 x0 x5).f1) == ((rd_T33 x1 x5).f1)) || (!((((rd_T33 x0 x5).f2).toList) == (((rd_T33 x1 x5).f2).toList))))) = true then (some false) else (barqueref09_Files.l0 k x0 x1 (wrap64 (x5 + 1)))) else (none)) else (none)) else (some true)
def barqueref09_Files.f (k : Nat) (l0 : List (S33)) (l1 : List (S33)) : Option (Bool) := if (l0.length : Int) = (l1.length : Int) then (barqueref09_Files.l0 k l0 l1 0) else (some false)
theorem barqueref09_Files.mono_l : ∀ k, (∀ y0 y1 y2, LeO (barqueref09_Files.l0 k y0 y1 y2) (barqueref09_Files.l0 (k + 1) y0 y1 y2))
  | 0 => fun _ _ _ r h => by simp [barqueref09_Files.l0] at h
  | k + 1 => by
    have ih0 := barqueref09_Files.mono_l k
    · intro y0 y1 y2
      unfold barqueref09_Files.l0
      repeat' first
      | (with_reducible exact ih0 _ _ _)
      | (with_reducible exact LeO.refl _)
      | (with_reducible exact LeO.none _)
      | (with_reducible refine LeO.ite ?_ ?_)
      | (with_reducible refine LeO.bind ?_ (fun _ => ?_))
      | exact ih0 _ _ _
      | exact LeO.none _
      | refine LeO.ite ?_ ?_
      | refine LeO.bind ?_ (fun _ => ?_)
theorem barqueref09_Files.mono : ∀ a0 a1 k, LeO (barqueref09_Files.f k a0 a1) (barqueref09_Files.f (k + 1) a0 a1) := by
  intro a0 a1 k
  have ih0 := barqueref09_Files.mono_l k
  unfold barqueref09_Files.f
  repeat' first
      | (with_reducible exact ih0 _ _ _)
      | (with_reducible exact LeO.refl _)
      | (with_reducible exact LeO.none _)
      | (with_reducible refine LeO.ite ?_ ?_)
      | (with_reducible refine LeO.bind ?_ (fun _ => ?_))
      | exact ih0 _ _ _
      | exact LeO.none _
      | refine LeO.ite ?_ ?_
      | refine LeO.bind ?_ (fun _ => ?_)
set_option maxHeartbeats 8000000 in
set_option maxRecDepth 100000 in
theorem barqueref09_Files.calls (k : Nat) (A0 : Option Addr) (c0 : Nat) (l0 : List (S33)) (A1 : Option Addr) (c1 : Nat) (l1 : List (S33)) (r : Bool) (w : World) (hr0 : Kd.C k33 w A0 l0.length l0) (hc0 : l0.length ≤ c0) (hr1 : Kd.C k33 w A1 l1.length l1) (hc1 : l1.length ≤ c1) (h : barqueref09_Files.f k l0 l1 = some r) :
    Calls Tryd.prog 19 #[.slice A0 l0.length c0, .slice A1 l1.length c1] w fun e w' => e = .returned (.bool r) ∧ Drawn0 w w' := by
  have hu33 := Tryd.underlying33
  have HR0 := Aside0.mk hr0
  have HC0 := Aside0.mk hc0
  clear hr0 hc0
  have HR1 := Aside0.mk hr1
  have HC1 := Aside0.mk hc1
  clear hr1 hc1
  have H : (if (l0.length : Int) = (l1.length : Int) then (barqueref09_Files.l0 k l0 l1 0) else (some false)) = some r := h
  clear h
  by_cases c3 : (l0.length : Int) = (l1.length : Int)
  · rw [if_pos c3] at H
    have c3b0 : ((l0.length : Int) == (l1.length : Int)) = true := beq_iff_eq.mpr c3
    have c3b1 : ((l0.length : Int) != (l1.length : Int)) = false := bne_eq_false_iff_eq.mpr c3
    have c3b2 : (l0.length == l1.length) = true := by first | simpa using c3 | (simp at c3 ⊢; omega)
    clear c3
    have H' := Aside0.mk H
    clear H
    go_enter Tryd.func19, Tryd.ntmps19
    go_wp2
    repeat (go_quiet (fail); try go_wp2)
    go_loopg [5] k (fun kq v5 w' => ∃ (x5_1 : Int), v5 = .int .i64 x5_1 ∧ Aside0 (barqueref09_Files.l0 kq l0 l1 x5_1 = some r) ∧ Aside0 (kq ≤ k) ∧ Drawn0 w w')
    case atStart => exact ⟨(0), (by first | rfl | (simp; done) | (simp [*]; done)), H', ⟨Nat.le_refl _⟩, by repeat (first | exact Drawn0.refl _ | apply Drawn0.step)⟩
    case round =>
      clear H'
      try clear c1
      try clear p2
      try clear c3
      try clear c3b0
      try clear c3b1
      try clear c3b2
      obtain ⟨x5_1, rfl, HA, HK1, ⟨m1, rfl⟩⟩ := hrel
      cases gk with
      | zero => exact absurd HA.out (by simp [barqueref09_Files.l0])
      | succ k1 =>
        have H := HA.out
        clear HA
        simp only [barqueref09_Files.l0] at H
        by_cases c4 : x5_1 < (l0.length : Int)
        · rw [if_pos c4] at H
          have c4b0 : decide (x5_1 < (l0.length : Int)) = true := decide_eq_true c4
          clear c4
          by_cases c5 : 0 ≤ x5_1
          · rw [if_pos c5] at H
            have c5b0 : decide (0 ≤ x5_1) = true := decide_eq_true c5
            clear c5
            by_cases c6 : x5_1 < (l1.length : Int)
            · rw [if_pos c6] at H
              have c6b0 : decide (x5_1 < (l1.length : Int)) = true := decide_eq_true c6
              clear c6
              by_cases c7 : (!((((rd_T33 l0 x5_1).f0).toList) == (((rd_T33 l1 x5_1).f0).toList)) || (!(((rd_T33 l0 x5_1).f1) == ((rd_T33 l1 x5_1).f1)) || (!((((rd_T33 l0 x5_1).f2).toList) == (((rd_T33 l1 x5_1).f2).toList))))) = true
              · rw [if_pos c7] at H
                have c7b0 : (!((((rd_T33 l0 x5_1).f0).toList) == (((rd_T33 l1 x5_1).f0).toList)) || (!(((rd_T33 l0 x5_1).f1) == ((rd_T33 l1 x5_1).f1)) || (!((((rd_T33 l0 x5_1).f2).toList) == (((rd_T33 l1 x5_1).f2).toList))))) = true := c7
                clear c7
                obtain rfl := Option.some.inj H
                have p362 : 0 ≤ (x5_1 : Int) := of_decide_eq_true (by first | (with_reducible assumption) | assumption)
                have q362 : x5_1 < (l0.length : Int) := of_decide_eq_true (by first | (with_reducible assumption) | assumption)
                obtain ⟨ad362, e362, hx362_0, hx362_1, hx362_2⟩ := at_T33 HR0.out x5_1 p362 q362
                cases e362
                replace p362 := eq_true p362
                replace q362 := eq_true q362
                have p363 : 0 ≤ (x5_1 : Int) := of_decide_eq_true (by first | (with_reducible assumption) | assumption)
                have q363 : x5_1 < (l1.length : Int) := of_decide_eq_true (by first | (with_reducible assumption) | assumption)
                obtain ⟨ad363, e363, hx363_0, hx363_1, hx363_2⟩ := at_T33 HR1.out x5_1 p363 q363
                cases e363
                replace p363 := eq_true p363
                replace q363 := eq_true q363
                go_wp2
                repeat (go_quiet (fail); try go_wp2)
                go_ret
                exact ⟨by first | rfl | (simp; done) | (simp [*]; done), by repeat (first | exact Drawn0.refl _ | apply Drawn0.step)⟩
              · rw [if_neg c7] at H
                have c7b0 : (!((((rd_T33 l0 x5_1).f0).toList) == (((rd_T33 l1 x5_1).f0).toList)) || (!(((rd_T33 l0 x5_1).f1) == ((rd_T33 l1 x5_1).f1)) || (!((((rd_T33 l0 x5_1).f2).toList) == (((rd_T33 l1 x5_1).f2).toList))))) = false := by simpa using c7
                clear c7
                have H' := Aside0.mk H
                clear H
                have p362 : 0 ≤ (x5_1 : Int) := of_decide_eq_true (by first | (with_reducible assumption) | assumption)
                have q362 : x5_1 < (l0.length : Int) := of_decide_eq_true (by first | (with_reducible assumption) | assumption)
                obtain ⟨ad362, e362, hx362_0, hx362_1, hx362_2⟩ := at_T33 HR0.out x5_1 p362 q362
                cases e362
                replace p362 := eq_true p362
                replace q362 := eq_true q362
                have p363 : 0 ≤ (x5_1 : Int) := of_decide_eq_true (by first | (with_reducible assumption) | assumption)
                have q363 : x5_1 < (l1.length : Int) := of_decide_eq_true (by first | (with_reducible assumption) | assumption)
                obtain ⟨ad363, e363, hx363_0, hx363_1, hx363_2⟩ := at_T33 HR1.out x5_1 p363 q363
                cases e363
                replace p363 := eq_true p363
                replace q363 := eq_true q363
                go_wp2
                repeat (go_quiet (fail); try go_wp2)
                go_roundg k1
                case measure => have := HK1.out; omega
                case rel => exact ⟨(wrap64 (x5_1 + 1)), (by first | rfl | (simp; done) | (simp [*]; done)), H', ⟨by have := HK1.out; omega⟩, by repeat (first | exact Drawn0.refl _ | apply Drawn0.step)⟩
            · rw [if_neg c6] at H
              exact absurd H (by simp)
          · rw [if_neg c5] at H
            exact absurd H (by simp)
        · rw [if_neg c4] at H
          have c4b0 : decide (x5_1 < (l0.length : Int)) = false := decide_eq_false c4
          clear c4
          obtain rfl := Option.some.inj H
          go_wp2
          repeat (go_quiet (fail); try go_wp2)
          go_ret
          exact ⟨by first | rfl | (simp; done) | (simp [*]; done), by repeat (first | exact Drawn0.refl _ | apply Drawn0.step)⟩
  · rw [if_neg c3] at H
    have c3b0 : ((l0.length : Int) == (l1.length : Int)) = false := beq_eq_false_iff_ne.mpr c3
    have c3b1 : ((l0.length : Int) != (l1.length : Int)) = true := bne_iff_ne.mpr c3
    have c3b2 : (l0.length == l1.length) = false := by first | simpa using c3 | (simp at c3 ⊢; omega)
    obtain rfl := Option.some.inj H
    go_enter Tryd.func19, Tryd.ntmps19
    go_wp2
    repeat (go_quiet (fail); try go_wp2)
    go_ret
    exact ⟨by first | rfl | (simp; done) | (simp [*]; done), by repeat (first | exact Drawn0.refl _ | apply Drawn0.step)⟩
end Go.Proofs.YtmeofdpmddjbgaaDoor.G
end
section
namespace Go.Proofs.YtmeofdpmddjbgaaDoor.G
open Go.RowKit Go.Proofs.YtmeofdpmddjbgaaDoorW.PrintWords Go.Proofs.YtmeofdpmddjbgaaDoorW.PrintLast Go.Proofs.YtmeofdpmddjbgaaDoorW.PrintMore
set_option linter.unusedVariables false
set_option linter.unusedSimpArgs false
theorem rdZ_nat (l : List S75) (i : Nat) (h : i < l.length) : rd_T75 l (i : Int) = l[i] := by
  unfold rd_T75
  simp [List.getD_eq_getElem?_getD, h]
theorem rd_nat_ (l : List Int) (i : Nat) (h : i < l.length) : rd l (i : Int) = l[i] := by
  unfold rd
  simp [List.getD_eq_getElem?_getD, h]
/-- A head's file: how long it is may be. -/
def okZ (x : S75) : Prop := 0 ≤ x.f1 ∧ x.f1 ≤ 65536 ∧ x.f0.f2 = ⟨#[]⟩
theorem headGo_ok (s : ByteArray) : ∀ (d : Nat) (fs : List S75) (a : Nat), a ≤ s.size → (∀ x ∈ fs, okZ x) → (headGo s d fs a).2.1 ≤ s.size ∧ (headGo s d fs a).1.length ≤ fs.length + d ∧ ∀ x ∈ (headGo s d fs a).1, okZ x
  | 0, fs, a, ha, hx => ⟨ha, Nat.le_refl _, hx⟩
  | d + 1, fs, a, ha, hx => by
    rw [headGo]
    have h3 := (fileR_at s a ha).2.2
    have hok := fileR_ok s a
    obtain ⟨r, hr⟩ : ∃ r, fileR s a = r := ⟨_, rfl⟩
    rw [hr] at h3 hok ⊢
    by_cases q : r.c.2.2 = 0
    · rw [if_pos q]
      obtain ⟨_, _, o3, o4, _⟩ := hok q
      have ih := headGo_ok s d (fs ++ [⟨⟨r.t.1, r.m.1, ⟨#[]⟩⟩, r.c.1⟩]) r.c.2.1 h3 (fun x hm => by
        rcases List.mem_append.1 hm with h | h
        · exact hx x h
        · rw [List.mem_singleton.1 h]; exact ⟨o3, o4, rfl⟩)
      refine ⟨ih.1, ?_, ih.2.2⟩
      have := ih.2.1
      rw [List.length_append, List.length_singleton] at this
      omega
    · rw [if_neg q]
      exact ⟨Nat.zero_le _, Nat.zero_le _, fun x hm => by cases hm⟩
theorem headE_ok (s : ByteArray) : (headE s).2.1 ≤ s.size ∧ (headE s).1.length ≤ 256 ∧ ∀ x ∈ (headE s).1, okZ x := by
  unfold headE
  have a1 := countS_at s 0 0 256 (Nat.zero_le _)
  have r1 := countS_range s 0 0 256
  have h1 := countS_e s 0 0 256
  obtain ⟨c, hc⟩ : ∃ c, countS s 0 0 256 = c := ⟨_, rfl⟩
  rw [hc] at a1 r1 h1 ⊢
  by_cases q : c.2.2 = 0
  · rw [if_pos q]
    have hm := (h1 q).2
    have := headGo_ok s c.1.toNat [] c.2.1 a1.2 (fun x hm => by cases hm)
    obtain ⟨x, hx⟩ : ∃ x, headGo s c.1.toNat [] c.2.1 = x := ⟨_, rfl⟩
    rw [hx] at this ⊢
    rw [List.length_nil] at this
    unfold headFin
    split
    · split
      · exact ⟨this.1, by omega, this.2.2⟩
      · exact ⟨Nat.zero_le _, Nat.zero_le _, fun x hm => by cases hm⟩
    · exact ⟨Nat.zero_le _, Nat.zero_le _, fun x hm => by cases hm⟩
  · rw [if_neg q]
    exact ⟨Nat.zero_le _, Nat.zero_le _, fun x hm => by cases hm⟩
/-- The files' bytes behind a head. -/
def dataGo (s : ByteArray) : List S75 → Nat → List S33 → List S33 × Int
  | [], a, out => if a < s.size then ([], 4) else (out, 0)
  | x :: fs, a, out => if (s.size : Int) - a < x.f1 then ([], 3) else dataGo s fs (a + x.f1.toNat) (out ++ [⟨x.f0.f0, x.f0.f1, s.extract a (a + x.f1.toNat)⟩])
def treeE (s : ByteArray) : List S33 × Int := if 524288 < s.size then ([], 4) else if (headE s).2.2 = 0 then dataGo s (headE s).1 (headE s).2.1 [] else ([], (headE s).2.2)
theorem set_mid_ {α : Type} (X Y : List α) (p v : α) (i : Nat) (h : X.length = i) : (X ++ p :: Y).set i v = X ++ v :: Y := by
  subst h
  rw [List.set_append_right _ _ (Nat.le_refl _), Nat.sub_self, List.set_cons_zero]
theorem imagetree_l0 (s : ByteArray) (hs : s.size ≤ 140737488351232) (all : List S75) (hl : all.length ≤ 256) (hok : ∀ x ∈ all, okZ x) : ∀ (d i : Nat) (out : List S33) (a : Nat), all.length - i = d → i ≤ all.length → out.length = i → a ≤ s.size →
    Ev (fun k => image_Tree.l0 k s (out ++ (all.drop i).map (·.f0)) (a : Int) (all.map (·.f1)) (all.length : Int) (i : Int)) (dataGo s (all.drop i) a out) := by
  intro d
  induction d with
  | zero =>
    intro i out a hd hi ho ha
    have e : i = all.length := by omega
    subst e
    rw [List.drop_length, List.map_nil, List.append_nil]
    apply Ev.step
    · intro k; rw [image_Tree.l0]
    have c1 : ¬ ((all.length : Int) < (all.length : Int)) := Int.lt_irrefl _
    simp only [c1, ↓reduceIte]
    unfold dataGo
    by_cases q : a < s.size
    · have q2 : (a : Int) < (s.size : Int) := by omega
      simp only [q, q2, ↓reduceIte]
      exact Ev.now _
    · have q2 : ¬ (a : Int) < (s.size : Int) := by omega
      simp only [q, q2, ↓reduceIte]
      exact Ev.now _
  | succ d ih =>
    intro i out a hd hi ho ha
    have hlt : i < all.length := by omega
    obtain ⟨o1, o2, o3⟩ := hok _ (List.getElem_mem hlt)
    have c1 : ((i : Int) < (all.length : Int)) := by omega
    have c2 : (0 : Int) ≤ (i : Int) := by omega
    have c3 : (i : Int) < ((all.map (fun y => y.f1)).length : Int) := by rw [List.length_map]; exact c1
    have c4 : (i : Int) < ((out ++ (all.drop i).map (fun y => y.f0)).length : Int) := by rw [List.length_append, List.length_map, List.length_drop]; omega
    have hw : wrap64 ((i : Int) + 1) = ((i + 1 : Nat) : Int) := by rw [w64_ (by omega) (by omega)]; omega
    have hr : rd (all.map (fun y => y.f1)) (i : Int) = (all[i]'hlt).f1 := by rw [rd_nat_ _ i (by rw [List.length_map]; exact hlt), List.getElem_map]
    have hf : rd_T33 (out ++ (all.drop i).map (fun y => y.f0)) (i : Int) = (all[i]'hlt).f0 := by
      rw [rdF_nat _ i (Int.ofNat_lt.1 c4), List.getElem_append_right (Nat.le_of_eq ho), List.getElem_map, List.getElem_drop]
      congr 2
      rw [ho, Nat.sub_self, Nat.add_zero]
    rw [List.drop_eq_getElem_cons hlt] at hf c4 ⊢
    rw [dataGo]
    obtain ⟨x, hx⟩ : ∃ x, all[i]'hlt = x := ⟨_, rfl⟩
    rw [hx] at o1 o2 o3 hr hf c4 ⊢
    rw [List.map_cons] at hf c4 ⊢
    have c5 : (0 : Int) ≤ (a : Int) := by omega
    apply Ev.step
    · intro k; rw [image_Tree.l0]
    have hsub : wrap64 ((s.size : Int) - (a : Int)) = (s.size : Int) - (a : Int) := w64_ (by omega) (by omega)
    by_cases q : (s.size : Int) - (a : Int) < x.f1
    · have q2 : x.f1 > (s.size : Int) - (a : Int) := q
      simp only [c1, c2, c3, hr, hsub, q, q2, ↓reduceIte]
      exact Ev.now _
    · have q2 : ¬ x.f1 > (s.size : Int) - (a : Int) := q
      have hadd : wrap64 ((a : Int) + x.f1) = ((a + x.f1.toNat : Nat) : Int) := by rw [w64_ (by omega) (by omega)]; omega
      have c6 : (a : Int) ≤ ((a + x.f1.toNat : Nat) : Int) := by omega
      have c7 : ((a + x.f1.toNat : Nat) : Int) ≤ (s.size : Int) := by omega
      simp only [c1, c2, c3, c4, c5, c6, c7, hr, hsub, hadd, hf, q, q2, ↓reduceIte, hw, Int.toNat_natCast]
      rw [set_mid_ out _ _ _ i ho]
      have := ih (i + 1) (out ++ [⟨x.f0.f0, x.f0.f1, s.extract a (a + x.f1.toNat)⟩]) (a + x.f1.toNat) (by omega) (by omega) (by rw [List.length_append, List.length_singleton, ho]) (by omega)
      rw [List.append_assoc, List.singleton_append] at this
      exact this
theorem imagetree_ev (s : ByteArray) (hs : s.size ≤ 140737488351232) : Ev (fun k => image_Tree.f k s) (treeE s) := by
  unfold image_Tree.f treeE
  by_cases q : 524288 < s.size
  · have q2 : (s.size : Int) > 524288 := by omega
    simp only [q, q2, ↓reduceIte]
    exact Ev.now _
  · have q2 : ¬ (s.size : Int) > 524288 := by omega
    simp only [q, q2, ↓reduceIte]
    refine Ev.bind (imghead_ev s hs) ?_
    unfold imgh
    obtain ⟨h1, h2, h3⟩ := headE_ok s
    obtain ⟨x, hx⟩ : ∃ x, headE s = x := ⟨_, rfl⟩
    rw [hx] at h1 h2 h3 ⊢
    by_cases g : x.2.2 = 0
    · simp only [g, ↓reduceIte, List.length_map]
      have := imagetree_l0 s hs x.1 h2 h3 x.1.length 0 [] x.2.1 (by omega) (by omega) rfl h1
      rw [List.drop_zero, List.nil_append] at this
      exact this
    · simp only [g, ↓reduceIte]
      exact Ev.now _
theorem reftree_l0 (s : ByteArray) (hs : s.size ≤ 140737488351232) (at0 : Int) (all : List S75) (hl : all.length ≤ 256) (hok : ∀ x ∈ all, okZ x) : ∀ (d i : Nat) (out : List S33) (a : Nat), all.length - i = d → i ≤ all.length → out.length = i → a ≤ s.size →
    Ev (fun k => barqueref10_Tree.l0 k s (a : Int) out (i : Int) all at0) (dataGo s (all.drop i) a out) := by
  intro d
  induction d with
  | zero =>
    intro i out a hd hi ho ha
    have e : i = all.length := by omega
    subst e
    rw [List.drop_length]
    apply Ev.step
    · intro k; rw [barqueref10_Tree.l0]
    have c1 : ¬ ((all.length : Int) < (all.length : Int)) := Int.lt_irrefl _
    simp only [c1, ↓reduceIte]
    unfold dataGo
    by_cases q : a < s.size
    · have q2 : (a : Int) < (s.size : Int) := by omega
      simp only [q, q2, ↓reduceIte]
      exact Ev.now _
    · have q2 : ¬ (a : Int) < (s.size : Int) := by omega
      simp only [q, q2, ↓reduceIte]
      exact Ev.now _
  | succ d ih =>
    intro i out a hd hi ho ha
    have hlt : i < all.length := by omega
    obtain ⟨o1, o2, o3⟩ := hok _ (List.getElem_mem hlt)
    have c1 : ((i : Int) < (all.length : Int)) := by omega
    have c2 : (0 : Int) ≤ (i : Int) := by omega
    have c4 : out.length < 3518437208883 := by omega
    have hw : wrap64 ((i : Int) + 1) = ((i + 1 : Nat) : Int) := by rw [w64_ (by omega) (by omega)]; omega
    have hf : rd_T75 all (i : Int) = all[i]'hlt := rdZ_nat all i hlt
    rw [List.drop_eq_getElem_cons hlt]
    rw [dataGo]
    obtain ⟨x, hx⟩ : ∃ x, all[i]'hlt = x := ⟨_, rfl⟩
    rw [hx] at o1 o2 o3 hf ⊢
    have c5 : (0 : Int) ≤ (a : Int) := by omega
    apply Ev.step
    · intro k; rw [barqueref10_Tree.l0]
    have hsub : wrap64 ((s.size : Int) - (a : Int)) = (s.size : Int) - (a : Int) := w64_ (by omega) (by omega)
    by_cases q : (s.size : Int) - (a : Int) < x.f1
    · have q2 : x.f1 > (s.size : Int) - (a : Int) := q
      simp only [c1, c2, hf, hsub, q, q2, ↓reduceIte]
      exact Ev.now _
    · have q2 : ¬ x.f1 > (s.size : Int) - (a : Int) := q
      have hadd : wrap64 ((a : Int) + x.f1) = ((a + x.f1.toNat : Nat) : Int) := by rw [w64_ (by omega) (by omega)]; omega
      have c6 : (a : Int) ≤ ((a + x.f1.toNat : Nat) : Int) := by omega
      have c7 : ((a + x.f1.toNat : Nat) : Int) ≤ (s.size : Int) := by omega
      simp only [c1, c2, c4, c5, c6, c7, hsub, hadd, hf, q, q2, ↓reduceIte, hw, Int.toNat_natCast]
      exact ih (i + 1) (out ++ [⟨x.f0.f0, x.f0.f1, s.extract a (a + x.f1.toNat)⟩]) (a + x.f1.toNat) (by omega) (by omega) (by rw [List.length_append, List.length_singleton, ho]) (by omega)
theorem reftree_ev (s : ByteArray) (hs : s.size ≤ 140737488351232) : Ev (fun k => barqueref10_Tree.f k s) (treeE s) := by
  unfold barqueref10_Tree.f treeE
  by_cases q : 524288 < s.size
  · have q2 : (s.size : Int) > 524288 := by omega
    simp only [q, q2, ↓reduceIte]
    exact Ev.now _
  · have q2 : ¬ (s.size : Int) > 524288 := by omega
    simp only [q, q2, ↓reduceIte]
    refine Ev.bind (told_ev s hs) ?_
    unfold toldR
    obtain ⟨h1, h2, h3⟩ := headE_ok s
    obtain ⟨x, hx⟩ : ∃ x, headE s = x := ⟨_, rfl⟩
    rw [hx] at h1 h2 h3 ⊢
    by_cases g : x.2.2 = 0
    · simp only [g, ↓reduceIte]
      have := reftree_l0 s hs x.2.1 x.1 h2 h3 x.1.length 0 [] x.2.1 (by omega) (by omega) rfl h1
      rw [List.drop_zero] at this
      exact this
    · simp only [g, ↓reduceIte]
      exact Ev.now _
theorem dataGo_length (s : ByteArray) : ∀ (fs : List S75) (a : Nat) (out : List S33), (dataGo s fs a out).1.length ≤ out.length + fs.length
  | [], a, out => by
    unfold dataGo
    split
    · exact Nat.zero_le _
    · exact Nat.le_refl _
  | x :: fs, a, out => by
    unfold dataGo
    split
    · exact Nat.zero_le _
    · have := dataGo_length s fs (a + x.f1.toNat) (out ++ [⟨x.f0.f0, x.f0.f1, s.extract a (a + x.f1.toNat)⟩])
      rw [List.length_append, List.length_singleton] at this
      rw [List.length_cons]
      omega
theorem treeE_length (s : ByteArray) : (treeE s).1.length ≤ 256 := by
  unfold treeE
  split
  · exact Nat.zero_le _
  · split
    · have h1 := dataGo_length s (headE s).1 (headE s).2.1 []
      have h2 := (headE_ok s).2.1
      rw [List.length_nil] at h1
      omega
    · exact Nat.zero_le _
theorem cut_f (s : ByteArray) : ∃ t : ByteArray, t.size ≤ 20000 ∧ barquelaw10_cut.f s = some t := by
  unfold barquelaw10_cut.f
  by_cases h : (s.size : Int) > 20000
  · have h2 : (20000 : Int) ≤ (s.size : Int) := by omega
    have h3 : (0 : Int) ≤ 20000 := by decide
    simp only [h, h2, h3, ↓reduceIte]
    exact ⟨_, by rw [ByteArray.size_extract]; omega, rfl⟩
  · simp only [h, ↓reduceIte]
    exact ⟨s, by omega, rfl⟩
end Go.Proofs.YtmeofdpmddjbgaaDoor.G
end
section
namespace Go.Proofs.YtmeofdpmddjbgaaDoor.G
open Go.RowKit Go.Proofs.YtmeofdpmddjbgaaDoorW.PrintWords Go.Proofs.YtmeofdpmddjbgaaDoorW.PrintLast Go.Proofs.YtmeofdpmddjbgaaDoorW.PrintMore
attribute [local go_sem] max2_int min2_int max_two min_two max_three min_three max_four min_four   -- for this text's walks alone
set_option linter.unusedVariables false
set_option linter.unusedSimpArgs false
def image_Drop.l0 : Nat → ByteArray → List (S33) → List (S33) → List (S33) → Int → Int → Option (ByteArray × Int)
  | 0, _, _, _, _, _, _ => none
  | k + 1, x1, x6, x8, x19, x20, x21 => if x21 < x20 then (if 0 ≤ x21 then (if x21 < (x19.length : Int) then (if ((rd_T33 x19 x21).f0).toList = x1.toList then (image_Drop.l0 k x1 x6 x8 x19 x20 (wrap64 (x21 + 1))) else ((tree_Within.f ((rd_T33 x19 x21).f0) x1).bind fun t402 => (if t402 = true then (image_Drop.l0 k x1 x6 x8 x19 x20 (wrap64 (x21 + 1))) else (if x8.length < 3518437208883 then (image_Drop.l0 k x1 x6 (x8 ++ [(⟨(rd_T33 x19 x21).f0, (rd_T33 x19 x21).f1, (rd_T33 x19 x21).f2⟩ : S33)]) x19 x20 (wrap64 (x21 + 1))) else (none))))) else (none)) else (none)) else (if (x8.length : Int) = (x6.length : Int) then (some ((⟨#[]⟩ : ByteArray), 8)) else ((image_Of.f k x8).bind fun bt406 => (some (bt406.1, bt406.2))))
def image_Drop.f (k : Nat) (a0 : ByteArray) (a1 : ByteArray) : Option (ByteArray × Int) := (image_Tree.f k a0).bind fun bt396 => (if bt396.2 = 0 then (image_Drop.l0 k a1 bt396.1 ([] : List (S33)) bt396.1 (bt396.1.length : Int) 0) else (some ((⟨#[]⟩ : ByteArray), bt396.2)))
theorem image_Drop.mono_l : ∀ k, (∀ y0 y1 y2 y3 y4 y5, LeO (image_Drop.l0 k y0 y1 y2 y3 y4 y5) (image_Drop.l0 (k + 1) y0 y1 y2 y3 y4 y5))
  | 0 => fun _ _ _ _ _ _ r h => by simp [image_Drop.l0] at h
  | k + 1 => by
    have ih0 := image_Drop.mono_l k
    · intro y0 y1 y2 y3 y4 y5
      unfold image_Drop.l0
      repeat' first
      | (with_reducible exact ih0 _ _ _ _ _ _)
      | (with_reducible exact image_Of.mono _ _)
      | (with_reducible exact image_Tree.mono _ _)
      | (with_reducible exact LeO.refl _)
      | (with_reducible exact LeO.none _)
      | (with_reducible refine LeO.ite ?_ ?_)
      | (with_reducible refine LeO.bind ?_ (fun _ => ?_))
      | exact ih0 _ _ _ _ _ _
      | exact image_Of.mono _ _
      | exact image_Tree.mono _ _
      | exact LeO.none _
      | refine LeO.ite ?_ ?_
      | refine LeO.bind ?_ (fun _ => ?_)
theorem image_Drop.mono : ∀ a0 a1 k, LeO (image_Drop.f k a0 a1) (image_Drop.f (k + 1) a0 a1) := by
  intro a0 a1 k
  have ih0 := image_Drop.mono_l k
  unfold image_Drop.f
  repeat' first
      | (with_reducible exact ih0 _ _ _ _ _ _)
      | (with_reducible exact image_Of.mono _ _)
      | (with_reducible exact image_Tree.mono _ _)
      | (with_reducible exact LeO.refl _)
      | (with_reducible exact LeO.none _)
      | (with_reducible refine LeO.ite ?_ ?_)
      | (with_reducible refine LeO.bind ?_ (fun _ => ?_))
      | exact ih0 _ _ _ _ _ _
      | exact image_Of.mono _ _
      | exact image_Tree.mono _ _
      | exact LeO.none _
      | refine LeO.ite ?_ ?_
      | refine LeO.bind ?_ (fun _ => ?_)
set_option maxHeartbeats 8000000 in
set_option maxRecDepth 100000 in
theorem image_Drop.calls (k : Nat) (a0 : ByteArray) (a1 : ByteArray) (r1 : ByteArray) (r2 : Int) (w : World) (h : image_Drop.f k a0 a1 = some (r1, r2)) :
    Calls Tryd.prog 20 #[.string a0, .string a1] w fun e w' => e = .returned (.tuple #[.string r1, .int .i64 r2]) ∧ Below w.heap.size w w' := by
  have hu33 := Tryd.underlying33
  have HB := Aside0.mk (Below.refl w.heap.size w)
  have H : ((image_Tree.f k a0).bind fun bt396 => (if bt396.2 = 0 then (image_Drop.l0 k a1 bt396.1 ([] : List (S33)) bt396.1 (bt396.1.length : Int) 0) else (some ((⟨#[]⟩ : ByteArray), bt396.2)))) = some (r1, r2) := h
  clear h
  replace H := Option.bind_eq_some_iff.mp H
  obtain ⟨⟨t396, t397⟩, A30, H⟩ := H
  replace H : (if t397 = 0 then (image_Drop.l0 k a1 t396 ([] : List (S33)) t396 (t396.length : Int) 0) else (some ((⟨#[]⟩ : ByteArray), t397))) = some (r1, r2) := H
  have A3 := Aside0.mk A30
  clear A30
  by_cases c4 : t397 = 0
  · rw [if_pos c4] at H
    have c4b0 : (t397 == 0) = true := beq_iff_eq.mpr c4
    have c4b1 : (t397 != 0) = false := bne_eq_false_iff_eq.mpr c4
    clear c4
    have H' := Aside0.mk H
    clear H
    go_enter Tryd.func20, Tryd.ntmps20
    go_wp2_with (first | ((with_reducible refine gate_callee (f := 17) rfl ?_); refine goesL_ (some 13) rfl rfl Tryd.func17 (by kernel_rfl) rfl #[.string a0] rfl (by (try simp only [List.map_toArray, List.map_cons, List.map_nil]); first | done | rfl | (simp only [List.length_drop, List.length_take]; rfl)) ?_; (with_reducible refine (image_Tree.calls k a0 t396 t397 _ A3.out).mono ?_); rintro e w5 ⟨v398, rfl, ho0, hb⟩; refine ⟨_, rfl, ?_⟩; have n0_ := Aside0.mk (Kd.R_lower ho0 (below_size (by repeat (first | (with_reducible first | exact HB.out | apply below_alloc | apply pw_below_drewN | apply below_drew1) | exact HB.out)))); have n1_ := Aside0.mk (below_step (by repeat (first | (with_reducible first | exact HB.out | apply below_alloc | apply pw_below_drewN | apply below_drew1) | exact HB.out)) hb); clear HB; have HO399 := n0_; have HB := n1_; clear n0_ n1_; (try clear hb); (try clear hb2); (try clear hk); (try clear hi); (try clear ho0); obtain ⟨Ao6, co6, eo6⟩ := Kd.R_slice HO399.out; subst eo6))
    go_loopg [8, 21] k (fun kq v8 v21 w' => ∃ (x8_1 : List (S33)) (x21_1 : Int), v21 = .int .i64 x21_1 ∧ Aside0 (image_Drop.l0 kq a1 t396 x8_1 t396 (t396.length : Int) x21_1 = some (r1, r2)) ∧ Aside0 (kq ≤ k) ∧ Aside0 (Kd.R k33 33 w' w.heap.size (fun k_ => some k_ ≠ (v8 : Value).ownBlock) (.slice Ao6 t396.length co6) t396) ∧ Aside0 (Kd.R k33 33 w' w.heap.size (fun k_ => some k_ ≠ ((.slice Ao6 t396.length co6) : Value).ownBlock ∧ some k_ ≠ ((.slice Ao6 t396.length co6) : Value).ownBlock) v8 x8_1) ∧ Aside0 (Kd.R k33 33 w' w.heap.size (fun k_ => some k_ ≠ (v8 : Value).ownBlock) (.slice Ao6 t396.length co6) t396) ∧ Aside0 (Below w.heap.size w w'))
    case atStart => exact ⟨(([] : List (S33))), (0), (by first | rfl | (simp; done) | (simp [*]; done)), H', ⟨Nat.le_refl _⟩, ⟨by (with_reducible repeat (first | apply Kd.R_alloc | apply Kd.R_drewN | apply Kd.R_drew)); exact Kd.R_mono HO399.out (fun _ hk => (by simp [Value.ownBlock]))⟩, ⟨by first | exact Kd.R_nil _ _ _ _ _ | exact Kd.N_nil _ _ _ _ _ | exact Kd.V_nil _ _ _ _ _ | exact Kd.Q_nil _ _ _ _ _ | exact Kd.S_nil _ _ _ _ _⟩, ⟨by (with_reducible repeat (first | apply Kd.R_alloc | apply Kd.R_drewN | apply Kd.R_drew)); exact Kd.R_mono HO399.out (fun _ hk => (by simp [Value.ownBlock]))⟩, ⟨by repeat (first | (with_reducible first | exact HB.out | apply below_alloc | apply pw_below_drewN | apply below_drew1) | exact HB.out)⟩⟩
    case round =>
      clear H'
      try clear c1
      try clear c2
      try clear p2
      try clear c4
      try clear c4b0
      try clear c4b1
      obtain ⟨x8_1, x21_1, rfl, HA, HK1, HO_6, HO_8, HO_19, HB⟩ := hrel
      cases gk with
      | zero => exact absurd HA.out (by simp [image_Drop.l0])
      | succ k1 =>
        have H := HA.out
        clear HA
        simp only [image_Drop.l0] at H
        by_cases c7 : x21_1 < (t396.length : Int)
        · rw [if_pos c7] at H
          have c7b0 : decide (x21_1 < (t396.length : Int)) = true := decide_eq_true c7
          clear c7
          by_cases c8 : 0 ≤ x21_1
          · rw [if_pos c8] at H
            have c8b0 : decide (0 ≤ x21_1) = true := decide_eq_true c8
            clear c8
            by_cases c9 : x21_1 < (t396.length : Int)
            · rw [if_pos c9] at H
              have c9b0 : decide (x21_1 < (t396.length : Int)) = true := decide_eq_true c9
              clear c9
              by_cases c10 : ((rd_T33 t396 x21_1).f0).toList = a1.toList
              · rw [if_pos c10] at H
                have c10b0 : (((rd_T33 t396 x21_1).f0).toList == a1.toList) = true := beq_iff_eq.mpr c10
                have c10b1 : (((rd_T33 t396 x21_1).f0).toList != a1.toList) = false := bne_eq_false_iff_eq.mpr c10
                clear c10
                have H' := Aside0.mk H
                clear H
                have p400 : 0 ≤ (x21_1 : Int) := of_decide_eq_true (by first | (with_reducible assumption) | assumption)
                have q400 : x21_1 < (t396.length : Int) := of_decide_eq_true (by first | (with_reducible assumption) | assumption)
                obtain ⟨ad400, e400, hx400_0, hx400_1, hx400_2⟩ := at_T33 (Kd.R_reads' HO_19.out).2.2 x21_1 p400 q400
                cases e400
                replace p400 := eq_true p400
                replace q400 := eq_true q400
                go_wp2_with (first | ((with_reducible refine gate_dst (N := 10) rfl ?_); refine box_event ?hg (N := 10) ?hd (cs := #[.string (⟨#[]⟩ : ByteArray), .int .i64 0, .string (⟨#[]⟩ : ByteArray)]) (t := 33) ?hr ?_; (case hd => rfl); (case hg => rfl); (case hr => first | (go_simp; done) | (go_simp; rfl)); intro gb401 hg w11 hbox hb; have n0_ := Aside0.mk (Kd.R_below (Kd.R_elderB (by (with_reducible repeat (first | apply Kd.R_alloc | apply Kd.R_drewN | apply Kd.R_drew)); exact HO_6.out) gb401 (Nat.le_of_eq hg.symm)) hb); have n1_ := Aside0.mk (Kd.R_below (Kd.R_elderB (by (with_reducible repeat (first | apply Kd.R_alloc | apply Kd.R_drewN | apply Kd.R_drew)); exact HO_8.out) gb401 (Nat.le_of_eq hg.symm)) hb); have n2_ := Aside0.mk (Kd.R_below (Kd.R_elderB (by (with_reducible repeat (first | apply Kd.R_alloc | apply Kd.R_drewN | apply Kd.R_drew)); exact HO_19.out) gb401 (Nat.le_of_eq hg.symm)) hb); have n3_ := Aside0.mk (below_step (by repeat (first | (with_reducible first | exact HB.out | apply below_alloc | apply pw_below_drewN | apply below_drew1) | exact HB.out)) hb); have n4_ := Aside0.mk (hbox); have n5_ := Aside0.mk ((by rw [hg]; exact (below_size (by repeat (first | (with_reducible first | exact HB.out | apply below_alloc | apply pw_below_drewN | apply below_drew1) | exact HB.out))) : w.heap.size ≤ gb401)); have n6_ := Aside0.mk ((by rw [hg]; exact (below_size (by repeat (first | (with_reducible first | exact HB.out | apply below_alloc | apply pw_below_drewN | apply below_drew1) | exact HB.out))) : w.heap.size ≤ gb401)); clear HO_6; clear HO_8; clear HO_19; clear HB; have HO_6 := n0_; have HO_8 := n1_; have HO_19 := n2_; have HB := n3_; have BK401 := n4_; have GW401 := n5_; have GE401 := n6_; clear n0_ n1_ n2_ n3_ n4_ n5_ n6_; clear hb hbox hg; have hcz12_0 : w11.cell? ⟨gb401, 0, none⟩ = some (.string (⟨#[]⟩ : ByteArray)) := (blk_cell BK401.out 0).trans rfl; have hcz12_1 : w11.cell? ⟨gb401, 1, none⟩ = some (.int .i64 0) := (blk_cell BK401.out 1).trans rfl; have hcz12_2 : w11.cell? ⟨gb401, 2, none⟩ = some (.string (⟨#[]⟩ : ByteArray)) := (blk_cell BK401.out 2).trans rfl; have hfz12_0 := blk_frozen BK401.out 0; have hfz12_1 := blk_frozen BK401.out 1; have hfz12_2 := blk_frozen BK401.out 2))
                go_roundg k1
                case measure => have := HK1.out; omega
                case rel => exact ⟨(x8_1), (wrap64 (x21_1 + 1)), (by first | rfl | (simp; done) | (simp [*]; done)), H', ⟨by have := HK1.out; omega⟩, ⟨by (with_reducible repeat (first | apply Kd.R_alloc | apply Kd.R_drewN | apply Kd.R_drew)); exact Kd.R_mono (Kd.R_far (p := ⟨gb401, 2, none⟩) (Kd.R_far (p := ⟨gb401, 1, none⟩) (Kd.R_far (p := ⟨gb401, 0, none⟩) (Kd.R_mono HO_6.out (fun k_ hk => (⟨hk, hk.2⟩ : _ ∧ k_ ≠ gb401))) (fun _ hk => hk.2) (.string ((rd_T33 t396 x21_1).f0))) (fun _ hk => hk.2) (.int .i64 ((rd_T33 t396 x21_1).f1))) (fun _ hk => hk.2) (.string ((rd_T33 t396 x21_1).f2))) (fun _ hk => hk.1.1)⟩, ⟨by (with_reducible repeat (first | apply Kd.R_alloc | apply Kd.R_drewN | apply Kd.R_drew)); exact Kd.R_mono (Kd.R_far (p := ⟨gb401, 2, none⟩) (Kd.R_far (p := ⟨gb401, 1, none⟩) (Kd.R_far (p := ⟨gb401, 0, none⟩) (Kd.R_mono HO_8.out (fun k_ hk => (⟨hk, hk.2⟩ : _ ∧ k_ ≠ gb401))) (fun _ hk => hk.2) (.string ((rd_T33 t396 x21_1).f0))) (fun _ hk => hk.2) (.int .i64 ((rd_T33 t396 x21_1).f1))) (fun _ hk => hk.2) (.string ((rd_T33 t396 x21_1).f2))) (fun _ hk => ⟨hk.1.1.1, hk.1.1.2⟩)⟩, ⟨by (with_reducible repeat (first | apply Kd.R_alloc | apply Kd.R_drewN | apply Kd.R_drew)); exact Kd.R_mono (Kd.R_far (p := ⟨gb401, 2, none⟩) (Kd.R_far (p := ⟨gb401, 1, none⟩) (Kd.R_far (p := ⟨gb401, 0, none⟩) (Kd.R_mono HO_19.out (fun k_ hk => (⟨hk, hk.2⟩ : _ ∧ k_ ≠ gb401))) (fun _ hk => hk.2) (.string ((rd_T33 t396 x21_1).f0))) (fun _ hk => hk.2) (.int .i64 ((rd_T33 t396 x21_1).f1))) (fun _ hk => hk.2) (.string ((rd_T33 t396 x21_1).f2))) (fun _ hk => hk.1.1)⟩, ⟨by repeat (first | (with_reducible first | exact HB.out | apply below_alloc | apply pw_below_drewN | apply below_drew1 | refine below_set ?_ GE401.out) | exact HB.out)⟩⟩
              · rw [if_neg c10] at H
                have c10b0 : (((rd_T33 t396 x21_1).f0).toList == a1.toList) = false := beq_eq_false_iff_ne.mpr c10
                have c10b1 : (((rd_T33 t396 x21_1).f0).toList != a1.toList) = true := bne_iff_ne.mpr c10
                replace H := Option.bind_eq_some_iff.mp H
                obtain ⟨t402, A130, H⟩ := H
                replace H : (if t402 = true then (image_Drop.l0 k1 a1 t396 x8_1 t396 (t396.length : Int) (wrap64 (x21_1 + 1))) else (if x8_1.length < 3518437208883 then (image_Drop.l0 k1 a1 t396 (x8_1 ++ [(⟨(rd_T33 t396 x21_1).f0, (rd_T33 t396 x21_1).f1, (rd_T33 t396 x21_1).f2⟩ : S33)]) t396 (t396.length : Int) (wrap64 (x21_1 + 1))) else (none))) = some (r1, r2) := H
                have A13 := Aside0.mk A130
                clear A130
                by_cases c14 : t402 = true
                · subst c14
                  have H1 : (image_Drop.l0 k1 a1 t396 x8_1 t396 (t396.length : Int) (wrap64 (x21_1 + 1))) = some (r1, r2) := by rw [if_pos rfl] at H; exact H
                  clear H
                  have H := H1
                  clear H1
                  have H' := Aside0.mk H
                  clear H
                  have p400 : 0 ≤ (x21_1 : Int) := of_decide_eq_true (by first | (with_reducible assumption) | assumption)
                  have q400 : x21_1 < (t396.length : Int) := of_decide_eq_true (by first | (with_reducible assumption) | assumption)
                  obtain ⟨ad400, e400, hx400_0, hx400_1, hx400_2⟩ := at_T33 (Kd.R_reads' HO_19.out).2.2 x21_1 p400 q400
                  cases e400
                  replace p400 := eq_true p400
                  replace q400 := eq_true q400
                  go_wp2_with (first | ((with_reducible refine gate_dst (N := 10) rfl ?_); refine box_event ?hg (N := 10) ?hd (cs := #[.string (⟨#[]⟩ : ByteArray), .int .i64 0, .string (⟨#[]⟩ : ByteArray)]) (t := 33) ?hr ?_; (case hd => rfl); (case hg => rfl); (case hr => first | (go_simp; done) | (go_simp; rfl)); intro gb401 hg w15 hbox hb; have n0_ := Aside0.mk (Kd.R_below (Kd.R_elderB (by (with_reducible repeat (first | apply Kd.R_alloc | apply Kd.R_drewN | apply Kd.R_drew)); exact HO_6.out) gb401 (Nat.le_of_eq hg.symm)) hb); have n1_ := Aside0.mk (Kd.R_below (Kd.R_elderB (by (with_reducible repeat (first | apply Kd.R_alloc | apply Kd.R_drewN | apply Kd.R_drew)); exact HO_8.out) gb401 (Nat.le_of_eq hg.symm)) hb); have n2_ := Aside0.mk (Kd.R_below (Kd.R_elderB (by (with_reducible repeat (first | apply Kd.R_alloc | apply Kd.R_drewN | apply Kd.R_drew)); exact HO_19.out) gb401 (Nat.le_of_eq hg.symm)) hb); have n3_ := Aside0.mk (below_step (by repeat (first | (with_reducible first | exact HB.out | apply below_alloc | apply pw_below_drewN | apply below_drew1) | exact HB.out)) hb); have n4_ := Aside0.mk (hbox); have n5_ := Aside0.mk ((by rw [hg]; exact (below_size (by repeat (first | (with_reducible first | exact HB.out | apply below_alloc | apply pw_below_drewN | apply below_drew1) | exact HB.out))) : w.heap.size ≤ gb401)); have n6_ := Aside0.mk ((by rw [hg]; exact (below_size (by repeat (first | (with_reducible first | exact HB.out | apply below_alloc | apply pw_below_drewN | apply below_drew1) | exact HB.out))) : w.heap.size ≤ gb401)); clear HO_6; clear HO_8; clear HO_19; clear HB; have HO_6 := n0_; have HO_8 := n1_; have HO_19 := n2_; have HB := n3_; have BK401 := n4_; have GW401 := n5_; have GE401 := n6_; clear n0_ n1_ n2_ n3_ n4_ n5_ n6_; clear hb hbox hg; have hcz16_0 : w15.cell? ⟨gb401, 0, none⟩ = some (.string (⟨#[]⟩ : ByteArray)) := (blk_cell BK401.out 0).trans rfl; have hcz16_1 : w15.cell? ⟨gb401, 1, none⟩ = some (.int .i64 0) := (blk_cell BK401.out 1).trans rfl; have hcz16_2 : w15.cell? ⟨gb401, 2, none⟩ = some (.string (⟨#[]⟩ : ByteArray)) := (blk_cell BK401.out 2).trans rfl; have hfz16_0 := blk_frozen BK401.out 0; have hfz16_1 := blk_frozen BK401.out 1; have hfz16_2 := blk_frozen BK401.out 2) | (go_at_call 39; (with_reducible refine (tree_Within.calls ((rd_T33 t396 x21_1).f0) a1 true _ A13.out).mono ?_); rintro e w' ⟨rfl, ⟨nd, rfl⟩⟩))
                  go_roundg k1
                  case measure => have := HK1.out; omega
                  case rel => exact ⟨(x8_1), (wrap64 (x21_1 + 1)), (by first | rfl | (simp; done) | (simp [*]; done)), H', ⟨by have := HK1.out; omega⟩, ⟨by (with_reducible repeat (first | apply Kd.R_alloc | apply Kd.R_drewN | apply Kd.R_drew)); exact Kd.R_mono (Kd.R_far (p := ⟨gb401, 2, none⟩) (Kd.R_far (p := ⟨gb401, 1, none⟩) (Kd.R_far (p := ⟨gb401, 0, none⟩) (Kd.R_mono HO_6.out (fun k_ hk => (⟨hk, hk.2⟩ : _ ∧ k_ ≠ gb401))) (fun _ hk => hk.2) (.string ((rd_T33 t396 x21_1).f0))) (fun _ hk => hk.2) (.int .i64 ((rd_T33 t396 x21_1).f1))) (fun _ hk => hk.2) (.string ((rd_T33 t396 x21_1).f2))) (fun _ hk => hk.1.1)⟩, ⟨by (with_reducible repeat (first | apply Kd.R_alloc | apply Kd.R_drewN | apply Kd.R_drew)); exact Kd.R_mono (Kd.R_far (p := ⟨gb401, 2, none⟩) (Kd.R_far (p := ⟨gb401, 1, none⟩) (Kd.R_far (p := ⟨gb401, 0, none⟩) (Kd.R_mono HO_8.out (fun k_ hk => (⟨hk, hk.2⟩ : _ ∧ k_ ≠ gb401))) (fun _ hk => hk.2) (.string ((rd_T33 t396 x21_1).f0))) (fun _ hk => hk.2) (.int .i64 ((rd_T33 t396 x21_1).f1))) (fun _ hk => hk.2) (.string ((rd_T33 t396 x21_1).f2))) (fun _ hk => ⟨hk.1.1.1, hk.1.1.2⟩)⟩, ⟨by (with_reducible repeat (first | apply Kd.R_alloc | apply Kd.R_drewN | apply Kd.R_drew)); exact Kd.R_mono (Kd.R_far (p := ⟨gb401, 2, none⟩) (Kd.R_far (p := ⟨gb401, 1, none⟩) (Kd.R_far (p := ⟨gb401, 0, none⟩) (Kd.R_mono HO_19.out (fun k_ hk => (⟨hk, hk.2⟩ : _ ∧ k_ ≠ gb401))) (fun _ hk => hk.2) (.string ((rd_T33 t396 x21_1).f0))) (fun _ hk => hk.2) (.int .i64 ((rd_T33 t396 x21_1).f1))) (fun _ hk => hk.2) (.string ((rd_T33 t396 x21_1).f2))) (fun _ hk => hk.1.1)⟩, ⟨by repeat (first | (with_reducible first | exact HB.out | apply below_alloc | apply pw_below_drewN | apply below_drew1 | refine below_set ?_ GE401.out) | exact HB.out)⟩⟩
                · replace c14 := Bool.eq_false_iff.mpr c14
                  subst c14
                  have H1 : (if x8_1.length < 3518437208883 then (image_Drop.l0 k1 a1 t396 (x8_1 ++ [(⟨(rd_T33 t396 x21_1).f0, (rd_T33 t396 x21_1).f1, (rd_T33 t396 x21_1).f2⟩ : S33)]) t396 (t396.length : Int) (wrap64 (x21_1 + 1))) else (none)) = some (r1, r2) := by rw [if_neg (show ¬ (false = true) by decide)] at H; exact H
                  clear H
                  have H := H1
                  clear H1
                  by_cases c17 : x8_1.length < 3518437208883
                  · rw [if_pos c17] at H
                    have LMc17 := Aside0.mk c17
                    clear c17
                    obtain ⟨y403, hy403⟩ : ∃ y_ : List (S33), y_ = (x8_1 ++ [(⟨(rd_T33 t396 x21_1).f0, (rd_T33 t396 x21_1).f1, (rd_T33 t396 x21_1).f2⟩ : S33)]) := ⟨_, rfl⟩
                    replace H : (image_Drop.l0 k1 a1 t396 y403 t396 (t396.length : Int) (wrap64 (x21_1 + 1))) = some (r1, r2) := by first | (rw [hy403]; with_reducible exact H) | (have H2_ := (Option.bind_some _ _).symm.trans H; rw [hy403]; with_reducible exact H2_) | (have H2_ := (Option.bind_some _ _).symm.trans H; with_reducible exact H2_) | with_reducible exact H | (rw [hy403]; exact H) | exact H
                    have Ny403 := Aside0.mk hy403
                    clear hy403
                    have H' := Aside0.mk H
                    clear H
                    have p400 : 0 ≤ (x21_1 : Int) := of_decide_eq_true (by first | (with_reducible assumption) | assumption)
                    have q400 : x21_1 < (t396.length : Int) := of_decide_eq_true (by first | (with_reducible assumption) | assumption)
                    obtain ⟨ad400, e400, hx400_0, hx400_1, hx400_2⟩ := at_T33 (Kd.R_reads' HO_19.out).2.2 x21_1 p400 q400
                    cases e400
                    replace p400 := eq_true p400
                    replace q400 := eq_true q400
                    go_wp2_with (first | ((with_reducible refine gate_dst (N := 10) rfl ?_); refine box_event ?hg (N := 10) ?hd (cs := #[.string (⟨#[]⟩ : ByteArray), .int .i64 0, .string (⟨#[]⟩ : ByteArray)]) (t := 33) ?hr ?_; (case hd => rfl); (case hg => rfl); (case hr => first | (go_simp; done) | (go_simp; rfl)); intro gb401 hg w18 hbox hb; have n0_ := Aside0.mk (Kd.R_below (Kd.R_elderB (by (with_reducible repeat (first | apply Kd.R_alloc | apply Kd.R_drewN | apply Kd.R_drew)); exact HO_6.out) gb401 (Nat.le_of_eq hg.symm)) hb); have n1_ := Aside0.mk (Kd.R_below (Kd.R_elderB (by (with_reducible repeat (first | apply Kd.R_alloc | apply Kd.R_drewN | apply Kd.R_drew)); exact HO_8.out) gb401 (Nat.le_of_eq hg.symm)) hb); have n2_ := Aside0.mk (Kd.R_below (Kd.R_elderB (by (with_reducible repeat (first | apply Kd.R_alloc | apply Kd.R_drewN | apply Kd.R_drew)); exact HO_19.out) gb401 (Nat.le_of_eq hg.symm)) hb); have n3_ := Aside0.mk (below_step (by repeat (first | (with_reducible first | exact HB.out | apply below_alloc | apply pw_below_drewN | apply below_drew1) | exact HB.out)) hb); have n4_ := Aside0.mk (hbox); have n5_ := Aside0.mk ((by rw [hg]; exact (below_size (by repeat (first | (with_reducible first | exact HB.out | apply below_alloc | apply pw_below_drewN | apply below_drew1) | exact HB.out))) : w.heap.size ≤ gb401)); have n6_ := Aside0.mk ((by rw [hg]; exact (below_size (by repeat (first | (with_reducible first | exact HB.out | apply below_alloc | apply pw_below_drewN | apply below_drew1) | exact HB.out))) : w.heap.size ≤ gb401)); clear HO_6; clear HO_8; clear HO_19; clear HB; have HO_6 := n0_; have HO_8 := n1_; have HO_19 := n2_; have HB := n3_; have BK401 := n4_; have GW401 := n5_; have GE401 := n6_; clear n0_ n1_ n2_ n3_ n4_ n5_ n6_; clear hb hbox hg; have hcz19_0 : w18.cell? ⟨gb401, 0, none⟩ = some (.string (⟨#[]⟩ : ByteArray)) := (blk_cell BK401.out 0).trans rfl; have hcz19_1 : w18.cell? ⟨gb401, 1, none⟩ = some (.int .i64 0) := (blk_cell BK401.out 1).trans rfl; have hcz19_2 : w18.cell? ⟨gb401, 2, none⟩ = some (.string (⟨#[]⟩ : ByteArray)) := (blk_cell BK401.out 2).trans rfl; have hfz19_0 := blk_frozen BK401.out 0; have hfz19_1 := blk_frozen BK401.out 1; have hfz19_2 := blk_frozen BK401.out 2) | (go_at_call 39; (with_reducible refine (tree_Within.calls ((rd_T33 t396 x21_1).f0) a1 false _ A13.out).mono ?_); rintro e w' ⟨rfl, ⟨nd, rfl⟩⟩) | ((with_reducible refine gate_builtin (b := .append) (xs := #[.tmp 36, .tmp 38]) rfl ?_); at_builtin; refine Kd.R_append k33 (w0 := w) w.heap.size rfl (.tmp 36) (.tmp 38) 22 33 (.agg #[(.string ⟨#[]⟩), (.int .i64 0), (.string ⟨#[]⟩)]) 40 rfl Tryd.underlying22 info33 rfl (by decide) (by omega) u8 x8_1 (⟨(rd_T33 t396 x21_1).f0, (rd_T33 t396 x21_1).f1, (rd_T33 t396 x21_1).f2⟩ : S33) [.string ((rd_T33 t396 x21_1).f0), .int .i64 ((rd_T33 t396 x21_1).f1), .string ((rd_T33 t396 x21_1).f2)] (fun k_ => some k_ ≠ (.slice (some ad400) t396.length co6 : Value).ownBlock ∧ some k_ ≠ (.slice (some ad400) t396.length co6 : Value).ownBlock ∧ k_ ≠ gb401) (fun _ => False) rfl (by first | (go_simp; done) | (go_simp; rfl)) ?aP (fun _ hk => hk.elim) ?aF ?aO ?aB ?aS ?aL ?_; (case aP => exact k33_mkM _ _ _ (⟨(rd_T33 t396 x21_1).f0, (rd_T33 t396 x21_1).f1, (rd_T33 t396 x21_1).f2⟩ : S33)); (case aB => exact (by repeat (first | (with_reducible first | exact HB.out | apply below_alloc | apply pw_below_drewN | apply below_drew1 | refine below_set ?_ GE401.out) | exact HB.out))); (case aF => exact (fun k_ hk => ⟨Kd.fresh' (Kd.R_lt (by (with_reducible repeat (first | apply Kd.R_alloc | apply Kd.R_drewN | apply Kd.R_drew)); exact (Kd.R_mono (Kd.R_far (p := ⟨gb401, 2, none⟩) (Kd.R_far (p := ⟨gb401, 1, none⟩) (Kd.R_far (p := ⟨gb401, 0, none⟩) (Kd.R_mono HO_6.out (fun k_ hk => (⟨hk, hk.2⟩ : _ ∧ k_ ≠ gb401))) (fun _ hk => hk.2) (.string ((rd_T33 t396 x21_1).f0))) (fun _ hk => hk.2) (.int .i64 ((rd_T33 t396 x21_1).f1))) (fun _ hk => hk.2) (.string ((rd_T33 t396 x21_1).f2))) (fun _ h_ => h_.1)))) k_ hk, Kd.fresh' (Kd.R_lt (by (with_reducible repeat (first | apply Kd.R_alloc | apply Kd.R_drewN | apply Kd.R_drew)); exact (Kd.R_mono (Kd.R_far (p := ⟨gb401, 2, none⟩) (Kd.R_far (p := ⟨gb401, 1, none⟩) (Kd.R_far (p := ⟨gb401, 0, none⟩) (Kd.R_mono HO_19.out (fun k_ hk => (⟨hk, hk.2⟩ : _ ∧ k_ ≠ gb401))) (fun _ hk => hk.2) (.string ((rd_T33 t396 x21_1).f0))) (fun _ hk => hk.2) (.int .i64 ((rd_T33 t396 x21_1).f1))) (fun _ hk => hk.2) (.string ((rd_T33 t396 x21_1).f2))) (fun _ h_ => h_.1)))) k_ hk, Kd.freshB (g := gb401) (o := .cells #[.string ((rd_T33 t396 x21_1).f0), .int .i64 ((rd_T33 t396 x21_1).f1), .string ((rd_T33 t396 x21_1).f2)] 33 (0, 0)) (by (with_reducible repeat (first | refine blk_drewN ?_ _ | refine blk_drew ?_ | refine blk_alloc ?_ _)); refine blk_put (cs := #[.string ((rd_T33 t396 x21_1).f0), .int .i64 ((rd_T33 t396 x21_1).f1), .string (⟨#[]⟩ : ByteArray)]) ?_ 2 _ rfl; (with_reducible repeat (first | refine blk_drewN ?_ _ | refine blk_drew ?_ | refine blk_alloc ?_ _)); refine blk_put (cs := #[.string ((rd_T33 t396 x21_1).f0), .int .i64 0, .string (⟨#[]⟩ : ByteArray)]) ?_ 1 _ rfl; (with_reducible repeat (first | refine blk_drewN ?_ _ | refine blk_drew ?_ | refine blk_alloc ?_ _)); refine blk_put (cs := #[.string (⟨#[]⟩ : ByteArray), .int .i64 0, .string (⟨#[]⟩ : ByteArray)]) ?_ 0 _ rfl; (with_reducible repeat (first | refine blk_drewN ?_ _ | refine blk_drew ?_ | refine blk_alloc ?_ _)); exact BK401.out) k_ hk⟩)); (case aO => exact (by (with_reducible repeat (first | apply Kd.R_alloc | apply Kd.R_drewN | apply Kd.R_drew)); exact Kd.R_mono (Kd.R_far (p := ⟨gb401, 2, none⟩) (Kd.R_far (p := ⟨gb401, 1, none⟩) (Kd.R_far (p := ⟨gb401, 0, none⟩) (Kd.R_mono HO_8.out (fun k_ hk => (⟨hk, hk.2⟩ : _ ∧ k_ ≠ gb401))) (fun _ hk => hk.2) (.string ((rd_T33 t396 x21_1).f0))) (fun _ hk => hk.2) (.int .i64 ((rd_T33 t396 x21_1).f1))) (fun _ hk => hk.2) (.string ((rd_T33 t396 x21_1).f2))) (fun _ hk => ⟨hk.1.1.1, ⟨hk.1.1.2, hk.1.2⟩⟩))); (case aS => exact (below_size (by repeat (first | (with_reducible first | exact HB.out | apply below_alloc | apply pw_below_drewN | apply below_drew1 | refine below_set ?_ GE401.out) | exact HB.out)))); (case aL => have := LMc17.out; omega); intro v404 w20 ho hb hg hat; rw [← Ny403.out] at ho; have n0_ := Aside0.mk (Kd.R_after (ok := (fun k_ => k_ ≠ gb401)) (by (with_reducible repeat (first | apply Kd.R_alloc | apply Kd.R_drewN | apply Kd.R_drew)); exact Kd.R_mono (Kd.R_far (p := ⟨gb401, 2, none⟩) (Kd.R_far (p := ⟨gb401, 1, none⟩) (Kd.R_far (p := ⟨gb401, 0, none⟩) (Kd.R_mono HO_6.out (fun k_ hk => (⟨hk, hk.2⟩ : _ ∧ k_ ≠ gb401))) (fun _ hk => hk.2) (.string ((rd_T33 t396 x21_1).f0))) (fun _ hk => hk.2) (.int .i64 ((rd_T33 t396 x21_1).f1))) (fun _ hk => hk.2) (.string ((rd_T33 t396 x21_1).f2))) (fun _ hk => ⟨hk.1.2, hk.1.1⟩)) hg hat); have n1_ := Aside0.mk (Kd.R_after (ok := (fun k_ => k_ ≠ gb401)) (by (with_reducible repeat (first | apply Kd.R_alloc | apply Kd.R_drewN | apply Kd.R_drew)); exact Kd.R_mono (Kd.R_far (p := ⟨gb401, 2, none⟩) (Kd.R_far (p := ⟨gb401, 1, none⟩) (Kd.R_far (p := ⟨gb401, 0, none⟩) (Kd.R_mono HO_19.out (fun k_ hk => (⟨hk, hk.2⟩ : _ ∧ k_ ≠ gb401))) (fun _ hk => hk.2) (.string ((rd_T33 t396 x21_1).f0))) (fun _ hk => hk.2) (.int .i64 ((rd_T33 t396 x21_1).f1))) (fun _ hk => hk.2) (.string ((rd_T33 t396 x21_1).f2))) (fun _ hk => ⟨hk.1.2, hk.1.1⟩)) hg hat); have n2_ := Aside0.mk (blk_grown (g := gb401) (o := .cells #[.string ((rd_T33 t396 x21_1).f0), .int .i64 ((rd_T33 t396 x21_1).f1), .string ((rd_T33 t396 x21_1).f2)] 33 (0, 0)) (by (with_reducible repeat (first | refine blk_drewN ?_ _ | refine blk_drew ?_ | refine blk_alloc ?_ _)); refine blk_put (cs := #[.string ((rd_T33 t396 x21_1).f0), .int .i64 ((rd_T33 t396 x21_1).f1), .string (⟨#[]⟩ : ByteArray)]) ?_ 2 _ rfl; (with_reducible repeat (first | refine blk_drewN ?_ _ | refine blk_drew ?_ | refine blk_alloc ?_ _)); refine blk_put (cs := #[.string ((rd_T33 t396 x21_1).f0), .int .i64 0, .string (⟨#[]⟩ : ByteArray)]) ?_ 1 _ rfl; (with_reducible repeat (first | refine blk_drewN ?_ _ | refine blk_drew ?_ | refine blk_alloc ?_ _)); refine blk_put (cs := #[.string (⟨#[]⟩ : ByteArray), .int .i64 0, .string (⟨#[]⟩ : ByteArray)]) ?_ 0 _ rfl; (with_reducible repeat (first | refine blk_drewN ?_ _ | refine blk_drew ?_ | refine blk_alloc ?_ _)); exact BK401.out) hg (Kd.R_away HO_8.out (fun _ hk => hk.2))); have n3_ := Aside0.mk (hb); have n4_ := Aside0.mk (ho); clear HO_6; clear HO_19; clear BK401; clear HB; clear HO_8; have HO_6 := n0_; have HO_19 := n1_; have BK401 := n2_; have HB := n3_; have HO405 := n4_; clear n0_ n1_ n2_ n3_ n4_; clear ho hb hg hat))
                    go_roundg k1
                    case measure => have := HK1.out; omega
                    case rel => exact ⟨(y403), (wrap64 (x21_1 + 1)), (by first | rfl | (simp; done) | (simp [*]; done)), H', ⟨by have := HK1.out; omega⟩, ⟨by (with_reducible repeat (first | apply Kd.R_alloc | apply Kd.R_drewN | apply Kd.R_drew)); exact Kd.R_mono HO_6.out (fun _ hk => hk.2)⟩, ⟨by (with_reducible repeat (first | apply Kd.R_alloc | apply Kd.R_drewN | apply Kd.R_drew)); exact Kd.R_mono HO405.out (fun _ hk => ⟨hk.1, hk.2.1⟩)⟩, ⟨by (with_reducible repeat (first | apply Kd.R_alloc | apply Kd.R_drewN | apply Kd.R_drew)); exact Kd.R_mono HO_19.out (fun _ hk => hk.2)⟩, ⟨by repeat (first | (with_reducible first | exact HB.out | apply below_alloc | apply pw_below_drewN | apply below_drew1 | refine below_set ?_ GE401.out) | exact HB.out)⟩⟩
                  · rw [if_neg c17] at H
                    exact absurd H (by simp)
            · rw [if_neg c9] at H
              exact absurd H (by simp)
          · rw [if_neg c8] at H
            exact absurd H (by simp)
        · rw [if_neg c7] at H
          have c7b0 : decide (x21_1 < (t396.length : Int)) = false := decide_eq_false c7
          clear c7
          by_cases c21 : (x8_1.length : Int) = (t396.length : Int)
          · rw [if_pos c21] at H
            have c21b0 : ((x8_1.length : Int) == (t396.length : Int)) = true := beq_iff_eq.mpr c21
            have c21b1 : ((x8_1.length : Int) != (t396.length : Int)) = false := bne_eq_false_iff_eq.mpr c21
            have c21b2 : (x8_1.length == t396.length) = true := by first | simpa using c21 | (simp at c21 ⊢; omega)
            clear c21
            simp only [Option.some.injEq, Prod.mk.injEq] at H
            obtain ⟨rfl, rfl⟩ := H
            obtain ⟨Ao22, co22, eo22⟩ := Kd.R_slice HO_8.out
            subst eo22
            go_wp2
            go_ret2
            exact ⟨by first | rfl | (simp [errW_none, errW_some] <;> rfl) | (simp [*, errW_none, errW_some] <;> rfl), by repeat (first | (with_reducible first | exact HB.out | apply below_alloc | apply pw_below_drewN | apply below_drew1) | exact HB.out)⟩
          · rw [if_neg c21] at H
            have c21b0 : ((x8_1.length : Int) == (t396.length : Int)) = false := beq_eq_false_iff_ne.mpr c21
            have c21b1 : ((x8_1.length : Int) != (t396.length : Int)) = true := bne_iff_ne.mpr c21
            have c21b2 : (x8_1.length == t396.length) = false := by first | simpa using c21 | (simp at c21 ⊢; omega)
            replace H := Option.bind_eq_some_iff.mp H
            obtain ⟨⟨t406, t407⟩, A230, H⟩ := H
            replace H : (some (t406, t407)) = some (r1, r2) := H
            have A23 := Aside0.mk A230
            clear A230
            simp only [Option.some.injEq, Prod.mk.injEq] at H
            obtain ⟨rfl, rfl⟩ := H
            obtain ⟨Ao24, co24, eo24⟩ := Kd.R_slice HO_8.out
            subst eo24
            go_wp2_with (first | ((with_reducible refine gate_callee (f := 12) rfl ?_); refine goesL_ (some 47) rfl rfl Tryd.func12 (by kernel_rfl) rfl #[.slice Ao24 x8_1.length co24] rfl (by (try simp only [List.map_toArray, List.map_cons, List.map_nil]); first | done | rfl | (simp only [List.length_drop, List.length_take]; rfl)) ?_; (with_reducible refine (image_Of.calls k1 _ _ x8_1 t406 t407 _ ?side1 ?side2 A23.out).mono ?_); (case side1 => repeat (first | exact (Kd.R_reads' HO_8.out).2.2 | (with_reducible refine Kd.C_alloc ?_ _) | (with_reducible refine Kd.C_drewN ?_ _) | (with_reducible refine Kd.C_drew ?_))); (case side2 => exact (Kd.R_reads' HO_8.out).2.1); rintro e w25 ⟨rfl, hb⟩; refine ⟨_, rfl, ?_⟩; have n0_ := Aside0.mk (Kd.R_below (by (with_reducible repeat (first | apply Kd.R_alloc | apply Kd.R_drewN | apply Kd.R_drew)); exact HO_6.out) hb); have n1_ := Aside0.mk (Kd.R_below (by (with_reducible repeat (first | apply Kd.R_alloc | apply Kd.R_drewN | apply Kd.R_drew)); exact HO_8.out) hb); have n2_ := Aside0.mk (Kd.R_below (by (with_reducible repeat (first | apply Kd.R_alloc | apply Kd.R_drewN | apply Kd.R_drew)); exact HO_19.out) hb); have n3_ := Aside0.mk (below_step (by repeat (first | (with_reducible first | exact HB.out | apply below_alloc | apply pw_below_drewN | apply below_drew1) | exact HB.out)) hb); clear HO_6; clear HO_8; clear HO_19; clear HB; have HO_6 := n0_; have HO_8 := n1_; have HO_19 := n2_; have HB := n3_; clear n0_ n1_ n2_ n3_; (try clear hb); (try clear hb2); (try clear hk); (try clear hi)))
            go_ret2
            exact ⟨by first | rfl | (simp [errW_none, errW_some] <;> rfl) | (simp [*, errW_none, errW_some] <;> rfl), by repeat (first | (with_reducible first | exact HB.out | apply below_alloc | apply pw_below_drewN | apply below_drew1) | exact HB.out)⟩
  · rw [if_neg c4] at H
    have c4b0 : (t397 == 0) = false := beq_eq_false_iff_ne.mpr c4
    have c4b1 : (t397 != 0) = true := bne_iff_ne.mpr c4
    simp only [Option.some.injEq, Prod.mk.injEq] at H
    obtain ⟨rfl, rfl⟩ := H
    go_enter Tryd.func20, Tryd.ntmps20
    go_wp2_with (first | ((with_reducible refine gate_callee (f := 17) rfl ?_); refine goesL_ (some 13) rfl rfl Tryd.func17 (by kernel_rfl) rfl #[.string a0] rfl (by (try simp only [List.map_toArray, List.map_cons, List.map_nil]); first | done | rfl | (simp only [List.length_drop, List.length_take]; rfl)) ?_; (with_reducible refine (image_Tree.calls k a0 t396 t397 _ A3.out).mono ?_); rintro e w26 ⟨v398, rfl, ho0, hb⟩; refine ⟨_, rfl, ?_⟩; have n0_ := Aside0.mk (Kd.R_lower ho0 (below_size (by repeat (first | (with_reducible first | exact HB.out | apply below_alloc | apply pw_below_drewN | apply below_drew1) | exact HB.out)))); have n1_ := Aside0.mk (below_step (by repeat (first | (with_reducible first | exact HB.out | apply below_alloc | apply pw_below_drewN | apply below_drew1) | exact HB.out)) hb); clear HB; have HO399 := n0_; have HB := n1_; clear n0_ n1_; (try clear hb); (try clear hb2); (try clear hk); (try clear hi); (try clear ho0)))
    go_ret2
    exact ⟨by first | rfl | (simp [errW_none, errW_some] <;> rfl) | (simp [*, errW_none, errW_some] <;> rfl), by repeat (first | (with_reducible first | exact HB.out | apply below_alloc | apply pw_below_drewN | apply below_drew1) | exact HB.out)⟩
end Go.Proofs.YtmeofdpmddjbgaaDoor.G
end
