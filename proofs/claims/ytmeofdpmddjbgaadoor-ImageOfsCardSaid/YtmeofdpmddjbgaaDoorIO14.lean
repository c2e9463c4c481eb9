/- Texts of this session's claim of ImageOfs, less what its theorem does not reach. No condition. -/
import Derived.ChangeArms
import Derived.ChangeOld
import Derived.DataReads
import Derived.Deep.Slices
import Derived.OpenShut
import Derived.ProofKit
import Derived.SizedLaws
import Derived.SliceStrings
import Derived.Test.YtmeofdpmddjbgaaDoorIO11
import Derived.Test.YtmeofdpmddjbgaaDoorIO12
import Derived.Test.YtmeofdpmddjbgaaDoorIO13
section
namespace Go.Proofs.YtmeofdpmddjbgaaDoor.G
open Go.RowKit Go.Proofs.YtmeofdpmddjbgaaDoorW.PrintWords Go.Proofs.YtmeofdpmddjbgaaDoorW.PrintLast Go.Proofs.YtmeofdpmddjbgaaDoorW.PrintMore
attribute [local go_sem] max2_int min2_int max_two min_two max_three min_three max_four min_four   -- for this text's walks alone
set_option linter.unusedVariables false
set_option linter.unusedSimpArgs false
def image_Size.l0 : Nat → Int → List (S33) → Int → Int → Option (Int × Int)
  | 0, _, _, _, _ => none
  | k + 1, x6, x18, x19, x20 => if x20 < x19 then (if 0 ≤ x20 then (if x20 < (x18.length : Int) then ((image_Size_1.f k (((rd_T33 x18 x20).f0).size : Int)).bind fun t189 => ((image_Size_1.f k ((rd_T33 x18 x20).f1)).bind fun t190 => ((image_Size_1.f k (((rd_T33 x18 x20).f2).size : Int)).bind fun t191 => (image_Size.l0 k (wrap64 (x6 + (wrap64 ((wrap64 ((wrap64 ((wrap64 (t189 + (((rd_T33 x18 x20).f0).size : Int))) + t190)) + t191)) + (((rd_T33 x18 x20).f2).size : Int))))) x18 x19 (wrap64 (x20 + 1)))))) else (none)) else (none)) else (if x6 > 524288 then (some (0, 4)) else (some (x6, 0)))
def image_Size.f (k : Nat) (l0 : List (S33)) : Option (Int × Int) := (tree_Check.f k l0).bind fun t185 => (if t185 = 0 then ((image_Size_1.f k (l0.length : Int)).bind fun t186 => (image_Size.l0 k t186 l0 (l0.length : Int) 0)) else (some (0, t185)))
theorem image_Size.mono_l : ∀ k, (∀ y0 y1 y2 y3, LeO (image_Size.l0 k y0 y1 y2 y3) (image_Size.l0 (k + 1) y0 y1 y2 y3))
  | 0 => fun _ _ _ _ r h => by simp [image_Size.l0] at h
  | k + 1 => by
    have ih0 := image_Size.mono_l k
    · intro y0 y1 y2 y3
      unfold image_Size.l0
      repeat' first
      | (with_reducible exact ih0 _ _ _ _)
      | (with_reducible exact image_Size_1.mono _ _)
      | (with_reducible exact tree_Check.mono _ _)
      | (with_reducible exact LeO.refl _)
      | (with_reducible exact LeO.none _)
      | (with_reducible refine LeO.ite ?_ ?_)
      | (with_reducible refine LeO.bind ?_ (fun _ => ?_))
      | exact ih0 _ _ _ _
      | exact image_Size_1.mono _ _
      | exact tree_Check.mono _ _
      | exact LeO.none _
      | refine LeO.ite ?_ ?_
      | refine LeO.bind ?_ (fun _ => ?_)
theorem image_Size.mono : ∀ a0 k, LeO (image_Size.f k a0) (image_Size.f (k + 1) a0) := by
  intro a0 k
  have ih0 := image_Size.mono_l k
  unfold image_Size.f
  repeat' first
      | (with_reducible exact ih0 _ _ _ _)
      | (with_reducible exact image_Size_1.mono _ _)
      | (with_reducible exact tree_Check.mono _ _)
      | (with_reducible exact LeO.refl _)
      | (with_reducible exact LeO.none _)
      | (with_reducible refine LeO.ite ?_ ?_)
      | (with_reducible refine LeO.bind ?_ (fun _ => ?_))
      | exact ih0 _ _ _ _
      | exact image_Size_1.mono _ _
      | exact tree_Check.mono _ _
      | exact LeO.none _
      | refine LeO.ite ?_ ?_
      | refine LeO.bind ?_ (fun _ => ?_)
def image_Size.T9 : Bool × List (List Nat × List Nat) := (true, [([], []), ([], []), ([], []), ([2], [2]), ([3], [3]), ([1, 4], [1, 4]), ([], []), ([6], [6]), ([7], [7]), ([5, 8], [5, 8]), ([], []), ([], []), ([11], [11]), ([10, 12, 5], [10, 12]), ([9, 13], [9, 13]), ([], []), ([], []), ([16], [16]), ([17], [17]), ([15, 18, 13], [15, 18]), ([14, 19], [14, 19]), ([], []), ([21], [21]), ([22], [22]), ([20, 23], [20, 23]), ([0, 24], [0, 24]), ([25, 19, 0, 1, 2, 3, 4, 5, 6, 7, 8, 9, 10, 11, 12, 13, 14, 15, 16, 17, 18, 19, 20, 21, 22, 23, 24, 25], [0, 25])])
def image_Size.B9 : List Nat := [0, 0, 0, 4, 12, 30, 0, 64, 192, 510, 0, 0, 2048, 7230, 16382, 0, 0, 65536, 196608, 506942, 1048574, 0, 2097152, 6291456, 16777214, 33554431, 67108863]
theorem image_Size.tab9 : rtab .any (opsOf Tryd.f14 9) = image_Size.T9 := by kernel_rfl
theorem image_Size.bits9 : waitsOk image_Size.T9.2 image_Size.B9 = true := by kernel_rfl
set_option maxHeartbeats 8000000 in
set_option maxRecDepth 100000 in
theorem image_Size.calls (k : Nat) (A0 : Option Addr) (c0 : Nat) (l0 : List (S33)) (r1 : Int) (r2 : Int) (w : World) (hr0 : Kd.C k33 w A0 l0.length l0) (hc0 : l0.length ≤ c0) (h : image_Size.f k l0 = some (r1, r2)) :
    Calls Tryd.prog 14 #[.slice A0 l0.length c0] w fun e w' => e = .returned (.tuple #[.int .i64 r1, .int .i64 r2]) ∧ Below w.heap.size w w' := by
  have hu33 := Tryd.underlying33
  have HR0 := Aside0.mk hr0
  have HC0 := Aside0.mk hc0
  clear hr0 hc0
  have HB := Aside0.mk (Below.refl w.heap.size w)
  have H : ((tree_Check.f k l0).bind fun t185 => (if t185 = 0 then ((image_Size_1.f k (l0.length : Int)).bind fun t186 => (image_Size.l0 k t186 l0 (l0.length : Int) 0)) else (some (0, t185)))) = some (r1, r2) := h
  clear h
  replace H := Option.bind_eq_some_iff.mp H
  obtain ⟨t185, A20, H⟩ := H
  replace H : (if t185 = 0 then ((image_Size_1.f k (l0.length : Int)).bind fun t186 => (image_Size.l0 k t186 l0 (l0.length : Int) 0)) else (some (0, t185))) = some (r1, r2) := H
  have A2 := Aside0.mk A20
  clear A20
  by_cases c3 : t185 = 0
  · rw [if_pos c3] at H
    have c3b0 : (t185 == 0) = true := beq_iff_eq.mpr c3
    have c3b1 : (t185 != 0) = false := bne_eq_false_iff_eq.mpr c3
    clear c3
    replace H := Option.bind_eq_some_iff.mp H
    obtain ⟨t186, A40, H⟩ := H
    replace H : (image_Size.l0 k t186 l0 (l0.length : Int) 0) = some (r1, r2) := H
    have A4 := Aside0.mk A40
    clear A40
    have H' := Aside0.mk H
    clear H
    go_enter Tryd.func14, Tryd.ntmps14
    go_wp2_with (first | ((with_reducible refine gate_callee (f := 27) rfl ?_); refine goesL_ (some 10) rfl rfl Tryd.func27 (by kernel_rfl) rfl #[.slice A0 l0.length c0] rfl (by (try simp only [List.map_toArray, List.map_cons, List.map_nil]); first | done | rfl | (simp only [List.length_drop, List.length_take]; rfl)) ?_; (with_reducible refine (tree_Check.calls k _ _ l0 t185 _ ?side1 ?side2 A2.out).mono ?_); (case side1 => repeat (first | exact HR0.out | (with_reducible refine Kd.C_alloc ?_ _) | (with_reducible refine Kd.C_drewN ?_ _) | (with_reducible refine Kd.C_drew ?_))); (case side2 => exact HC0.out); rintro e w5 ⟨rfl, hb⟩; refine ⟨_, rfl, ?_⟩; have n0_ := Aside0.mk (below_step (by repeat (first | (with_reducible first | exact HB.out | apply below_alloc | apply pw_below_drewN | apply below_drew1) | exact HB.out)) hb); clear HB; have HB := n0_; clear n0_; (try clear hb); (try clear hb2); (try clear hk); (try clear hi)) | ((with_reducible refine Go.Proofs.YtmeofdpmddjbgaaDoor.Fnv.gate_ rfl ?_); refine Go.Proofs.YtmeofdpmddjbgaaDoor.Fnv.goesL_ _ (some 17) rfl rfl Tryd.func36 (by kernel_rfl) rfl #[.int .i64 (l0.length : Int)] rfl (by (try simp only [List.map_toArray, List.map_cons, List.map_nil]); first | done | rfl | (simp only [List.length_drop, List.length_take]; rfl)) (by rfl) ?_; (with_reducible refine (image_Size_1.calls k (l0.length : Int) t186 _ A4.out).mono ?_); rintro e w6 ⟨rfl, hb⟩; refine ⟨_, rfl, ?_⟩; have n0_ := Aside0.mk (below_step (by repeat (first | (with_reducible first | exact HB.out | apply below_alloc | apply pw_below_drewN | apply below_drew1) | exact HB.out)) hb); clear HB; have HB := n0_; clear n0_; (try clear hb); (try clear hb2); (try clear hk); (try clear hi)))
    go_loopg [6, 20] k (fun kq v6 v20 w' => ∃ (x6_1 : Int) (x20_1 : Int), v6 = .int .i64 x6_1 ∧ v20 = .int .i64 x20_1 ∧ Aside0 (image_Size.l0 kq x6_1 l0 (l0.length : Int) x20_1 = some (r1, r2)) ∧ Aside0 (kq ≤ k) ∧ Aside0 (Below w.heap.size w w'))
    case atStart => exact ⟨(t186), (0), (by first | rfl | (simp; done) | (simp [*]; done)), (by first | rfl | (simp; done) | (simp [*]; done)), H', ⟨Nat.le_refl _⟩, ⟨by repeat (first | (with_reducible first | exact HB.out | apply below_alloc | apply pw_below_drewN | apply below_drew1) | exact HB.out)⟩⟩
    case round =>
      clear H'
      try clear c1
      try clear c2
      try clear p2
      try clear c3
      try clear c3b0
      try clear c3b1
      obtain ⟨x6_1, x20_1, rfl, rfl, HA, HK1, HB⟩ := hrel
      cases gk with
      | zero => exact absurd HA.out (by simp [image_Size.l0])
      | succ k1 =>
        have H := HA.out
        clear HA
        simp only [image_Size.l0] at H
        by_cases c7 : x20_1 < (l0.length : Int)
        · rw [if_pos c7] at H
          have c7b0 : decide (x20_1 < (l0.length : Int)) = true := decide_eq_true c7
          clear c7
          by_cases c8 : 0 ≤ x20_1
          · rw [if_pos c8] at H
            have c8b0 : decide (0 ≤ x20_1) = true := decide_eq_true c8
            clear c8
            by_cases c9 : x20_1 < (l0.length : Int)
            · rw [if_pos c9] at H
              have c9b0 : decide (x20_1 < (l0.length : Int)) = true := decide_eq_true c9
              clear c9
              replace H := Option.bind_eq_some_iff.mp H
              obtain ⟨t189, A100, H⟩ := H
              replace H : ((image_Size_1.f k1 ((rd_T33 l0 x20_1).f1)).bind fun t190 => ((image_Size_1.f k1 (((rd_T33 l0 x20_1).f2).size : Int)).bind fun t191 => (image_Size.l0 k1 (wrap64 (x6_1 + (wrap64 ((wrap64 ((wrap64 ((wrap64 (t189 + (((rd_T33 l0 x20_1).f0).size : Int))) + t190)) + t191)) + (((rd_T33 l0 x20_1).f2).size : Int))))) l0 (l0.length : Int) (wrap64 (x20_1 + 1))))) = some (r1, r2) := H
              have A10 := Aside0.mk A100
              clear A100
              replace H := Option.bind_eq_some_iff.mp H
              obtain ⟨t190, A110, H⟩ := H
              replace H : ((image_Size_1.f k1 (((rd_T33 l0 x20_1).f2).size : Int)).bind fun t191 => (image_Size.l0 k1 (wrap64 (x6_1 + (wrap64 ((wrap64 ((wrap64 ((wrap64 (t189 + (((rd_T33 l0 x20_1).f0).size : Int))) + t190)) + t191)) + (((rd_T33 l0 x20_1).f2).size : Int))))) l0 (l0.length : Int) (wrap64 (x20_1 + 1)))) = some (r1, r2) := H
              have A11 := Aside0.mk A110
              clear A110
              replace H := Option.bind_eq_some_iff.mp H
              obtain ⟨t191, A120, H⟩ := H
              replace H : (image_Size.l0 k1 (wrap64 (x6_1 + (wrap64 ((wrap64 ((wrap64 ((wrap64 (t189 + (((rd_T33 l0 x20_1).f0).size : Int))) + t190)) + t191)) + (((rd_T33 l0 x20_1).f2).size : Int))))) l0 (l0.length : Int) (wrap64 (x20_1 + 1))) = some (r1, r2) := H
              have A12 := Aside0.mk A120
              clear A120
              have H' := Aside0.mk H
              clear H
              have p187 : 0 ≤ (x20_1 : Int) := of_decide_eq_true (by first | (with_reducible assumption) | assumption)
              have q187 : x20_1 < (l0.length : Int) := of_decide_eq_true (by first | (with_reducible assumption) | assumption)
              obtain ⟨ad187, e187, hx187_0, hx187_1, hx187_2⟩ := at_T33 HR0.out x20_1 p187 q187
              cases e187
              replace hx187_0 := (HB.out.cell (World.block_lt_of_cell? w _ hx187_0)).trans hx187_0
              replace hx187_1 := (HB.out.cell (World.block_lt_of_cell? w _ hx187_1)).trans hx187_1
              replace hx187_2 := (HB.out.cell (World.block_lt_of_cell? w _ hx187_2)).trans hx187_2
              replace p187 := eq_true p187
              replace q187 := eq_true q187
              try go_wp2_with (first | ((with_reducible refine gate_dst (N := 8) rfl ?_); refine box_event ?hg (N := 8) ?hd (cs := #[.string (⟨#[]⟩ : ByteArray), .int .i64 0, .string (⟨#[]⟩ : ByteArray)]) (t := 33) ?hr ?_; (case hd => rfl); (case hg => rfl); (case hr => first | (go_simp; done) | (go_simp; rfl)); intro gb188 hg w13 hbox hb; have n0_ := Aside0.mk (below_step (by repeat (first | (with_reducible first | exact HB.out | apply below_alloc | apply pw_below_drewN | apply below_drew1) | exact HB.out)) hb); have n1_ := Aside0.mk (hbox); have n2_ := Aside0.mk ((by rw [hg]; exact (below_size (by repeat (first | (with_reducible first | exact HB.out | apply below_alloc | apply pw_below_drewN | apply below_drew1) | exact HB.out))) : w.heap.size ≤ gb188)); have n3_ := Aside0.mk ((by rw [hg]; exact (below_size (by repeat (first | (with_reducible first | exact HB.out | apply below_alloc | apply pw_below_drewN | apply below_drew1) | exact HB.out))) : w.heap.size ≤ gb188)); clear HB; have HB := n0_; have BK188 := n1_; have GW188 := n2_; have GE188 := n3_; clear n0_ n1_ n2_ n3_; clear hb hbox hg; have hcz14_0 : w13.cell? ⟨gb188, 0, none⟩ = some (.string (⟨#[]⟩ : ByteArray)) := (blk_cell BK188.out 0).trans rfl; have hcz14_1 : w13.cell? ⟨gb188, 1, none⟩ = some (.int .i64 0) := (blk_cell BK188.out 1).trans rfl; have hcz14_2 : w13.cell? ⟨gb188, 2, none⟩ = some (.string (⟨#[]⟩ : ByteArray)) := (blk_cell BK188.out 2).trans rfl; have hfz14_0 := blk_frozen BK188.out 0; have hfz14_1 := blk_frozen BK188.out 1; have hfz14_2 := blk_frozen BK188.out 2))
              have n0_ : Aside0 ((((w13.setCell ⟨gb188, 0, none⟩ (.string ((rd_T33 l0 x20_1).f0))).setCell ⟨gb188, 1, none⟩ (.int .i64 ((rd_T33 l0 x20_1).f1))).setCell ⟨gb188, 2, none⟩ (.string ((rd_T33 l0 x20_1).f2))).heap[gb188]? = some (.cells #[.string ((rd_T33 l0 x20_1).f0), .int .i64 ((rd_T33 l0 x20_1).f1), .string ((rd_T33 l0 x20_1).f2)] 33 (0, 0))) := ⟨by (with_reducible repeat (first | refine blk_drewN ?_ _ | refine blk_drew ?_ | refine blk_alloc ?_ _)); refine blk_put (cs := #[.string ((rd_T33 l0 x20_1).f0), .int .i64 ((rd_T33 l0 x20_1).f1), .string (⟨#[]⟩ : ByteArray)]) ?_ 2 _ rfl; (with_reducible repeat (first | refine blk_drewN ?_ _ | refine blk_drew ?_ | refine blk_alloc ?_ _)); refine blk_put (cs := #[.string ((rd_T33 l0 x20_1).f0), .int .i64 0, .string (⟨#[]⟩ : ByteArray)]) ?_ 1 _ rfl; (with_reducible repeat (first | refine blk_drewN ?_ _ | refine blk_drew ?_ | refine blk_alloc ?_ _)); refine blk_put (cs := #[.string (⟨#[]⟩ : ByteArray), .int .i64 0, .string (⟨#[]⟩ : ByteArray)]) ?_ 0 _ rfl; (with_reducible repeat (first | refine blk_drewN ?_ _ | refine blk_drew ?_ | refine blk_alloc ?_ _)); exact BK188.out⟩
              have n1_ : Aside0 (Below w.heap.size w (((w13.setCell ⟨gb188, 0, none⟩ (.string ((rd_T33 l0 x20_1).f0))).setCell ⟨gb188, 1, none⟩ (.int .i64 ((rd_T33 l0 x20_1).f1))).setCell ⟨gb188, 2, none⟩ (.string ((rd_T33 l0 x20_1).f2)))) := ⟨by repeat (first | (with_reducible first | exact HB.out | apply below_alloc | apply pw_below_drewN | apply below_drew1 | refine below_set ?_ GE188.out) | exact HB.out)⟩
              (try clear BK188)
              (try clear HB)
              generalize (((w13.setCell ⟨gb188, 0, none⟩ (.string ((rd_T33 l0 x20_1).f0))).setCell ⟨gb188, 1, none⟩ (.int .i64 ((rd_T33 l0 x20_1).f1))).setCell ⟨gb188, 2, none⟩ (.string ((rd_T33 l0 x20_1).f2))) = w15 at n0_ n1_ ⊢
              have BK188 := n0_
              have HB := n1_
              clear n0_ n1_
              have n0_ := Aside0.mk (blk_drew BK188.out)
              have n1_ := Aside0.mk (below_drew1 HB.out)
              clear BK188
              clear HB
              have BK188 := n0_
              have HB := n1_
              clear n0_ n1_
              refine start_ (n := 27) (S := fun w' => w'.cell? ⟨gb188, 0, none⟩ = some (.string ((rd_T33 l0 x20_1).f0)) ∧ w'.cell? ⟨gb188, 1, none⟩ = some (.int .i64 ((rd_T33 l0 x20_1).f1)) ∧ w'.cell? ⟨gb188, 2, none⟩ = some (.string ((rd_T33 l0 x20_1).f2))) (ds := []) #[false, false, false, false, false, false, false, false, false, false, false, false, false, false, false, false, false, false, false, false, false, false, false, false, false, false, false] (by kernel_rfl) rfl rfl ⟨(blk_cell BK188.out 0).trans rfl, (blk_cell BK188.out 1).trans rfl, (blk_cell BK188.out 2).trans rfl⟩ (fun hHeld => ?_); refine with_tabW image_Size.tab9 image_Size.bits9 (fun HT_ HW_ => ?_)
              generalize w15.drew = w16 at BK188 HB hHeld ⊢
              refine pure_ (i := 0) (N := some 24) (v := ?_) (a' := ?_) #[true, false, false, false, false, false, false, false, false, false, false, false, false, false, false, false, false, false, false, false, false, false, false, false, false, false, false] rfl rfl (any_of HT_.out (by kernel_rfl)) (fun _ _ _ h => h) (Or.inl ⟨by rfl, ?_⟩) ?_ ?_
              rotate_left
              · intro w'
                go_simp
                with_reducible rfl
              rotate_left
              · simp only [Act.put, List.setIfInBounds_toArray, List.set_cons_zero, List.set_cons_succ, i64_w, i32_w]
                rfl
              refine pure_ (i := 1) (N := some 25) (v := ?_) (a' := ?_) #[true, true, false, false, false, false, false, false, false, false, false, false, false, false, false, false, false, false, false, false, false, false, false, false, false, false, false] rfl rfl (any_of HT_.out (by kernel_rfl)) (fun _ _ _ h => h) (Or.inl ⟨by rfl, ?_⟩) ?_ ?_
              rotate_left
              · intro w'
                go_simp
                with_reducible rfl
              rotate_left
              · simp only [Act.put, List.setIfInBounds_toArray, List.set_cons_zero, List.set_cons_succ, i64_w, i32_w]
                rfl
              refine pure_ (i := 2) (N := some 26) (v := ?_) (a' := ?_) #[true, true, true, false, false, false, false, false, false, false, false, false, false, false, false, false, false, false, false, false, false, false, false, false, false, false, false] rfl rfl (any_of HT_.out (by kernel_rfl)) (fun _ _ _ h => h) (Or.inl ⟨by rfl, ?_⟩) ?_ ?_
              rotate_left
              · intro w'
                go_simp
                with_reducible rfl
              rotate_left
              · simp only [Act.put, List.setIfInBounds_toArray, List.set_cons_zero, List.set_cons_succ, i64_w, i32_w]
                rfl
              refine pure_ (i := 6) (N := some 30) (v := ?_) (a' := ?_) #[true, true, true, false, false, false, true, false, false, false, false, false, false, false, false, false, false, false, false, false, false, false, false, false, false, false, false] rfl rfl (any_of HT_.out (by kernel_rfl)) (fun _ _ _ h => h) (Or.inl ⟨by rfl, ?_⟩) ?_ ?_
              rotate_left
              · intro w'
                go_simp
                with_reducible rfl
              rotate_left
              · simp only [Act.put, List.setIfInBounds_toArray, List.set_cons_zero, List.set_cons_succ, i64_w, i32_w]
                rfl
              refine pure_ (i := 10) (N := some 34) (v := ?_) (a' := ?_) #[true, true, true, false, false, false, true, false, false, false, true, false, false, false, false, false, false, false, false, false, false, false, false, false, false, false, false] rfl rfl (any_of HT_.out (by kernel_rfl)) (fun _ _ _ h => h) (Or.inl ⟨by rfl, ?_⟩) ?_ ?_
              rotate_left
              · intro w'
                go_simp
                with_reducible rfl
              rotate_left
              · simp only [Act.put, List.setIfInBounds_toArray, List.set_cons_zero, List.set_cons_succ, i64_w, i32_w]
                rfl
              refine pure_ (i := 11) (N := some 35) (v := ?_) (a' := ?_) #[true, true, true, false, false, false, true, false, false, false, true, true, false, false, false, false, false, false, false, false, false, false, false, false, false, false, false] rfl rfl (any_of HT_.out (by kernel_rfl)) (fun _ _ _ h => h) (Or.inl ⟨by rfl, ?_⟩) ?_ ?_
              rotate_left
              · intro w'
                go_simp
                with_reducible rfl
              rotate_left
              · simp only [Act.put, List.setIfInBounds_toArray, List.set_cons_zero, List.set_cons_succ, i64_w, i32_w]
                rfl
              refine pure_ (i := 15) (N := some 39) (v := ?_) (a' := ?_) #[true, true, true, false, false, false, true, false, false, false, true, true, false, false, false, true, false, false, false, false, false, false, false, false, false, false, false] rfl rfl (any_of HT_.out (by kernel_rfl)) (fun _ _ _ h => h) (Or.inl ⟨by rfl, ?_⟩) ?_ ?_
              rotate_left
              · intro w'
                go_simp
                with_reducible rfl
              rotate_left
              · simp only [Act.put, List.setIfInBounds_toArray, List.set_cons_zero, List.set_cons_succ, i64_w, i32_w]
                rfl
              refine pure_ (i := 16) (N := some 40) (v := ?_) (a' := ?_) #[true, true, true, false, false, false, true, false, false, false, true, true, false, false, false, true, true, false, false, false, false, false, false, false, false, false, false] rfl rfl (any_of HT_.out (by kernel_rfl)) (fun _ _ _ h => h) (Or.inl ⟨by rfl, ?_⟩) ?_ ?_
              rotate_left
              · intro w'
                go_simp
                with_reducible rfl
              rotate_left
              · simp only [Act.put, List.setIfInBounds_toArray, List.set_cons_zero, List.set_cons_succ, i64_w, i32_w]
                rfl
              refine pure_ (i := 21) (N := some 45) (v := ?_) (a' := ?_) #[true, true, true, false, false, false, true, false, false, false, true, true, false, false, false, true, true, false, false, false, false, true, false, false, false, false, false] rfl rfl (any_of HT_.out (by kernel_rfl)) (fun _ _ _ h => h) (Or.inl ⟨by rfl, ?_⟩) ?_ ?_
              rotate_left
              · intro w'
                go_simp
                with_reducible rfl
              rotate_left
              · simp only [Act.put, List.setIfInBounds_toArray, List.set_cons_zero, List.set_cons_succ, i64_w, i32_w]
                rfl
              refine take_ (i := 3) (N := some 27) (v := ?_) (a' := ?_) #[true, true, true, true, false, false, true, false, false, false, true, true, false, false, false, true, true, false, false, false, false, true, false, false, false, false, false] rfl rfl (take_ofW HT_.out HW_.out (by kernel_rfl)) (fun _ _ _ h => h) (Or.inl ⟨by rfl, ?_⟩) hHeld ?_ ?_
              rotate_left
              · rintro w' ⟨s0, s1, s2⟩
                go_simp
                with_reducible rfl
              rotate_left
              · simp only [Act.put, List.setIfInBounds_toArray, List.set_cons_zero, List.set_cons_succ, i64_w, i32_w]
                rfl
              refine pure_ (i := 4) (N := some 28) (v := ?_) (a' := ?_) #[true, true, true, true, true, false, true, false, false, false, true, true, false, false, false, true, true, false, false, false, false, true, false, false, false, false, false] rfl rfl (any_of HT_.out (by kernel_rfl)) (fun _ _ _ h => h) (Or.inl ⟨by rfl, ?_⟩) ?_ ?_
              rotate_left
              · intro w'
                go_simp
                with_reducible rfl
              rotate_left
              · simp only [Act.put, List.setIfInBounds_toArray, List.set_cons_zero, List.set_cons_succ, i64_w, i32_w]
                rfl
              refine take_ (i := 7) (N := some 31) (v := ?_) (a' := ?_) #[true, true, true, true, true, false, true, true, false, false, true, true, false, false, false, true, true, false, false, false, false, true, false, false, false, false, false] rfl rfl (take_ofW HT_.out HW_.out (by kernel_rfl)) (fun _ _ _ h => h) (Or.inl ⟨by rfl, ?_⟩) hHeld ?_ ?_
              rotate_left
              · rintro w' ⟨s0, s1, s2⟩
                go_simp
                with_reducible rfl
              rotate_left
              · simp only [Act.put, List.setIfInBounds_toArray, List.set_cons_zero, List.set_cons_succ, i64_w, i32_w]
                rfl
              refine pure_ (i := 8) (N := some 32) (v := ?_) (a' := ?_) #[true, true, true, true, true, false, true, true, true, false, true, true, false, false, false, true, true, false, false, false, false, true, false, false, false, false, false] rfl rfl (any_of HT_.out (by kernel_rfl)) (fun _ _ _ h => h) (Or.inl ⟨by rfl, ?_⟩) ?_ ?_
              rotate_left
              · intro w'
                go_simp
                with_reducible rfl
              rotate_left
              · simp only [Act.put, List.setIfInBounds_toArray, List.set_cons_zero, List.set_cons_succ, i64_w, i32_w]
                rfl
              refine take_ (i := 12) (N := some 36) (v := ?_) (a' := ?_) #[true, true, true, true, true, false, true, true, true, false, true, true, true, false, false, true, true, false, false, false, false, true, false, false, false, false, false] rfl rfl (take_ofW HT_.out HW_.out (by kernel_rfl)) (fun _ _ _ h => h) (Or.inl ⟨by rfl, ?_⟩) hHeld ?_ ?_
              rotate_left
              · rintro w' ⟨s0, s1, s2⟩
                go_simp
                with_reducible rfl
              rotate_left
              · simp only [Act.put, List.setIfInBounds_toArray, List.set_cons_zero, List.set_cons_succ, i64_w, i32_w]
                rfl
              refine take_ (i := 17) (N := some 41) (v := ?_) (a' := ?_) #[true, true, true, true, true, false, true, true, true, false, true, true, true, false, false, true, true, true, false, false, false, true, false, false, false, false, false] rfl rfl (take_ofW HT_.out HW_.out (by kernel_rfl)) (fun _ _ _ h => h) (Or.inl ⟨by rfl, ?_⟩) hHeld ?_ ?_
              rotate_left
              · rintro w' ⟨s0, s1, s2⟩
                go_simp
                with_reducible rfl
              rotate_left
              · simp only [Act.put, List.setIfInBounds_toArray, List.set_cons_zero, List.set_cons_succ, i64_w, i32_w]
                rfl
              refine pure_ (i := 18) (N := some 42) (v := ?_) (a' := ?_) #[true, true, true, true, true, false, true, true, true, false, true, true, true, false, false, true, true, true, true, false, false, true, false, false, false, false, false] rfl rfl (any_of HT_.out (by kernel_rfl)) (fun _ _ _ h => h) (Or.inl ⟨by rfl, ?_⟩) ?_ ?_
              rotate_left
              · intro w'
                go_simp
                with_reducible rfl
              rotate_left
              · simp only [Act.put, List.setIfInBounds_toArray, List.set_cons_zero, List.set_cons_succ, i64_w, i32_w]
                rfl
              refine take_ (i := 22) (N := some 46) (v := ?_) (a' := ?_) #[true, true, true, true, true, false, true, true, true, false, true, true, true, false, false, true, true, true, true, false, false, true, true, false, false, false, false] rfl rfl (take_ofW HT_.out HW_.out (by kernel_rfl)) (fun _ _ _ h => h) (Or.inl ⟨by rfl, ?_⟩) hHeld ?_ ?_
              rotate_left
              · rintro w' ⟨s0, s1, s2⟩
                go_simp
                with_reducible rfl
              rotate_left
              · simp only [Act.put, List.setIfInBounds_toArray, List.set_cons_zero, List.set_cons_succ, i64_w, i32_w]
                rfl
              refine pure_ (i := 23) (N := some 47) (v := ?_) (a' := ?_) #[true, true, true, true, true, false, true, true, true, false, true, true, true, false, false, true, true, true, true, false, false, true, true, true, false, false, false] rfl rfl (any_of HT_.out (by kernel_rfl)) (fun _ _ _ h => h) (Or.inl ⟨by rfl, ?_⟩) ?_ ?_
              rotate_left
              · intro w'
                go_simp
                with_reducible rfl
              rotate_left
              · simp only [Act.put, List.setIfInBounds_toArray, List.set_cons_zero, List.set_cons_succ, i64_w, i32_w]
                rfl
              refine one_ (i := 5) (N := some 29) #[true, true, true, true, true, true, true, true, true, false, true, true, true, false, false, true, true, true, true, false, false, true, true, true, false, false, false] rfl rfl (one_of HT_.out (by kernel_rfl)) (by decide) (fun K hK => ?_)
              refine Go.Proofs.YtmeofdpmddjbgaaDoor.Fnv.goes_ _ Tryd.func36 (by kernel_rfl) rfl #[.int .i64 (((rd_T33 l0 x20_1).f0).size : Int)] (by rfl) rfl rfl (by (try simp only [List.map_toArray, List.map_cons, List.map_nil]); first | done | rfl | (simp only [List.length_drop, List.length_take]; rfl)) (by rfl) ?_
              with_reducible refine (image_Size_1.calls k1 (((rd_T33 l0 x20_1).f0).size : Int) t189 _ A10.out).mono ?_
              rintro e w17 ⟨rfl, hb⟩
              refine ⟨_, rfl, ?_⟩
              have n0_ := Aside0.mk (blk_below (g := gb188) (o := .cells #[.string ((rd_T33 l0 x20_1).f0), .int .i64 ((rd_T33 l0 x20_1).f1), .string ((rd_T33 l0 x20_1).f2)] 33 (0, 0)) (by (with_reducible repeat (first | refine blk_drewN ?_ _ | refine blk_drew ?_ | refine blk_alloc ?_ _)); exact BK188.out) hb)
              have n1_ := Aside0.mk (below_step (by repeat (first | (with_reducible first | exact HB.out | apply below_alloc | apply pw_below_drewN | apply below_drew1 | refine below_set ?_ GE188.out) | exact HB.out)) hb)
              clear BK188
              clear HB
              have BK188 := n0_
              have HB := n1_
              clear n0_ n1_
              (try clear hb)
              (try clear hb2)
              (try clear hk)
              (try clear hi)
              refine hK.out _ _ ⟨(blk_cell BK188.out 0).trans rfl, (blk_cell BK188.out 1).trans rfl, (blk_cell BK188.out 2).trans rfl⟩ (fun hHeld => ?_)
              clear hK K
              refine norm_ (a' := ?_) ?_ ?_
              rotate_left
              · show Act.put _ (some 29) _ = _
                simp only [Act.put, List.setIfInBounds_toArray, List.set_cons_zero, List.set_cons_succ, i64_w, i32_w]
                rfl
              refine pure_ (i := 9) (N := some 33) (v := ?_) (a' := ?_) #[true, true, true, true, true, true, true, true, true, true, true, true, true, false, false, true, true, true, true, false, false, true, true, true, false, false, false] rfl rfl (any_of HT_.out (by kernel_rfl)) (fun _ _ _ h => h) (Or.inl ⟨by rfl, ?_⟩) ?_ ?_
              rotate_left
              · intro w'
                go_simp
                with_reducible rfl
              rotate_left
              · simp only [Act.put, List.setIfInBounds_toArray, List.set_cons_zero, List.set_cons_succ, i64_w, i32_w]
                rfl
              refine one_ (i := 13) (N := some 37) #[true, true, true, true, true, true, true, true, true, true, true, true, true, true, false, true, true, true, true, false, false, true, true, true, false, false, false] rfl rfl (one_of HT_.out (by kernel_rfl)) (by decide) (fun K hK => ?_)
              refine Go.Proofs.YtmeofdpmddjbgaaDoor.Fnv.goes_ _ Tryd.func36 (by kernel_rfl) rfl #[.int .i64 ((rd_T33 l0 x20_1).f1)] (by rfl) rfl rfl (by (try simp only [List.map_toArray, List.map_cons, List.map_nil]); first | done | rfl | (simp only [List.length_drop, List.length_take]; rfl)) (by rfl) ?_
              with_reducible refine (image_Size_1.calls k1 ((rd_T33 l0 x20_1).f1) t190 _ A11.out).mono ?_
              rintro e w18 ⟨rfl, hb⟩
              refine ⟨_, rfl, ?_⟩
              have n0_ := Aside0.mk (blk_below (g := gb188) (o := .cells #[.string ((rd_T33 l0 x20_1).f0), .int .i64 ((rd_T33 l0 x20_1).f1), .string ((rd_T33 l0 x20_1).f2)] 33 (0, 0)) (by (with_reducible repeat (first | refine blk_drewN ?_ _ | refine blk_drew ?_ | refine blk_alloc ?_ _)); exact BK188.out) hb)
              have n1_ := Aside0.mk (below_step (by repeat (first | (with_reducible first | exact HB.out | apply below_alloc | apply pw_below_drewN | apply below_drew1 | refine below_set ?_ GE188.out) | exact HB.out)) hb)
              clear BK188
              clear HB
              have BK188 := n0_
              have HB := n1_
              clear n0_ n1_
              (try clear hb)
              (try clear hb2)
              (try clear hk)
              (try clear hi)
              refine hK.out _ _ ⟨(blk_cell BK188.out 0).trans rfl, (blk_cell BK188.out 1).trans rfl, (blk_cell BK188.out 2).trans rfl⟩ (fun hHeld => ?_)
              clear hK K
              refine norm_ (a' := ?_) ?_ ?_
              rotate_left
              · show Act.put _ (some 37) _ = _
                simp only [Act.put, List.setIfInBounds_toArray, List.set_cons_zero, List.set_cons_succ, i64_w, i32_w]
                rfl
              refine pure_ (i := 14) (N := some 38) (v := ?_) (a' := ?_) #[true, true, true, true, true, true, true, true, true, true, true, true, true, true, true, true, true, true, true, false, false, true, true, true, false, false, false] rfl rfl (any_of HT_.out (by kernel_rfl)) (fun _ _ _ h => h) (Or.inl ⟨by rfl, ?_⟩) ?_ ?_
              rotate_left
              · intro w'
                go_simp
                with_reducible rfl
              rotate_left
              · simp only [Act.put, List.setIfInBounds_toArray, List.set_cons_zero, List.set_cons_succ, i64_w, i32_w]
                rfl
              refine one_ (i := 19) (N := some 43) #[true, true, true, true, true, true, true, true, true, true, true, true, true, true, true, true, true, true, true, true, false, true, true, true, false, false, false] rfl rfl (one_of HT_.out (by kernel_rfl)) (by decide) (fun K hK => ?_)
              refine Go.Proofs.YtmeofdpmddjbgaaDoor.Fnv.goes_ _ Tryd.func36 (by kernel_rfl) rfl #[.int .i64 (((rd_T33 l0 x20_1).f2).size : Int)] (by rfl) rfl rfl (by (try simp only [List.map_toArray, List.map_cons, List.map_nil]); first | done | rfl | (simp only [List.length_drop, List.length_take]; rfl)) (by rfl) ?_
              with_reducible refine (image_Size_1.calls k1 (((rd_T33 l0 x20_1).f2).size : Int) t191 _ A12.out).mono ?_
              rintro e w19 ⟨rfl, hb⟩
              refine ⟨_, rfl, ?_⟩
              have n0_ := Aside0.mk (blk_below (g := gb188) (o := .cells #[.string ((rd_T33 l0 x20_1).f0), .int .i64 ((rd_T33 l0 x20_1).f1), .string ((rd_T33 l0 x20_1).f2)] 33 (0, 0)) (by (with_reducible repeat (first | refine blk_drewN ?_ _ | refine blk_drew ?_ | refine blk_alloc ?_ _)); exact BK188.out) hb)
              have n1_ := Aside0.mk (below_step (by repeat (first | (with_reducible first | exact HB.out | apply below_alloc | apply pw_below_drewN | apply below_drew1 | refine below_set ?_ GE188.out) | exact HB.out)) hb)
              clear BK188
              clear HB
              have BK188 := n0_
              have HB := n1_
              clear n0_ n1_
              (try clear hb)
              (try clear hb2)
              (try clear hk)
              (try clear hi)
              refine hK.out _ _ ⟨(blk_cell BK188.out 0).trans rfl, (blk_cell BK188.out 1).trans rfl, (blk_cell BK188.out 2).trans rfl⟩ (fun hHeld => ?_)
              clear hK K
              refine norm_ (a' := ?_) ?_ ?_
              rotate_left
              · show Act.put _ (some 43) _ = _
                simp only [Act.put, List.setIfInBounds_toArray, List.set_cons_zero, List.set_cons_succ, i64_w, i32_w]
                rfl
              refine pure_ (i := 20) (N := some 44) (v := ?_) (a' := ?_) #[true, true, true, true, true, true, true, true, true, true, true, true, true, true, true, true, true, true, true, true, true, true, true, true, false, false, false] rfl rfl (any_of HT_.out (by kernel_rfl)) (fun _ _ _ h => h) (Or.inl ⟨by rfl, ?_⟩) ?_ ?_
              rotate_left
              · intro w'
                go_simp
                with_reducible rfl
              rotate_left
              · simp only [Act.put, List.setIfInBounds_toArray, List.set_cons_zero, List.set_cons_succ, i64_w, i32_w]
                rfl
              refine pure_ (i := 24) (N := some 48) (v := ?_) (a' := ?_) #[true, true, true, true, true, true, true, true, true, true, true, true, true, true, true, true, true, true, true, true, true, true, true, true, true, false, false] rfl rfl (any_of HT_.out (by kernel_rfl)) (fun _ _ _ h => h) (Or.inl ⟨by rfl, ?_⟩) ?_ ?_
              rotate_left
              · intro w'
                go_simp
                with_reducible rfl
              rotate_left
              · simp only [Act.put, List.setIfInBounds_toArray, List.set_cons_zero, List.set_cons_succ, i64_w, i32_w]
                rfl
              refine pure_ (i := 25) (N := some 49) (v := ?_) (a' := ?_) #[true, true, true, true, true, true, true, true, true, true, true, true, true, true, true, true, true, true, true, true, true, true, true, true, true, true, false] rfl rfl (any_of HT_.out (by kernel_rfl)) (fun _ _ _ h => h) (Or.inl ⟨by rfl, ?_⟩) ?_ ?_
              rotate_left
              · intro w'
                go_simp
                with_reducible rfl
              rotate_left
              · simp only [Act.put, List.setIfInBounds_toArray, List.set_cons_zero, List.set_cons_succ, i64_w, i32_w]
                rfl
              refine pure_ (i := 26) (N := some 6) (v := ?_) (a' := ?_) #[true, true, true, true, true, true, true, true, true, true, true, true, true, true, true, true, true, true, true, true, true, true, true, true, true, true, true] rfl rfl (any_of HT_.out (by kernel_rfl)) (fun _ _ _ h => h) (Or.inl ⟨by rfl, ?_⟩) ?_ ?_
              rotate_left
              · intro w'
                go_simp
                with_reducible rfl
              rotate_left
              · simp only [Act.put, List.setIfInBounds_toArray, List.set_cons_zero, List.set_cons_succ, i64_w, i32_w]
                rfl
              refine done_ (done_of HT_.out (by kernel_rfl)) ?_
              try go_wp2
              go_roundg k1
              case measure => have := HK1.out; omega
              case rel => exact ⟨(wrap64 (x6_1 + (wrap64 ((wrap64 ((wrap64 ((wrap64 (t189 + (((rd_T33 l0 x20_1).f0).size : Int))) + t190)) + t191)) + (((rd_T33 l0 x20_1).f2).size : Int))))), (wrap64 (x20_1 + 1)), (by first | rfl | (simp; done) | (simp [*]; done)), (by first | rfl | (simp; done) | (simp [*]; done)), H', ⟨by have := HK1.out; omega⟩, ⟨by repeat (first | (with_reducible first | exact HB.out | apply below_alloc | apply pw_below_drewN | apply below_drew1 | refine below_set ?_ GE188.out) | exact HB.out)⟩⟩
            · rw [if_neg c9] at H
              exact absurd H (by simp)
          · rw [if_neg c8] at H
            exact absurd H (by simp)
        · rw [if_neg c7] at H
          have c7b0 : decide (x20_1 < (l0.length : Int)) = false := decide_eq_false c7
          clear c7
          by_cases c20 : x6_1 > 524288
          · rw [if_pos c20] at H
            have c20b0 : decide (524288 < x6_1) = true := decide_eq_true c20
            clear c20
            simp only [Option.some.injEq, Prod.mk.injEq] at H
            obtain ⟨rfl, rfl⟩ := H
            go_wp2
            go_ret2
            exact ⟨by first | rfl | (simp [errW_none, errW_some] <;> rfl) | (simp [*, errW_none, errW_some] <;> rfl), by repeat (first | (with_reducible first | exact HB.out | apply below_alloc | apply pw_below_drewN | apply below_drew1) | exact HB.out)⟩
          · rw [if_neg c20] at H
            have c20b0 : decide (524288 < x6_1) = false := decide_eq_false c20
            clear c20
            simp only [Option.some.injEq, Prod.mk.injEq] at H
            obtain ⟨rfl, rfl⟩ := H
            go_wp2
            go_ret2
            exact ⟨by first | rfl | (simp [errW_none, errW_some] <;> rfl) | (simp [*, errW_none, errW_some] <;> rfl), by repeat (first | (with_reducible first | exact HB.out | apply below_alloc | apply pw_below_drewN | apply below_drew1) | exact HB.out)⟩
  · rw [if_neg c3] at H
    have c3b0 : (t185 == 0) = false := beq_eq_false_iff_ne.mpr c3
    have c3b1 : (t185 != 0) = true := bne_iff_ne.mpr c3
    simp only [Option.some.injEq, Prod.mk.injEq] at H
    obtain ⟨rfl, rfl⟩ := H
    go_enter Tryd.func14, Tryd.ntmps14
    go_wp2_with (first | ((with_reducible refine gate_callee (f := 27) rfl ?_); refine goesL_ (some 10) rfl rfl Tryd.func27 (by kernel_rfl) rfl #[.slice A0 l0.length c0] rfl (by (try simp only [List.map_toArray, List.map_cons, List.map_nil]); first | done | rfl | (simp only [List.length_drop, List.length_take]; rfl)) ?_; (with_reducible refine (tree_Check.calls k _ _ l0 t185 _ ?side1 ?side2 A2.out).mono ?_); (case side1 => repeat (first | exact HR0.out | (with_reducible refine Kd.C_alloc ?_ _) | (with_reducible refine Kd.C_drewN ?_ _) | (with_reducible refine Kd.C_drew ?_))); (case side2 => exact HC0.out); rintro e w21 ⟨rfl, hb⟩; refine ⟨_, rfl, ?_⟩; have n0_ := Aside0.mk (below_step (by repeat (first | (with_reducible first | exact HB.out | apply below_alloc | apply pw_below_drewN | apply below_drew1) | exact HB.out)) hb); clear HB; have HB := n0_; clear n0_; (try clear hb); (try clear hb2); (try clear hk); (try clear hi)))
    go_ret2
    exact ⟨by first | rfl | (simp [errW_none, errW_some] <;> rfl) | (simp [*, errW_none, errW_some] <;> rfl), by repeat (first | (with_reducible first | exact HB.out | apply below_alloc | apply pw_below_drewN | apply below_drew1) | exact HB.out)⟩
end Go.Proofs.YtmeofdpmddjbgaaDoor.G
end
section
namespace Go.Proofs.YtmeofdpmddjbgaaDoor.G
open Go.RowKit Go.Proofs.YtmeofdpmddjbgaaDoorW.PrintWords Go.Proofs.YtmeofdpmddjbgaaDoorW.PrintLast Go.Proofs.YtmeofdpmddjbgaaDoorW.PrintMore
set_option linter.unusedVariables false
set_option linter.unusedSimpArgs false
def headL : List S33 → List UInt8
  | [] => []
  | x :: l => numB (x.f0.size : Int) ++ x.f0.data.toList ++ numB x.f1 ++ numB (x.f2.size : Int) ++ headL l
def dataL : List S33 → List UInt8
  | [] => []
  | x :: l => x.f2.data.toList ++ dataL l
def bodyL (l : List S33) : List UInt8 := numB (l.length : Int) ++ headL l ++ dataL l
def imageE (l : List S33) : ByteArray × Int := if checkE l = 0 then (if 524288 < (bodyL l).length then (⟨#[]⟩, 4) else (⟨(bodyL l).toArray⟩, 0)) else (⟨#[]⟩, checkE l)
def sizeE (l : List S33) : Int × Int := if checkE l = 0 then (if 524288 < (bodyL l).length then (0, 4) else (((bodyL l).length : Int), 0)) else (0, checkE l)
theorem modesE_ok : ∀ l : List S33, modesE l = 0 → ∀ x ∈ l, 0 ≤ x.f1 ∧ x.f1 ≤ 511 ∧ x.f2.size ≤ 65536
  | [], _, x, hx => by simp at hx
  | y :: l, h, x, hx => by
    unfold modesE at h
    by_cases h1 : y.f1 < 0 ∨ 511 < y.f1
    · rw [if_pos h1] at h; omega
    rw [if_neg h1] at h
    by_cases h2 : 65536 < y.f2.size
    · rw [if_pos h2] at h; omega
    rw [if_neg h2] at h
    rcases List.mem_cons.1 hx with e | e
    · subst e
      refine ⟨?_, ?_, ?_⟩ <;> omega
    · exact modesE_ok l h x e
theorem check_ok (l : List S33) (h : checkE l = 0) : pathsE (l.map (·.f0)) = 0 ∧ modesE l = 0 := by
  unfold checkE at h
  by_cases c : pathsE (l.map (·.f0)) = 0
  · rw [if_pos c] at h; exact ⟨c, h⟩
  · rw [if_neg c] at h; exact absurd h c
theorem check_files (l : List S33) (h : checkE l = 0) : l.length ≤ 256 ∧ ∀ x ∈ l, x.f0.size ≤ 200 ∧ x.f2.size ≤ 65536 ∧ 0 ≤ x.f1 ∧ x.f1 ≤ 511 := by
  obtain ⟨h1, h2⟩ := check_ok l h
  obtain ⟨s1, s2, s3⟩ := pathsE_sorted _ h1
  rw [List.length_map] at s3
  refine ⟨s3, fun x hx => ?_⟩
  obtain ⟨m1, m2, m3⟩ := modesE_ok l h2 x hx
  exact ⟨pathE_size _ (s2 _ (List.mem_map.2 ⟨x, hx, rfl⟩)), m3, m1, m2⟩
theorem headL_length : ∀ l : List S33, (∀ x ∈ l, x.f0.size ≤ 200 ∧ x.f2.size ≤ 65536 ∧ 0 ≤ x.f1 ∧ x.f1 ≤ 511) → (headL l).length ≤ 227 * l.length
  | [], _ => Nat.le_refl _
  | x :: l, h => by
    have h1 := (h x List.mem_cons_self).1
    have h2 := headL_length l (fun y hy => h y (List.mem_cons_of_mem _ hy))
    have n1 := numB_length (x.f0.size : Int)
    have n2 := numB_length x.f1
    have n3 := numB_length (x.f2.size : Int)
    unfold headL
    rw [List.length_append, List.length_append, List.length_append, List.length_append, sz_, List.length_cons]
    omega
theorem dataL_length : ∀ l : List S33, (∀ x ∈ l, x.f0.size ≤ 200 ∧ x.f2.size ≤ 65536 ∧ 0 ≤ x.f1 ∧ x.f1 ≤ 511) → (dataL l).length ≤ 65536 * l.length
  | [], _ => Nat.le_refl _
  | x :: l, h => by
    have h1 := (h x List.mem_cons_self).2.1
    have h2 := dataL_length l (fun y hy => h y (List.mem_cons_of_mem _ hy))
    unfold dataL
    rw [List.length_append, sz_, List.length_cons]
    omega
theorem imgHead_ev : ∀ (l : List S33) (acc : List UInt8), (∀ x ∈ l, x.f0.size ≤ 200 ∧ x.f2.size ≤ 65536 ∧ 0 ≤ x.f1 ∧ x.f1 ≤ 511) → acc.length + 227 * l.length ≤ 4294967296 → Ev (fun k => imgHead k l acc) (acc ++ headL l)
  | [], acc, _, _ => by
    unfold imgHead headL
    rw [List.append_nil]
    exact Ev.now _
  | x :: l, acc, h, ha => by
    have h1 := (h x List.mem_cons_self).1
    have n1 := numE_size (x.f0.size : Int)
    have n2 := numE_size x.f1
    have n3 := numE_size (x.f2.size : Int)
    rw [List.length_cons] at ha
    unfold imgHead headL
    refine Ev.bind (num_ev _) (Ev.bind (num_ev _) (Ev.bind (num_ev _) ?_))
    have c : acc.length + (numE (x.f0.size : Int)).1.size + x.f0.size + (numE x.f1).1.size + (numE (x.f2.size : Int)).1.size ≤ 140737488355328 := by omega
    simp only [c, ↓reduceIte]
    have ih := imgHead_ev l (acc ++ (numE (x.f0.size : Int)).1.data.toList ++ x.f0.data.toList ++ (numE x.f1).1.data.toList ++ (numE (x.f2.size : Int)).1.data.toList) (fun y hy => h y (List.mem_cons_of_mem _ hy)) (by
      rw [List.length_append, List.length_append, List.length_append, List.length_append, sz_, sz_, sz_, sz_]
      omega)
    have e : acc ++ (numB (x.f0.size : Int) ++ x.f0.data.toList ++ numB x.f1 ++ numB (x.f2.size : Int) ++ headL l) = acc ++ (numE (x.f0.size : Int)).1.data.toList ++ x.f0.data.toList ++ (numE x.f1).1.data.toList ++ (numE (x.f2.size : Int)).1.data.toList ++ headL l := by
      unfold numB
      simp only [List.append_assoc]
    rw [e]
    exact ih
theorem imgData_eq : ∀ (l : List S33) (acc : List UInt8), acc.length ≤ 524288 → imgData l acc = some (if 524288 < (acc ++ dataL l).length then (⟨#[]⟩, 4) else (⟨(acc ++ dataL l).toArray⟩, 0))
  | [], acc, h => by
    unfold imgData dataL
    rw [List.append_nil, if_neg (by omega)]
  | x :: l, acc, h => by
    unfold imgData dataL
    rw [if_pos h]
    by_cases c : 524288 - (acc.length : Int) < (x.f2.size : Int)
    · rw [if_pos c, if_pos]
      rw [List.length_append, List.length_append, sz_]
      omega
    · rw [if_neg c, imgData_eq l (acc ++ x.f2.data.toList) (by rw [List.length_append, sz_]; omega), List.append_assoc]
theorem imageOf_ev (l : List S33) (hl : l.length ≤ 4294967296) : Ev (fun k => image_Of.f k l) (imageE l) := by
  unfold image_Of.f imageE
  refine Ev.bind (check_ev l hl) ?_
  by_cases h : checkE l = 0
  · simp only [h, ↓reduceIte]
    obtain ⟨h1, h2⟩ := check_files l h
    refine Ev.bind (num_ev _) ?_
    have n1 := numE_size (l.length : Int)
    have c : (numE (l.length : Int)).1.size ≤ 140737488355328 := by omega
    simp only [c, ↓reduceIte]
    refine Ev.bind (imgHead_ev l _ h2 (by rw [sz_]; omega)) ?_
    have hh := headL_length l h2
    rw [imgData_eq l _ (by rw [List.length_append, sz_]; omega)]
    exact Ev.now _
  · simp only [h, ↓reduceIte]
    exact Ev.now _
theorem refOf_l1 (l : List S33) (hl : l.length ≤ 4294967296) (hf : ∀ x ∈ l, x.f0.size ≤ 200 ∧ x.f2.size ≤ 65536 ∧ 0 ≤ x.f1 ∧ x.f1 ≤ 511) : ∀ (d i : Nat) (out : ByteArray), l.length - i = d → i ≤ l.length → out.size ≤ 524288 →
    ∃ r : ByteArray × Int, Ev (fun k => barqueref10_Of.l1 k l out i) r ∧ r.2 = (if 524288 < (out.data.toList ++ dataL (l.drop i)).length then 4 else 0) ∧ r.1.data.toList = (if 524288 < (out.data.toList ++ dataL (l.drop i)).length then [] else out.data.toList ++ dataL (l.drop i)) := by
  intro d
  induction d with
  | zero =>
    intro i out hd hi ho
    have e : i = l.length := by omega
    subst e
    have hn : ¬ 524288 < (out.data.toList ++ dataL (l.drop l.length)).length := by
      rw [List.drop_eq_nil_of_le (Nat.le_refl _), dataL, List.append_nil, sz_]
      omega
    rw [if_neg hn, if_neg hn]
    refine ⟨(out, 0), ?_, rfl, ?_⟩
    · apply Ev.step
      · intro k; rw [barqueref10_Of.l1]
      have c1 : ¬ ((l.length : Int) < (l.length : Int)) := by omega
      simp only [c1, ↓reduceIte]
      exact Ev.now _
    · rw [List.drop_eq_nil_of_le (Nat.le_refl _), dataL, List.append_nil]
  | succ d ih =>
    intro i out hd hi ho
    have hlt : i < l.length := by omega
    obtain ⟨f1, f2, f3, f4⟩ := hf _ (List.getElem_mem hlt)
    have c1 : ((i : Int) < (l.length : Int)) := by omega
    have c2 : (0 : Int) ≤ (i : Int) := by omega
    have c3 : out.size + (l[i]'hlt).f2.size ≤ 9223372036854775807 := by omega
    have hw : wrap64 ((i : Int) + 1) = ((i + 1 : Nat) : Int) := by rw [w64_ (by omega) (by omega)]; omega
    have hsz : (out ++ (l[i]'hlt).f2).size = out.size + (l[i]'hlt).f2.size := ByteArray.size_append
    have hdr : out.data.toList ++ dataL (l.drop i) = (out ++ (l[i]'hlt).f2).data.toList ++ dataL (l.drop (i + 1)) := by
      rw [List.drop_eq_getElem_cons hlt, dataL, app_list_, List.append_assoc]
    by_cases c : out.size + (l[i]'hlt).f2.size > 524288
    · have hn : 524288 < (out.data.toList ++ dataL (l.drop i)).length := by
        rw [hdr, List.length_append, sz_, hsz]
        omega
      rw [if_pos hn, if_pos hn]
      refine ⟨(⟨#[]⟩, 4), ?_, rfl, rfl⟩
      apply Ev.step
      · intro k; rw [barqueref10_Of.l1]
      have c4 : ((out ++ (l[i]'hlt).f2).size : Int) > 524288 := by rw [hsz]; omega
      simp only [c1, c2, ↓reduceIte, rdF_nat l i hlt, c3, c4]
      exact Ev.now _
    · obtain ⟨r, r1, r2, r3⟩ := ih (i + 1) (out ++ (l[i]'hlt).f2) (by omega) (by omega) (by rw [hsz]; omega)
      rw [← hdr] at r2 r3
      refine ⟨r, ?_, r2, r3⟩
      apply Ev.step
      · intro k; rw [barqueref10_Of.l1]
      have c4 : ¬ ((out ++ (l[i]'hlt).f2).size : Int) > 524288 := by rw [hsz]; omega
      simp only [c1, c2, ↓reduceIte, rdF_nat l i hlt, c3, c4, hw]
      exact r1
theorem refOf_l0 (l : List S33) (hl : l.length ≤ 256) (hf : ∀ x ∈ l, x.f0.size ≤ 200 ∧ x.f2.size ≤ 65536 ∧ 0 ≤ x.f1 ∧ x.f1 ≤ 511) : ∀ (d i : Nat) (out : ByteArray), l.length - i = d → i ≤ l.length → out.size + 227 * d ≤ 524288 →
    ∃ h : ByteArray, h.data.toList = out.data.toList ++ headL (l.drop i) ∧ ∀ r, Ev (fun k => barqueref10_Of.l1 k l h 0) r → Ev (fun k => barqueref10_Of.l0 k l out i) r := by
  intro d
  induction d with
  | zero =>
    intro i out hd hi ho
    have e : i = l.length := by omega
    subst e
    refine ⟨out, by rw [List.drop_eq_nil_of_le (Nat.le_refl _), headL, List.append_nil], fun r hr => ?_⟩
    apply Ev.step
    · intro k; rw [barqueref10_Of.l0]
    have c1 : ¬ ((l.length : Int) < (l.length : Int)) := by omega
    simp only [c1, ↓reduceIte]
    exact hr
  | succ d ih =>
    intro i out hd hi ho
    have hlt : i < l.length := by omega
    obtain ⟨f1, f2, f3, f4⟩ := hf _ (List.getElem_mem hlt)
    obtain ⟨x, hx⟩ : ∃ x, l[i]'hlt = x := ⟨_, rfl⟩
    rw [hx] at f1 f2 f3 f4
    have n1 := numE_size (x.f0.size : Int)
    have n2 := numE_size x.f1
    have n3 := numE_size (x.f2.size : Int)
    have c1 : ((i : Int) < (l.length : Int)) := by omega
    have c2 : (0 : Int) ≤ (i : Int) := by omega
    have hd1 : l.length - (i + 1) = d := by omega
    have hi1 : i + 1 ≤ l.length := by omega
    have hx1 : x.f0.size ≤ 1048576 := by omega
    obtain ⟨e1, he1⟩ : ∃ e, numE (x.f0.size : Int) = e := ⟨_, rfl⟩
    obtain ⟨e2, he2⟩ : ∃ e, numE x.f1 = e := ⟨_, rfl⟩
    obtain ⟨e3, he3⟩ : ∃ e, numE (x.f2.size : Int) = e := ⟨_, rfl⟩
    rw [he1] at n1
    rw [he2] at n2
    rw [he3] at n3
    have hb : (out ++ (e1.1 ++ x.f0) ++ e2.1 ++ e3.1).size + 227 * d ≤ 524288 := by
      simp only [ByteArray.size_append]
      omega
    have c3 : out.size + (e1.1 ++ x.f0).size ≤ 9223372036854775807 := by
      simp only [ByteArray.size_append]
      omega
    have c4 : (out ++ (e1.1 ++ x.f0)).size + e2.1.size ≤ 9223372036854775807 := by
      simp only [ByteArray.size_append]
      omega
    have c5 : (out ++ (e1.1 ++ x.f0) ++ e2.1).size + e3.1.size ≤ 9223372036854775807 := by
      simp only [ByteArray.size_append]
      omega
    obtain ⟨h, h1, h2⟩ := ih (i + 1) (out ++ (e1.1 ++ x.f0) ++ e2.1 ++ e3.1) hd1 hi1 hb
    refine ⟨h, ?_, fun r hr => ?_⟩
    · rw [h1, List.drop_eq_getElem_cons hlt, hx, headL]
      simp only [app_list_, numB, List.append_assoc, he1, he2, he3]
    · have hw : wrap64 ((i : Int) + 1) = ((i + 1 : Nat) : Int) := by rw [w64_ (by omega) (by omega)]; omega
      have t1 := reftext_ev x.f0 hx1
      have t2 := refbytes_ev x.f1
      have t3 := refbytes_ev (x.f2.size : Int)
      rw [he1] at t1
      rw [he2] at t2
      rw [he3] at t3
      apply Ev.step
      · intro k; rw [barqueref10_Of.l0]
      simp only [c1, c2, ↓reduceIte, rdF_nat l i hlt, hx, hw]
      refine Ev.bind t1 ?_
      simp only [c3, ↓reduceIte]
      refine Ev.bind t2 ?_
      simp only [c4, ↓reduceIte]
      refine Ev.bind t3 ?_
      simp only [c5, ↓reduceIte]
      exact h2 r hr
theorem ba_of_ (b : ByteArray) (l : List UInt8) (h : b.data.toList = l) : b = ⟨l.toArray⟩ := by
  subst h
  cases b
  rfl
theorem refOf_ev (l : List S33) (hl : l.length ≤ 4294967296) : Ev (fun k => barqueref10_Of.f k l) (imageE l) := by
  unfold barqueref10_Of.f imageE
  refine Ev.bind (refcheck_ev l hl) ?_
  by_cases h : checkE l = 0
  · simp only [h, ↓reduceIte]
    obtain ⟨h1, h2⟩ := check_files l h
    have n1 := numE_size (l.length : Int)
    refine Ev.bind (refbytes_ev _) ?_
    obtain ⟨hd, e1, e2⟩ := refOf_l0 l h1 h2 l.length 0 (numE (l.length : Int)).1 (by omega) (by omega) (by omega)
    have hh := headL_length l h2
    have hsz : hd.size ≤ 524288 := by
      have := congrArg List.length e1
      rw [sz_, List.drop_zero, List.length_append, sz_] at this
      omega
    obtain ⟨r, r1, r2, r3⟩ := refOf_l1 l hl h2 l.length 0 hd (by omega) (by omega) hsz
    have eb : hd.data.toList ++ dataL (l.drop 0) = bodyL l := by
      rw [e1, List.drop_zero]
      unfold bodyL numB
      rfl
    rw [eb] at r2 r3
    have er : r = (if 524288 < (bodyL l).length then (⟨#[]⟩, 4) else (⟨(bodyL l).toArray⟩, 0)) := by
      obtain ⟨ra, rb⟩ := r
      simp only at r2 r3
      by_cases c : 524288 < (bodyL l).length
      · rw [if_pos c] at r2 r3 ⊢
        rw [r2, ba_of_ ra [] r3]
      · rw [if_neg c] at r2 r3 ⊢
        rw [r2, ba_of_ ra _ r3]
    rw [← er]
    have := e2 r r1
    simpa using this
  · simp only [h, ↓reduceIte]
    exact Ev.now _
theorem width_ev (n : Int) : Ev (fun k => image_Size_1.f k n) (((numB n).length : Nat) : Int) := by
  unfold image_Size_1.f
  have e : ((numB n).length : Int) = ((numE n).1.size : Int) := by unfold numB; rw [sz_]
  rw [e]
  exact Ev.bind (num_ev n) (Ev.now _)
theorem size_l0 (l : List S33) (hl : l.length ≤ 256) (hf : ∀ x ∈ l, x.f0.size ≤ 200 ∧ x.f2.size ≤ 65536 ∧ 0 ≤ x.f1 ∧ x.f1 ≤ 511) (m : Nat) (hm : m ≤ 4294967296) : ∀ (d i : Nat) (n : Nat), l.length - i = d → i ≤ l.length → n + (headL (l.drop i)).length + (dataL (l.drop i)).length = m →
    Ev (fun k => image_Size.l0 k n l l.length i) (if 524288 < m then (0, 4) else ((m : Int), 0)) := by
  intro d
  induction d with
  | zero =>
    intro i n hd hi hn
    have e : i = l.length := by omega
    subst e
    rw [List.drop_eq_nil_of_le (Nat.le_refl _), headL, dataL] at hn
    have hnm : n = m := by simpa using hn
    subst hnm
    apply Ev.step
    · intro k; rw [image_Size.l0]
    have c1 : ¬ ((l.length : Int) < (l.length : Int)) := by omega
    simp only [c1, ↓reduceIte]
    by_cases c : 524288 < n
    · have c2 : (n : Int) > 524288 := by omega
      simp only [c2, c, ↓reduceIte]
      exact Ev.now _
    · have c2 : ¬ (n : Int) > 524288 := by omega
      simp only [c2, c, ↓reduceIte]
      exact Ev.now _
  | succ d ih =>
    intro i n hd hi hn
    have hlt : i < l.length := by omega
    obtain ⟨f1, f2, f3, f4⟩ := hf _ (List.getElem_mem hlt)
    obtain ⟨x, hx⟩ : ∃ x, l[i]'hlt = x := ⟨_, rfl⟩
    rw [hx] at f1 f2 f3 f4
    rw [List.drop_eq_getElem_cons hlt, hx, headL, dataL] at hn
    simp only [List.length_append, sz_] at hn
    have n1 := numB_length (x.f0.size : Int)
    have n2 := numB_length x.f1
    have n3 := numB_length (x.f2.size : Int)
    have c1 : ((i : Int) < (l.length : Int)) := by omega
    have c2 : (0 : Int) ≤ (i : Int) := by omega
    have hd1 : l.length - (i + 1) = d := by omega
    have hi1 : i + 1 ≤ l.length := by omega
    have hn1 : n + ((numB (x.f0.size : Int)).length + x.f0.size + (numB x.f1).length + (numB (x.f2.size : Int)).length + x.f2.size) + (headL (l.drop (i + 1))).length + (dataL (l.drop (i + 1))).length = m := by omega
    have hsum : wrap64 ((n : Int) + (wrap64 ((wrap64 ((wrap64 ((wrap64 ((((numB (x.f0.size : Int)).length : Nat) : Int) + (x.f0.size : Int))) + (((numB x.f1).length : Nat) : Int))) + (((numB (x.f2.size : Int)).length : Nat) : Int))) + (x.f2.size : Int)))) = ((n + ((numB (x.f0.size : Int)).length + x.f0.size + (numB x.f1).length + (numB (x.f2.size : Int)).length + x.f2.size) : Nat) : Int) := by
      rw [w64_ (i := (((numB (x.f0.size : Int)).length : Nat) : Int) + (x.f0.size : Int)) (by omega) (by omega)]
      rw [w64_ (i := (((numB (x.f0.size : Int)).length : Nat) : Int) + (x.f0.size : Int) + (((numB x.f1).length : Nat) : Int)) (by omega) (by omega)]
      rw [w64_ (i := (((numB (x.f0.size : Int)).length : Nat) : Int) + (x.f0.size : Int) + (((numB x.f1).length : Nat) : Int) + (((numB (x.f2.size : Int)).length : Nat) : Int)) (by omega) (by omega)]
      rw [w64_ (i := (((numB (x.f0.size : Int)).length : Nat) : Int) + (x.f0.size : Int) + (((numB x.f1).length : Nat) : Int) + (((numB (x.f2.size : Int)).length : Nat) : Int) + (x.f2.size : Int)) (by omega) (by omega)]
      rw [w64_ (by omega) (by omega)]
      omega
    have hw : wrap64 ((i : Int) + 1) = ((i + 1 : Nat) : Int) := by clear hn1; rw [w64_ (by omega) (by omega)]; omega
    apply Ev.step
    · intro k; rw [image_Size.l0]
    simp only [c1, c2, ↓reduceIte, rdF_nat l i hlt, hx, hw]
    refine Ev.bind (width_ev _) (Ev.bind (width_ev _) (Ev.bind (width_ev _) ?_))
    simp only [hsum]
    exact ih (i + 1) _ hd1 hi1 hn1
theorem size_ev (l : List S33) (hl : l.length ≤ 4294967296) : Ev (fun k => image_Size.f k l) (sizeE l) := by
  unfold image_Size.f sizeE
  refine Ev.bind (check_ev l hl) ?_
  by_cases h : checkE l = 0
  · simp only [h, ↓reduceIte]
    obtain ⟨h1, h2⟩ := check_files l h
    have hh := headL_length l h2
    have hd := dataL_length l h2
    have n1 := numB_length (l.length : Int)
    have hb : (bodyL l).length = (numB (l.length : Int)).length + (headL l).length + (dataL l).length := by
      unfold bodyL
      rw [List.length_append, List.length_append]
    refine Ev.bind (width_ev _) ?_
    have := size_l0 l h1 h2 (bodyL l).length (by omega) l.length 0 (numB (l.length : Int)).length (by omega) (by omega) (by rw [List.drop_zero]; omega)
    simpa using this
  · simp only [h, ↓reduceIte]
    exact Ev.now _
end Go.Proofs.YtmeofdpmddjbgaaDoor.G
end
section
namespace Go.Proofs.YtmeofdpmddjbgaaDoor.G
open Go.RowKit Go.Proofs.YtmeofdpmddjbgaaDoorW.PrintWords Go.Proofs.YtmeofdpmddjbgaaDoorW.PrintLast Go.Proofs.YtmeofdpmddjbgaaDoorW.PrintMore
attribute [local go_sem] max2_int min2_int max_two min_two max_three min_three max_four min_four   -- for this text's walks alone
set_option linter.unusedVariables false
set_option linter.unusedSimpArgs false
mutual
def barquelaw10_few.l0 : Nat → List (S33) → List (S33) → Int → Int → Option ((List (S33)))
  | 0, _, _, _, _ => none
  | k + 1, x0, x3, x4, x5 => if x5 < (x0.length : Int) then (barquelaw10_few.j1 k x0 x3 x4 x5 (decide (x5 < 60))) else (barquelaw10_few.j1 k x0 x3 x4 x5 false)
def barquelaw10_few.j1 : Nat → List (S33) → List (S33) → Int → Int → Bool → Option ((List (S33)))
  | 0, _, _, _, _, _ => none
  | k + 1, x0, x3, x4, x5, x14 => if x14 = true then (if 0 ≤ x5 then (if x5 < (x0.length : Int) then (if (((rd_T33 x0 x5).f2).size : Int) > (wrap64 (20000 - x4)) then (if x3.length < 3518437208883 then (barquelaw10_few.l0 k x0 (x3 ++ [(⟨(rd_T33 x0 x5).f0, (rd_T33 x0 x5).f1, (⟨#[]⟩ : ByteArray)⟩ : S33)]) (wrap64 (x4 + 0)) (wrap64 (x5 + 1))) else (none)) else (if x3.length < 3518437208883 then (barquelaw10_few.l0 k x0 (x3 ++ [(⟨(rd_T33 x0 x5).f0, (rd_T33 x0 x5).f1, (rd_T33 x0 x5).f2⟩ : S33)]) (wrap64 (x4 + (((rd_T33 x0 x5).f2).size : Int))) (wrap64 (x5 + 1))) else (none))) else (none)) else (none)) else (some x3)
end
def barquelaw10_few.f (k : Nat) (l0 : List (S33)) : Option ((List (S33))) := barquelaw10_few.l0 k l0 ([] : List (S33)) 0 0
theorem barquelaw10_few.mono_l : ∀ k, (∀ y0 y1 y2 y3, LeO (barquelaw10_few.l0 k y0 y1 y2 y3) (barquelaw10_few.l0 (k + 1) y0 y1 y2 y3)) ∧ (∀ y0 y1 y2 y3 y4, LeO (barquelaw10_few.j1 k y0 y1 y2 y3 y4) (barquelaw10_few.j1 (k + 1) y0 y1 y2 y3 y4))
  | 0 => ⟨fun _ _ _ _ r h => by simp [barquelaw10_few.l0] at h, fun _ _ _ _ _ r h => by simp [barquelaw10_few.j1] at h⟩
  | k + 1 => by
    obtain ⟨ih0, ih1⟩ := barquelaw10_few.mono_l k
    refine ⟨?_, ?_⟩
    · intro y0 y1 y2 y3
      unfold barquelaw10_few.l0
      repeat' first
      | (with_reducible exact ih0 _ _ _ _)
      | (with_reducible exact ih1 _ _ _ _ _)
      | (with_reducible exact LeO.refl _)
      | (with_reducible exact LeO.none _)
      | (with_reducible refine LeO.ite ?_ ?_)
      | (with_reducible refine LeO.bind ?_ (fun _ => ?_))
      | exact ih0 _ _ _ _
      | exact ih1 _ _ _ _ _
      | exact LeO.none _
      | refine LeO.ite ?_ ?_
      | refine LeO.bind ?_ (fun _ => ?_)
    · intro y0 y1 y2 y3 y4
      unfold barquelaw10_few.j1
      repeat' first
      | (with_reducible exact ih0 _ _ _ _)
      | (with_reducible exact ih1 _ _ _ _ _)
      | (with_reducible exact LeO.refl _)
      | (with_reducible exact LeO.none _)
      | (with_reducible refine LeO.ite ?_ ?_)
      | (with_reducible refine LeO.bind ?_ (fun _ => ?_))
      | exact ih0 _ _ _ _
      | exact ih1 _ _ _ _ _
      | exact LeO.none _
      | refine LeO.ite ?_ ?_
      | refine LeO.bind ?_ (fun _ => ?_)
theorem barquelaw10_few.mono : ∀ a0 k, LeO (barquelaw10_few.f k a0) (barquelaw10_few.f (k + 1) a0) := by
  intro a0 k
  obtain ⟨ih0, ih1⟩ := barquelaw10_few.mono_l k
  unfold barquelaw10_few.f
  repeat' first
      | (with_reducible exact ih0 _ _ _ _)
      | (with_reducible exact ih1 _ _ _ _ _)
      | (with_reducible exact LeO.refl _)
      | (with_reducible exact LeO.none _)
      | (with_reducible refine LeO.ite ?_ ?_)
      | (with_reducible refine LeO.bind ?_ (fun _ => ?_))
      | exact ih0 _ _ _ _
      | exact ih1 _ _ _ _ _
      | exact LeO.none _
      | refine LeO.ite ?_ ?_
      | refine LeO.bind ?_ (fun _ => ?_)
set_option maxHeartbeats 8000000 in
set_option maxRecDepth 100000 in
theorem barquelaw10_few.calls (k : Nat) (A0 : Option Addr) (c0 : Nat) (l0 : List (S33)) (r : List (S33)) (w : World) (hr0 : Kd.C k33 w A0 l0.length l0) (hc0 : l0.length ≤ c0) (h : barquelaw10_few.f k l0 = some r) :
    Calls Tryd.prog 11 #[.slice A0 l0.length c0] w fun e w' => ∃ v0_ : Value, e = .returned (v0_) ∧ Kd.R k33 33 w' w.heap.size (fun _ => True) v0_ r ∧ Below w.heap.size w w' := by
  have hu33 := Tryd.underlying33
  have HR0 := Aside0.mk hr0
  have HC0 := Aside0.mk hc0
  clear hr0 hc0
  have HB := Aside0.mk (Below.refl w.heap.size w)
  have H : (barquelaw10_few.l0 k l0 ([] : List (S33)) 0 0) = some r := h
  clear h
  have H' := Aside0.mk H
  clear H
  go_enter Tryd.func11, Tryd.ntmps11
  go_wp2
  go_loopg [3, 4, 5] k (fun kq v3 v4 v5 w' => ∃ (x3_1 : List (S33)) (x4_1 : Int) (x5_1 : Int), v4 = .int .i64 x4_1 ∧ v5 = .int .i64 x5_1 ∧ Aside0 (barquelaw10_few.l0 kq l0 x3_1 x4_1 x5_1 = some r) ∧ Aside0 (kq ≤ k) ∧ Aside0 (Kd.R k33 33 w' w.heap.size (fun _ => True) v3 x3_1) ∧ Aside0 (Below w.heap.size w w'))
  case atStart => exact ⟨(([] : List (S33))), (0), (0), (by first | rfl | (simp; done) | (simp [*]; done)), (by first | rfl | (simp; done) | (simp [*]; done)), H', ⟨Nat.le_refl _⟩, ⟨by first | exact Kd.R_nil _ _ _ _ _ | exact Kd.N_nil _ _ _ _ _ | exact Kd.V_nil _ _ _ _ _ | exact Kd.Q_nil _ _ _ _ _ | exact Kd.S_nil _ _ _ _ _⟩, ⟨by repeat (first | (with_reducible first | exact HB.out | apply below_alloc | apply pw_below_drewN | apply below_drew1) | exact HB.out)⟩⟩
  case round =>
    clear H'
    try clear c1
    obtain ⟨x3_1, x4_1, x5_1, rfl, rfl, HA, HK1, HO_3, HB⟩ := hrel
    cases gk with
    | zero => exact absurd HA.out (by simp [barquelaw10_few.l0])
    | succ k1 =>
      have H := HA.out
      clear HA
      simp only [barquelaw10_few.l0] at H
      have HC2 := Aside0.mk H
      clear H
      go_upto_region 4 with (fail)
      go_cut [14] (fun v14 wc => ∃ (kq : Nat) (x14_1 : Bool), v14 = .bool x14_1 ∧ Aside0 (barquelaw10_few.j1 kq l0 x3_1 x4_1 x5_1 x14_1 = some r) ∧ Aside0 (kq ≤ k1) ∧ Aside0 (Kd.R k33 33 wc w.heap.size (fun _ => True) u3 x3_1) ∧ Aside0 (Below w.heap.size w wc))
      case first =>
        have H := HC2.out
        clear HC2
        by_cases c3 : x5_1 < (l0.length : Int)
        · rw [if_pos c3] at H
          have c3b0 : decide (x5_1 < (l0.length : Int)) = true := decide_eq_true c3
          clear c3
          (first | rw [c3b0] | (simp only [i64_w, i32_w]; rw [c3b0]) | skip)
          have H' := Aside0.mk H
          clear H
          go_wp2
          go_meet
          case rel => exact ⟨_, (decide (x5_1 < 60)), (by first | rfl | (simp; done) | (simp [*]; done)), H', ⟨by have := HK1.out; first | omega | exact Nat.le_refl _⟩, ⟨by (with_reducible repeat (first | apply Kd.R_alloc | apply Kd.R_drewN | apply Kd.R_drew)); exact HO_3.out⟩, ⟨by repeat (first | (with_reducible first | exact HB.out | apply below_alloc | apply pw_below_drewN | apply below_drew1) | exact HB.out)⟩⟩
        · rw [if_neg c3] at H
          have c3b0 : decide (x5_1 < (l0.length : Int)) = false := decide_eq_false c3
          clear c3
          (first | rw [c3b0] | (simp only [i64_w, i32_w]; rw [c3b0]) | skip)
          have H' := Aside0.mk H
          clear H
          go_wp2
          go_meet
          case rel => exact ⟨_, (false), (by first | rfl | (simp; done) | (simp [*]; done)), H', ⟨by have := HK1.out; first | omega | exact Nat.le_refl _⟩, ⟨by (with_reducible repeat (first | apply Kd.R_alloc | apply Kd.R_drewN | apply Kd.R_drew)); exact HO_3.out⟩, ⟨by repeat (first | (with_reducible first | exact HB.out | apply below_alloc | apply pw_below_drewN | apply below_drew1) | exact HB.out)⟩⟩
      case rest =>
        clear HC2
        try clear c1
        try clear p2
        try clear c3
        try clear c3b0
        obtain ⟨kq, x14_1, rfl, HA, HJ1, HO_3, HB⟩ := hcut
        cases kq with
        | zero => exact absurd HA.out (by simp [barquelaw10_few.j1])
        | succ kj1 =>
          have H := HA.out
          clear HA
          simp only [barquelaw10_few.j1] at H
          by_cases c4 : x14_1 = true
          · subst c4
            have H1 : (if 0 ≤ x5_1 then (if x5_1 < (l0.length : Int) then (if (((rd_T33 l0 x5_1).f2).size : Int) > (wrap64 (20000 - x4_1)) then (if x3_1.length < 3518437208883 then (barquelaw10_few.l0 kj1 l0 (x3_1 ++ [(⟨(rd_T33 l0 x5_1).f0, (rd_T33 l0 x5_1).f1, (⟨#[]⟩ : ByteArray)⟩ : S33)]) (wrap64 (x4_1 + 0)) (wrap64 (x5_1 + 1))) else (none)) else (if x3_1.length < 3518437208883 then (barquelaw10_few.l0 kj1 l0 (x3_1 ++ [(⟨(rd_T33 l0 x5_1).f0, (rd_T33 l0 x5_1).f1, (rd_T33 l0 x5_1).f2⟩ : S33)]) (wrap64 (x4_1 + (((rd_T33 l0 x5_1).f2).size : Int))) (wrap64 (x5_1 + 1))) else (none))) else (none)) else (none)) = some r := by rw [if_pos rfl] at H; exact H
            clear H
            have H := H1
            clear H1
            by_cases c5 : 0 ≤ x5_1
            · rw [if_pos c5] at H
              have c5b0 : decide (0 ≤ x5_1) = true := decide_eq_true c5
              clear c5
              by_cases c6 : x5_1 < (l0.length : Int)
              · rw [if_pos c6] at H
                have c6b0 : decide (x5_1 < (l0.length : Int)) = true := decide_eq_true c6
                clear c6
                by_cases c7 : (((rd_T33 l0 x5_1).f2).size : Int) > (wrap64 (20000 - x4_1))
                · rw [if_pos c7] at H
                  have c7b0 : decide ((wrap64 (20000 - x4_1)) < (((rd_T33 l0 x5_1).f2).size : Int)) = true := decide_eq_true c7
                  clear c7
                  by_cases c8 : x3_1.length < 3518437208883
                  · rw [if_pos c8] at H
                    have LMc8 := Aside0.mk c8
                    clear c8
                    obtain ⟨y103, hy103⟩ : ∃ y_ : List (S33), y_ = (x3_1 ++ [(⟨(rd_T33 l0 x5_1).f0, (rd_T33 l0 x5_1).f1, (⟨#[]⟩ : ByteArray)⟩ : S33)]) := ⟨_, rfl⟩
                    replace H : (barquelaw10_few.l0 kj1 l0 y103 (wrap64 (x4_1 + 0)) (wrap64 (x5_1 + 1))) = some r := by first | (rw [hy103]; with_reducible exact H) | (have H2_ := (Option.bind_some _ _).symm.trans H; rw [hy103]; with_reducible exact H2_) | (have H2_ := (Option.bind_some _ _).symm.trans H; with_reducible exact H2_) | with_reducible exact H | (rw [hy103]; exact H) | exact H
                    have Ny103 := Aside0.mk hy103
                    clear hy103
                    have H' := Aside0.mk H
                    clear H
                    have p101 : 0 ≤ (x5_1 : Int) := of_decide_eq_true (by first | (with_reducible assumption) | assumption)
                    have q101 : x5_1 < (l0.length : Int) := of_decide_eq_true (by first | (with_reducible assumption) | assumption)
                    obtain ⟨ad101, e101, hx101_0, hx101_1, hx101_2⟩ := at_T33 HR0.out x5_1 p101 q101
                    cases e101
                    replace hx101_0 := (HB.out.cell (World.block_lt_of_cell? w _ hx101_0)).trans hx101_0
                    replace hx101_1 := (HB.out.cell (World.block_lt_of_cell? w _ hx101_1)).trans hx101_1
                    replace hx101_2 := (HB.out.cell (World.block_lt_of_cell? w _ hx101_2)).trans hx101_2
                    replace p101 := eq_true p101
                    replace q101 := eq_true q101
                    go_wp2_with (first | ((with_reducible refine gate_dst (N := 6) rfl ?_); refine box_event ?hg (N := 6) ?hd (cs := #[.string (⟨#[]⟩ : ByteArray), .int .i64 0, .string (⟨#[]⟩ : ByteArray)]) (t := 33) ?hr ?_; (case hd => rfl); (case hg => rfl); (case hr => first | (go_simp; done) | (go_simp; rfl)); intro gb102 hg w9 hbox hb; have n0_ := Aside0.mk (Kd.R_below (Kd.R_elderB (by (with_reducible repeat (first | apply Kd.R_alloc | apply Kd.R_drewN | apply Kd.R_drew)); exact HO_3.out) gb102 (Nat.le_of_eq hg.symm)) hb); have n1_ := Aside0.mk (below_step (by repeat (first | (with_reducible first | exact HB.out | apply below_alloc | apply pw_below_drewN | apply below_drew1) | exact HB.out)) hb); have n2_ := Aside0.mk (hbox); have n3_ := Aside0.mk ((by rw [hg]; exact (below_size (by repeat (first | (with_reducible first | exact HB.out | apply below_alloc | apply pw_below_drewN | apply below_drew1) | exact HB.out))) : w.heap.size ≤ gb102)); have n4_ := Aside0.mk ((by rw [hg]; exact (below_size (by repeat (first | (with_reducible first | exact HB.out | apply below_alloc | apply pw_below_drewN | apply below_drew1) | exact HB.out))) : w.heap.size ≤ gb102)); clear HO_3; clear HB; have HO_3 := n0_; have HB := n1_; have BK102 := n2_; have GW102 := n3_; have GE102 := n4_; clear n0_ n1_ n2_ n3_ n4_; clear hb hbox hg; have hcz10_0 : w9.cell? ⟨gb102, 0, none⟩ = some (.string (⟨#[]⟩ : ByteArray)) := (blk_cell BK102.out 0).trans rfl; have hcz10_1 : w9.cell? ⟨gb102, 1, none⟩ = some (.int .i64 0) := (blk_cell BK102.out 1).trans rfl; have hcz10_2 : w9.cell? ⟨gb102, 2, none⟩ = some (.string (⟨#[]⟩ : ByteArray)) := (blk_cell BK102.out 2).trans rfl; have hfz10_0 := blk_frozen BK102.out 0; have hfz10_1 := blk_frozen BK102.out 1; have hfz10_2 := blk_frozen BK102.out 2; have hq0_ : ∀ (a_ b_ c_ d_ : Value), ((((w9.setCell ⟨gb102, 0, none⟩ a_).setCell ⟨gb102, 1, none⟩ b_).setCell ⟨gb102, 2, none⟩ c_).setCell ⟨gb102, 2, none⟩ d_).cell? ⟨gb102, 0, none⟩ = some a_ := fun a_ b_ c_ d_ => (blk_cell (blk_put (blk_put (blk_put (blk_put BK102.out 0 a_ rfl) 1 b_ rfl) 2 c_ rfl) 2 d_ rfl) 0).trans rfl; have hq1_ : ∀ (a_ b_ c_ d_ : Value), ((((w9.setCell ⟨gb102, 0, none⟩ a_).setCell ⟨gb102, 1, none⟩ b_).setCell ⟨gb102, 2, none⟩ c_).setCell ⟨gb102, 2, none⟩ d_).cell? ⟨gb102, 1, none⟩ = some b_ := fun a_ b_ c_ d_ => (blk_cell (blk_put (blk_put (blk_put (blk_put BK102.out 0 a_ rfl) 1 b_ rfl) 2 c_ rfl) 2 d_ rfl) 1).trans rfl; have hq2_ : ∀ (a_ b_ c_ d_ : Value), ((((w9.setCell ⟨gb102, 0, none⟩ a_).setCell ⟨gb102, 1, none⟩ b_).setCell ⟨gb102, 2, none⟩ c_).setCell ⟨gb102, 2, none⟩ d_).cell? ⟨gb102, 2, none⟩ = some d_ := fun a_ b_ c_ d_ => (blk_cell (blk_put (blk_put (blk_put (blk_put BK102.out 0 a_ rfl) 1 b_ rfl) 2 c_ rfl) 2 d_ rfl) 2).trans rfl) | ((with_reducible refine gate_builtin (b := .append) (xs := #[.tmp 33, .tmp 35]) rfl ?_); at_builtin; refine Kd.R_append k33 (w0 := w) w.heap.size rfl (.tmp 33) (.tmp 35) 22 33 (.agg #[(.string ⟨#[]⟩), (.int .i64 0), (.string ⟨#[]⟩)]) 40 rfl Tryd.underlying22 info33 rfl (by decide) (by omega) u3 x3_1 (⟨(rd_T33 l0 x5_1).f0, (rd_T33 l0 x5_1).f1, (⟨#[]⟩ : ByteArray)⟩ : S33) [.string ((rd_T33 l0 x5_1).f0), .int .i64 ((rd_T33 l0 x5_1).f1), .string (⟨#[]⟩ : ByteArray)] (fun k_ => k_ ≠ gb102) (fun _ => False) rfl (by first | (go_simp; done) | (go_simp; rfl)) ?aP (fun _ hk => hk.elim) ?aF ?aO ?aB ?aS ?aL ?_; (case aP => exact k33_mkM _ _ _ (⟨(rd_T33 l0 x5_1).f0, (rd_T33 l0 x5_1).f1, (⟨#[]⟩ : ByteArray)⟩ : S33)); (case aB => exact (by repeat (first | (with_reducible first | exact HB.out | apply below_alloc | apply pw_below_drewN | apply below_drew1 | refine below_set ?_ GE102.out) | exact HB.out))); (case aF => exact (fun k_ hk => Kd.freshB (g := gb102) (o := .cells #[.string ((rd_T33 l0 x5_1).f0), .int .i64 ((rd_T33 l0 x5_1).f1), .string (⟨#[]⟩ : ByteArray)] 33 (0, 0)) (by (with_reducible repeat (first | refine blk_drewN ?_ _ | refine blk_drew ?_ | refine blk_alloc ?_ _)); refine blk_put (cs := #[.string ((rd_T33 l0 x5_1).f0), .int .i64 ((rd_T33 l0 x5_1).f1), .string ((rd_T33 l0 x5_1).f2)]) ?_ 2 _ rfl; (with_reducible repeat (first | refine blk_drewN ?_ _ | refine blk_drew ?_ | refine blk_alloc ?_ _)); refine blk_put (cs := #[.string ((rd_T33 l0 x5_1).f0), .int .i64 ((rd_T33 l0 x5_1).f1), .string (⟨#[]⟩ : ByteArray)]) ?_ 2 _ rfl; (with_reducible repeat (first | refine blk_drewN ?_ _ | refine blk_drew ?_ | refine blk_alloc ?_ _)); refine blk_put (cs := #[.string ((rd_T33 l0 x5_1).f0), .int .i64 0, .string (⟨#[]⟩ : ByteArray)]) ?_ 1 _ rfl; (with_reducible repeat (first | refine blk_drewN ?_ _ | refine blk_drew ?_ | refine blk_alloc ?_ _)); refine blk_put (cs := #[.string (⟨#[]⟩ : ByteArray), .int .i64 0, .string (⟨#[]⟩ : ByteArray)]) ?_ 0 _ rfl; (with_reducible repeat (first | refine blk_drewN ?_ _ | refine blk_drew ?_ | refine blk_alloc ?_ _)); exact BK102.out) k_ hk)); (case aO => exact (by (with_reducible repeat (first | apply Kd.R_alloc | apply Kd.R_drewN | apply Kd.R_drew)); exact Kd.R_mono (Kd.R_far (p := ⟨gb102, 2, none⟩) (Kd.R_far (p := ⟨gb102, 2, none⟩) (Kd.R_far (p := ⟨gb102, 1, none⟩) (Kd.R_far (p := ⟨gb102, 0, none⟩) (Kd.R_mono HO_3.out (fun k_ hk => (⟨hk, hk.2⟩ : _ ∧ k_ ≠ gb102))) (fun _ hk => hk.2) (.string ((rd_T33 l0 x5_1).f0))) (fun _ hk => hk.2) (.int .i64 ((rd_T33 l0 x5_1).f1))) (fun _ hk => hk.2) (.string ((rd_T33 l0 x5_1).f2))) (fun _ hk => hk.2) (.string (⟨#[]⟩ : ByteArray))) (fun _ hk => hk.1.2))); (case aS => exact (below_size (by repeat (first | (with_reducible first | exact HB.out | apply below_alloc | apply pw_below_drewN | apply below_drew1 | refine below_set ?_ GE102.out) | exact HB.out)))); (case aL => have := LMc8.out; omega); intro v104 w11 ho hb hg hat; rw [← Ny103.out] at ho; have n0_ := Aside0.mk (blk_grown (g := gb102) (o := .cells #[.string ((rd_T33 l0 x5_1).f0), .int .i64 ((rd_T33 l0 x5_1).f1), .string (⟨#[]⟩ : ByteArray)] 33 (0, 0)) (by (with_reducible repeat (first | refine blk_drewN ?_ _ | refine blk_drew ?_ | refine blk_alloc ?_ _)); refine blk_put (cs := #[.string ((rd_T33 l0 x5_1).f0), .int .i64 ((rd_T33 l0 x5_1).f1), .string ((rd_T33 l0 x5_1).f2)]) ?_ 2 _ rfl; (with_reducible repeat (first | refine blk_drewN ?_ _ | refine blk_drew ?_ | refine blk_alloc ?_ _)); refine blk_put (cs := #[.string ((rd_T33 l0 x5_1).f0), .int .i64 ((rd_T33 l0 x5_1).f1), .string (⟨#[]⟩ : ByteArray)]) ?_ 2 _ rfl; (with_reducible repeat (first | refine blk_drewN ?_ _ | refine blk_drew ?_ | refine blk_alloc ?_ _)); refine blk_put (cs := #[.string ((rd_T33 l0 x5_1).f0), .int .i64 0, .string (⟨#[]⟩ : ByteArray)]) ?_ 1 _ rfl; (with_reducible repeat (first | refine blk_drewN ?_ _ | refine blk_drew ?_ | refine blk_alloc ?_ _)); refine blk_put (cs := #[.string (⟨#[]⟩ : ByteArray), .int .i64 0, .string (⟨#[]⟩ : ByteArray)]) ?_ 0 _ rfl; (with_reducible repeat (first | refine blk_drewN ?_ _ | refine blk_drew ?_ | refine blk_alloc ?_ _)); exact BK102.out) hg (Kd.R_away HO_3.out (fun _ hk => hk.2))); have n1_ := Aside0.mk (hb); have n2_ := Aside0.mk (ho); clear BK102; clear HB; clear HO_3; have BK102 := n0_; have HB := n1_; have HO105 := n2_; clear n0_ n1_ n2_; clear ho hb hg hat))
                    go_roundg kj1
                    case measure => have := HK1.out; have := HJ1.out; omega
                    case rel => exact ⟨(y103), (wrap64 (x4_1 + 0)), (wrap64 (x5_1 + 1)), (by first | rfl | (simp; done) | (simp [*]; done)), (by first | rfl | (simp; done) | (simp [*]; done)), H', ⟨by have := HK1.out; have := HJ1.out; omega⟩, ⟨by (with_reducible repeat (first | apply Kd.R_alloc | apply Kd.R_drewN | apply Kd.R_drew)); exact Kd.R_mono HO105.out (fun _ hk => trivial)⟩, ⟨by repeat (first | (with_reducible first | exact HB.out | apply below_alloc | apply pw_below_drewN | apply below_drew1 | refine below_set ?_ GE102.out) | exact HB.out)⟩⟩
                  · rw [if_neg c8] at H
                    exact absurd H (by simp)
                · rw [if_neg c7] at H
                  have c7b0 : decide ((wrap64 (20000 - x4_1)) < (((rd_T33 l0 x5_1).f2).size : Int)) = false := decide_eq_false c7
                  clear c7
                  by_cases c12 : x3_1.length < 3518437208883
                  · rw [if_pos c12] at H
                    have LMc12 := Aside0.mk c12
                    clear c12
                    obtain ⟨y106, hy106⟩ : ∃ y_ : List (S33), y_ = (x3_1 ++ [(⟨(rd_T33 l0 x5_1).f0, (rd_T33 l0 x5_1).f1, (rd_T33 l0 x5_1).f2⟩ : S33)]) := ⟨_, rfl⟩
                    replace H : (barquelaw10_few.l0 kj1 l0 y106 (wrap64 (x4_1 + (((rd_T33 l0 x5_1).f2).size : Int))) (wrap64 (x5_1 + 1))) = some r := by first | (rw [hy106]; with_reducible exact H) | (have H2_ := (Option.bind_some _ _).symm.trans H; rw [hy106]; with_reducible exact H2_) | (have H2_ := (Option.bind_some _ _).symm.trans H; with_reducible exact H2_) | with_reducible exact H | (rw [hy106]; exact H) | exact H
                    have Ny106 := Aside0.mk hy106
                    clear hy106
                    have H' := Aside0.mk H
                    clear H
                    have p101 : 0 ≤ (x5_1 : Int) := of_decide_eq_true (by first | (with_reducible assumption) | assumption)
                    have q101 : x5_1 < (l0.length : Int) := of_decide_eq_true (by first | (with_reducible assumption) | assumption)
                    obtain ⟨ad101, e101, hx101_0, hx101_1, hx101_2⟩ := at_T33 HR0.out x5_1 p101 q101
                    cases e101
                    replace hx101_0 := (HB.out.cell (World.block_lt_of_cell? w _ hx101_0)).trans hx101_0
                    replace hx101_1 := (HB.out.cell (World.block_lt_of_cell? w _ hx101_1)).trans hx101_1
                    replace hx101_2 := (HB.out.cell (World.block_lt_of_cell? w _ hx101_2)).trans hx101_2
                    replace p101 := eq_true p101
                    replace q101 := eq_true q101
                    go_wp2_with (first | ((with_reducible refine gate_dst (N := 6) rfl ?_); refine box_event ?hg (N := 6) ?hd (cs := #[.string (⟨#[]⟩ : ByteArray), .int .i64 0, .string (⟨#[]⟩ : ByteArray)]) (t := 33) ?hr ?_; (case hd => rfl); (case hg => rfl); (case hr => first | (go_simp; done) | (go_simp; rfl)); intro gb102 hg w13 hbox hb; have n0_ := Aside0.mk (Kd.R_below (Kd.R_elderB (by (with_reducible repeat (first | apply Kd.R_alloc | apply Kd.R_drewN | apply Kd.R_drew)); exact HO_3.out) gb102 (Nat.le_of_eq hg.symm)) hb); have n1_ := Aside0.mk (below_step (by repeat (first | (with_reducible first | exact HB.out | apply below_alloc | apply pw_below_drewN | apply below_drew1) | exact HB.out)) hb); have n2_ := Aside0.mk (hbox); have n3_ := Aside0.mk ((by rw [hg]; exact (below_size (by repeat (first | (with_reducible first | exact HB.out | apply below_alloc | apply pw_below_drewN | apply below_drew1) | exact HB.out))) : w.heap.size ≤ gb102)); have n4_ := Aside0.mk ((by rw [hg]; exact (below_size (by repeat (first | (with_reducible first | exact HB.out | apply below_alloc | apply pw_below_drewN | apply below_drew1) | exact HB.out))) : w.heap.size ≤ gb102)); clear HO_3; clear HB; have HO_3 := n0_; have HB := n1_; have BK102 := n2_; have GW102 := n3_; have GE102 := n4_; clear n0_ n1_ n2_ n3_ n4_; clear hb hbox hg; have hcz14_0 : w13.cell? ⟨gb102, 0, none⟩ = some (.string (⟨#[]⟩ : ByteArray)) := (blk_cell BK102.out 0).trans rfl; have hcz14_1 : w13.cell? ⟨gb102, 1, none⟩ = some (.int .i64 0) := (blk_cell BK102.out 1).trans rfl; have hcz14_2 : w13.cell? ⟨gb102, 2, none⟩ = some (.string (⟨#[]⟩ : ByteArray)) := (blk_cell BK102.out 2).trans rfl; have hfz14_0 := blk_frozen BK102.out 0; have hfz14_1 := blk_frozen BK102.out 1; have hfz14_2 := blk_frozen BK102.out 2; have hq0_ : ∀ (a_ b_ c_ d_ : Value), ((((w13.setCell ⟨gb102, 0, none⟩ a_).setCell ⟨gb102, 1, none⟩ b_).setCell ⟨gb102, 2, none⟩ c_).setCell ⟨gb102, 2, none⟩ d_).cell? ⟨gb102, 0, none⟩ = some a_ := fun a_ b_ c_ d_ => (blk_cell (blk_put (blk_put (blk_put (blk_put BK102.out 0 a_ rfl) 1 b_ rfl) 2 c_ rfl) 2 d_ rfl) 0).trans rfl; have hq1_ : ∀ (a_ b_ c_ d_ : Value), ((((w13.setCell ⟨gb102, 0, none⟩ a_).setCell ⟨gb102, 1, none⟩ b_).setCell ⟨gb102, 2, none⟩ c_).setCell ⟨gb102, 2, none⟩ d_).cell? ⟨gb102, 1, none⟩ = some b_ := fun a_ b_ c_ d_ => (blk_cell (blk_put (blk_put (blk_put (blk_put BK102.out 0 a_ rfl) 1 b_ rfl) 2 c_ rfl) 2 d_ rfl) 1).trans rfl; have hq2_ : ∀ (a_ b_ c_ d_ : Value), ((((w13.setCell ⟨gb102, 0, none⟩ a_).setCell ⟨gb102, 1, none⟩ b_).setCell ⟨gb102, 2, none⟩ c_).setCell ⟨gb102, 2, none⟩ d_).cell? ⟨gb102, 2, none⟩ = some d_ := fun a_ b_ c_ d_ => (blk_cell (blk_put (blk_put (blk_put (blk_put BK102.out 0 a_ rfl) 1 b_ rfl) 2 c_ rfl) 2 d_ rfl) 2).trans rfl) | ((with_reducible refine gate_builtin (b := .append) (xs := #[.tmp 33, .tmp 35]) rfl ?_); at_builtin; refine Kd.R_append k33 (w0 := w) w.heap.size rfl (.tmp 33) (.tmp 35) 22 33 (.agg #[(.string ⟨#[]⟩), (.int .i64 0), (.string ⟨#[]⟩)]) 40 rfl Tryd.underlying22 info33 rfl (by decide) (by omega) u3 x3_1 (⟨(rd_T33 l0 x5_1).f0, (rd_T33 l0 x5_1).f1, (rd_T33 l0 x5_1).f2⟩ : S33) [.string ((rd_T33 l0 x5_1).f0), .int .i64 ((rd_T33 l0 x5_1).f1), .string ((rd_T33 l0 x5_1).f2)] (fun k_ => k_ ≠ gb102) (fun _ => False) rfl (by first | (go_simp; done) | (go_simp; rfl)) ?aP (fun _ hk => hk.elim) ?aF ?aO ?aB ?aS ?aL ?_; (case aP => exact k33_mkM _ _ _ (⟨(rd_T33 l0 x5_1).f0, (rd_T33 l0 x5_1).f1, (rd_T33 l0 x5_1).f2⟩ : S33)); (case aB => exact (by repeat (first | (with_reducible first | exact HB.out | apply below_alloc | apply pw_below_drewN | apply below_drew1 | refine below_set ?_ GE102.out) | exact HB.out))); (case aF => exact (fun k_ hk => Kd.freshB (g := gb102) (o := .cells #[.string ((rd_T33 l0 x5_1).f0), .int .i64 ((rd_T33 l0 x5_1).f1), .string ((rd_T33 l0 x5_1).f2)] 33 (0, 0)) (by (with_reducible repeat (first | refine blk_drewN ?_ _ | refine blk_drew ?_ | refine blk_alloc ?_ _)); refine blk_put (cs := #[.string ((rd_T33 l0 x5_1).f0), .int .i64 ((rd_T33 l0 x5_1).f1), .string (⟨#[]⟩ : ByteArray)]) ?_ 2 _ rfl; (with_reducible repeat (first | refine blk_drewN ?_ _ | refine blk_drew ?_ | refine blk_alloc ?_ _)); refine blk_put (cs := #[.string ((rd_T33 l0 x5_1).f0), .int .i64 0, .string (⟨#[]⟩ : ByteArray)]) ?_ 1 _ rfl; (with_reducible repeat (first | refine blk_drewN ?_ _ | refine blk_drew ?_ | refine blk_alloc ?_ _)); refine blk_put (cs := #[.string (⟨#[]⟩ : ByteArray), .int .i64 0, .string (⟨#[]⟩ : ByteArray)]) ?_ 0 _ rfl; (with_reducible repeat (first | refine blk_drewN ?_ _ | refine blk_drew ?_ | refine blk_alloc ?_ _)); exact BK102.out) k_ hk)); (case aO => exact (by (with_reducible repeat (first | apply Kd.R_alloc | apply Kd.R_drewN | apply Kd.R_drew)); exact Kd.R_mono (Kd.R_far (p := ⟨gb102, 2, none⟩) (Kd.R_far (p := ⟨gb102, 1, none⟩) (Kd.R_far (p := ⟨gb102, 0, none⟩) (Kd.R_mono HO_3.out (fun k_ hk => (⟨hk, hk.2⟩ : _ ∧ k_ ≠ gb102))) (fun _ hk => hk.2) (.string ((rd_T33 l0 x5_1).f0))) (fun _ hk => hk.2) (.int .i64 ((rd_T33 l0 x5_1).f1))) (fun _ hk => hk.2) (.string ((rd_T33 l0 x5_1).f2))) (fun _ hk => hk.1.2))); (case aS => exact (below_size (by repeat (first | (with_reducible first | exact HB.out | apply below_alloc | apply pw_below_drewN | apply below_drew1 | refine below_set ?_ GE102.out) | exact HB.out)))); (case aL => have := LMc12.out; omega); intro v107 w15 ho hb hg hat; rw [← Ny106.out] at ho; have n0_ := Aside0.mk (blk_grown (g := gb102) (o := .cells #[.string ((rd_T33 l0 x5_1).f0), .int .i64 ((rd_T33 l0 x5_1).f1), .string ((rd_T33 l0 x5_1).f2)] 33 (0, 0)) (by (with_reducible repeat (first | refine blk_drewN ?_ _ | refine blk_drew ?_ | refine blk_alloc ?_ _)); refine blk_put (cs := #[.string ((rd_T33 l0 x5_1).f0), .int .i64 ((rd_T33 l0 x5_1).f1), .string (⟨#[]⟩ : ByteArray)]) ?_ 2 _ rfl; (with_reducible repeat (first | refine blk_drewN ?_ _ | refine blk_drew ?_ | refine blk_alloc ?_ _)); refine blk_put (cs := #[.string ((rd_T33 l0 x5_1).f0), .int .i64 0, .string (⟨#[]⟩ : ByteArray)]) ?_ 1 _ rfl; (with_reducible repeat (first | refine blk_drewN ?_ _ | refine blk_drew ?_ | refine blk_alloc ?_ _)); refine blk_put (cs := #[.string (⟨#[]⟩ : ByteArray), .int .i64 0, .string (⟨#[]⟩ : ByteArray)]) ?_ 0 _ rfl; (with_reducible repeat (first | refine blk_drewN ?_ _ | refine blk_drew ?_ | refine blk_alloc ?_ _)); exact BK102.out) hg (Kd.R_away HO_3.out (fun _ hk => hk.2))); have n1_ := Aside0.mk (hb); have n2_ := Aside0.mk (ho); clear BK102; clear HB; clear HO_3; have BK102 := n0_; have HB := n1_; have HO108 := n2_; clear n0_ n1_ n2_; clear ho hb hg hat))
                    go_roundg kj1
                    case measure => have := HK1.out; have := HJ1.out; omega
                    case rel => exact ⟨(y106), (wrap64 (x4_1 + (((rd_T33 l0 x5_1).f2).size : Int))), (wrap64 (x5_1 + 1)), (by first | rfl | (simp; done) | (simp [*]; done)), (by first | rfl | (simp; done) | (simp [*]; done)), H', ⟨by have := HK1.out; have := HJ1.out; omega⟩, ⟨by (with_reducible repeat (first | apply Kd.R_alloc | apply Kd.R_drewN | apply Kd.R_drew)); exact Kd.R_mono HO108.out (fun _ hk => trivial)⟩, ⟨by repeat (first | (with_reducible first | exact HB.out | apply below_alloc | apply pw_below_drewN | apply below_drew1 | refine below_set ?_ GE102.out) | exact HB.out)⟩⟩
                  · rw [if_neg c12] at H
                    exact absurd H (by simp)
              · rw [if_neg c6] at H
                exact absurd H (by simp)
            · rw [if_neg c5] at H
              exact absurd H (by simp)
          · replace c4 := Bool.eq_false_iff.mpr c4
            subst c4
            have H1 : (some x3_1) = some r := by rw [if_neg (show ¬ (false = true) by decide)] at H; exact H
            clear H
            have H := H1
            clear H1
            obtain rfl := Option.some.inj H
            go_wp2
            go_ret
            exact ⟨_, by first | rfl | (simp [errW_none, errW_some] <;> rfl) | (simp [*, errW_none, errW_some] <;> rfl), by (with_reducible repeat (first | apply Kd.R_alloc | apply Kd.R_drewN | apply Kd.R_drew)); exact HO_3.out, by repeat (first | (with_reducible first | exact HB.out | apply below_alloc | apply pw_below_drewN | apply below_drew1) | exact HB.out)⟩
end Go.Proofs.YtmeofdpmddjbgaaDoor.G
end
section
namespace Go.Proofs.YtmeofdpmddjbgaaDoor.G
open Go.RowKit Go.Proofs.YtmeofdpmddjbgaaDoorW.PrintWords Go.Proofs.YtmeofdpmddjbgaaDoorW.PrintLast Go.Proofs.YtmeofdpmddjbgaaDoorW.PrintMore
attribute [local go_sem] max2_int min2_int max_two min_two max_three min_three max_four min_four   -- for this text's walks alone
set_option linter.unusedVariables false
set_option linter.unusedSimpArgs false
def barquelaw10_awake.f (k : Nat)  : Option (Bool) := (image_Of.f k (([(⟨(⟨#[97]⟩ : ByteArray), 0, (⟨#[104, 105]⟩ : ByteArray)⟩ : S33)] : List (S33)))).bind fun bt195 => (if bt195.1.toList = ([1, 1, 97, 0, 2, 104, 105] : List UInt8) then (some (bt195.2 == 0)) else (some false))
theorem barquelaw10_awake.mono : ∀ k, LeO (barquelaw10_awake.f k ) (barquelaw10_awake.f (k + 1) ) := by
  intro  k
  unfold barquelaw10_awake.f
  repeat' first
      | (with_reducible exact image_Of.mono _ _)
      | (with_reducible exact LeO.refl _)
      | (with_reducible exact LeO.none _)
      | (with_reducible refine LeO.ite ?_ ?_)
      | (with_reducible refine LeO.bind ?_ (fun _ => ?_))
      | exact image_Of.mono _ _
      | exact LeO.none _
      | refine LeO.ite ?_ ?_
      | refine LeO.bind ?_ (fun _ => ?_)
set_option maxHeartbeats 8000000 in
set_option maxRecDepth 100000 in
theorem barquelaw10_awake.calls (k : Nat)  (r : Bool) (w : World) (h : barquelaw10_awake.f k  = some r) :
    Calls Tryd.prog 15 #[] w fun e w' => e = .returned (.bool r) ∧ Below w.heap.size w w' := by
  have hu33 := Tryd.underlying33
  have HB := Aside0.mk (Below.refl w.heap.size w)
  have H : ((image_Of.f k (([(⟨(⟨#[97]⟩ : ByteArray), 0, (⟨#[104, 105]⟩ : ByteArray)⟩ : S33)] : List (S33)))).bind fun bt195 => (if bt195.1.toList = ([1, 1, 97, 0, 2, 104, 105] : List UInt8) then (some (bt195.2 == 0)) else (some false))) = some r := h
  clear h
  obtain ⟨y192, hy192⟩ : ∃ y_ : List (S33), y_ = (([(⟨(⟨#[97]⟩ : ByteArray), 0, (⟨#[104, 105]⟩ : ByteArray)⟩ : S33)] : List (S33))) := ⟨_, rfl⟩
  replace H : ((image_Of.f k y192).bind fun bt195 => (if bt195.1.toList = ([1, 1, 97, 0, 2, 104, 105] : List UInt8) then (some (bt195.2 == 0)) else (some false))) = some r := by first | (rw [hy192]; with_reducible exact H) | (have H2_ := (Option.bind_some _ _).symm.trans H; rw [hy192]; with_reducible exact H2_) | (have H2_ := (Option.bind_some _ _).symm.trans H; with_reducible exact H2_) | with_reducible exact H | (rw [hy192]; exact H) | exact H
  have Ny192 := Aside0.mk hy192
  clear hy192
  replace H := Option.bind_eq_some_iff.mp H
  obtain ⟨⟨t195, t196⟩, A10, H⟩ := H
  replace H : (if t195.toList = ([1, 1, 97, 0, 2, 104, 105] : List UInt8) then (some (t196 == 0)) else (some false)) = some r := H
  have A1 := Aside0.mk A10
  clear A10
  by_cases c2 : t195.toList = ([1, 1, 97, 0, 2, 104, 105] : List UInt8)
  · rw [if_pos c2] at H
    have c2b0 : (t195.toList == ([1, 1, 97, 0, 2, 104, 105] : List UInt8)) = true := beq_iff_eq.mpr c2
    have c2b1 : (t195.toList != ([1, 1, 97, 0, 2, 104, 105] : List UInt8)) = false := bne_eq_false_iff_eq.mpr c2
    clear c2
    obtain rfl := Option.some.inj H
    go_enter Tryd.func15, Tryd.ntmps15
    go_wp2_with (first | ((with_reducible refine gate_dst (N := 5) rfl ?_); refine Kd.R_lit k33 _ 33 ?hg (N := 5) ?hd (xs := ([(⟨(⟨#[97]⟩ : ByteArray), 0, (⟨#[104, 105]⟩ : ByteArray)⟩ : S33)] : List (S33))) (inner := [.string (⟨#[97]⟩ : ByteArray), .int .i64 0, .string (⟨#[104, 105]⟩ : ByteArray)]) (ok := fun _ => True) (okp := fun _ => True) ?hr ?hp (fun _ hk => hk) trivial (Below.refl _ _) (Nat.le_refl _) (by simp) ?_; (case hd => rfl); (case hg => rfl); (case hr => first | (go_simp; done) | (go_simp; rfl)); (case hp => exact (Reps.c3 (show Kd.M k33 _ _ _ (⟨(⟨#[97]⟩ : ByteArray), 0, (⟨#[104, 105]⟩ : ByteArray)⟩ : S33) [.string (⟨#[97]⟩ : ByteArray), .int .i64 0, .string (⟨#[104, 105]⟩ : ByteArray)] from (k33_mkM _ _ _ (⟨(⟨#[97]⟩ : ByteArray), 0, (⟨#[104, 105]⟩ : ByteArray)⟩ : S33) )) (Reps.none _ _))); intro v193 w3 ho4 hb hg_ hnew_; clear hg_ hnew_; (first | rw [← Ny192.out] at ho4 | (simp only [Int.reduceToNat] at ho4; rw [← Ny192.out] at ho4)); have n0_ := Aside0.mk (Kd.R_lower ho4 (below_size (by repeat (first | (with_reducible first | exact HB.out | apply below_alloc | apply pw_below_drewN | apply below_drew1) | exact HB.out)))); have n1_ := Aside0.mk (below_step (by repeat (first | (with_reducible first | exact HB.out | apply below_alloc | apply pw_below_drewN | apply below_drew1) | exact HB.out)) hb); clear HB; have HO194 := n0_; have HB := n1_; clear n0_ n1_; clear hb ho4; obtain ⟨Ao5, co5, eo5⟩ := Kd.R_slice HO194.out; subst eo5) | ((with_reducible refine gate_callee (f := 12) rfl ?_); refine goesL_ (some 6) rfl rfl Tryd.func12 (by kernel_rfl) rfl #[.slice Ao5 y192.length co5] rfl (by (try simp only [List.map_toArray, List.map_cons, List.map_nil]); first | done | rfl | (simp only [List.length_drop, List.length_take]; rfl)) ?_; (with_reducible refine (image_Of.calls k _ _ y192 t195 t196 _ ?side1 ?side2 A1.out).mono ?_); (case side1 => repeat (first | exact (Kd.R_reads' HO194.out).2.2 | (with_reducible refine Kd.C_alloc ?_ _) | (with_reducible refine Kd.C_drewN ?_ _) | (with_reducible refine Kd.C_drew ?_))); (case side2 => exact (Kd.R_reads' HO194.out).2.1); rintro e w6 ⟨rfl, hb⟩; refine ⟨_, rfl, ?_⟩; have n0_ := Aside0.mk (Kd.R_below (by (with_reducible repeat (first | apply Kd.R_alloc | apply Kd.R_drewN | apply Kd.R_drew)); exact HO194.out) hb); have n1_ := Aside0.mk (below_step (by repeat (first | (with_reducible first | exact HB.out | apply below_alloc | apply pw_below_drewN | apply below_drew1) | exact HB.out)) hb); clear HO194; clear HB; have HO194 := n0_; have HB := n1_; clear n0_ n1_; (try clear hb); (try clear hb2); (try clear hk); (try clear hi)))
    go_ret
    exact ⟨by first | rfl | (simp [errW_none, errW_some] <;> rfl) | (simp [*, errW_none, errW_some] <;> rfl), by repeat (first | (with_reducible first | exact HB.out | apply below_alloc | apply pw_below_drewN | apply below_drew1) | exact HB.out)⟩
  · rw [if_neg c2] at H
    have c2b0 : (t195.toList == ([1, 1, 97, 0, 2, 104, 105] : List UInt8)) = false := beq_eq_false_iff_ne.mpr c2
    have c2b1 : (t195.toList != ([1, 1, 97, 0, 2, 104, 105] : List UInt8)) = true := bne_iff_ne.mpr c2
    obtain rfl := Option.some.inj H
    go_enter Tryd.func15, Tryd.ntmps15
    go_wp2_with (first | ((with_reducible refine gate_dst (N := 5) rfl ?_); refine Kd.R_lit k33 _ 33 ?hg (N := 5) ?hd (xs := ([(⟨(⟨#[97]⟩ : ByteArray), 0, (⟨#[104, 105]⟩ : ByteArray)⟩ : S33)] : List (S33))) (inner := [.string (⟨#[97]⟩ : ByteArray), .int .i64 0, .string (⟨#[104, 105]⟩ : ByteArray)]) (ok := fun _ => True) (okp := fun _ => True) ?hr ?hp (fun _ hk => hk) trivial (Below.refl _ _) (Nat.le_refl _) (by simp) ?_; (case hd => rfl); (case hg => rfl); (case hr => first | (go_simp; done) | (go_simp; rfl)); (case hp => exact (Reps.c3 (show Kd.M k33 _ _ _ (⟨(⟨#[97]⟩ : ByteArray), 0, (⟨#[104, 105]⟩ : ByteArray)⟩ : S33) [.string (⟨#[97]⟩ : ByteArray), .int .i64 0, .string (⟨#[104, 105]⟩ : ByteArray)] from (k33_mkM _ _ _ (⟨(⟨#[97]⟩ : ByteArray), 0, (⟨#[104, 105]⟩ : ByteArray)⟩ : S33) )) (Reps.none _ _))); intro v193 w7 ho8 hb hg_ hnew_; clear hg_ hnew_; (first | rw [← Ny192.out] at ho8 | (simp only [Int.reduceToNat] at ho8; rw [← Ny192.out] at ho8)); have n0_ := Aside0.mk (Kd.R_lower ho8 (below_size (by repeat (first | (with_reducible first | exact HB.out | apply below_alloc | apply pw_below_drewN | apply below_drew1) | exact HB.out)))); have n1_ := Aside0.mk (below_step (by repeat (first | (with_reducible first | exact HB.out | apply below_alloc | apply pw_below_drewN | apply below_drew1) | exact HB.out)) hb); clear HB; have HO194 := n0_; have HB := n1_; clear n0_ n1_; clear hb ho8; obtain ⟨Ao9, co9, eo9⟩ := Kd.R_slice HO194.out; subst eo9) | ((with_reducible refine gate_callee (f := 12) rfl ?_); refine goesL_ (some 6) rfl rfl Tryd.func12 (by kernel_rfl) rfl #[.slice Ao9 y192.length co9] rfl (by (try simp only [List.map_toArray, List.map_cons, List.map_nil]); first | done | rfl | (simp only [List.length_drop, List.length_take]; rfl)) ?_; (with_reducible refine (image_Of.calls k _ _ y192 t195 t196 _ ?side1 ?side2 A1.out).mono ?_); (case side1 => repeat (first | exact (Kd.R_reads' HO194.out).2.2 | (with_reducible refine Kd.C_alloc ?_ _) | (with_reducible refine Kd.C_drewN ?_ _) | (with_reducible refine Kd.C_drew ?_))); (case side2 => exact (Kd.R_reads' HO194.out).2.1); rintro e w10 ⟨rfl, hb⟩; refine ⟨_, rfl, ?_⟩; have n0_ := Aside0.mk (Kd.R_below (by (with_reducible repeat (first | apply Kd.R_alloc | apply Kd.R_drewN | apply Kd.R_drew)); exact HO194.out) hb); have n1_ := Aside0.mk (below_step (by repeat (first | (with_reducible first | exact HB.out | apply below_alloc | apply pw_below_drewN | apply below_drew1) | exact HB.out)) hb); clear HO194; clear HB; have HO194 := n0_; have HB := n1_; clear n0_ n1_; (try clear hb); (try clear hb2); (try clear hk); (try clear hi)))
    go_ret
    exact ⟨by first | rfl | (simp [errW_none, errW_some] <;> rfl) | (simp [*, errW_none, errW_some] <;> rfl), by repeat (first | (with_reducible first | exact HB.out | apply below_alloc | apply pw_below_drewN | apply below_drew1) | exact HB.out)⟩
end Go.Proofs.YtmeofdpmddjbgaaDoor.G
end
section
namespace Go.Proofs.YtmeofdpmddjbgaaDoor.G
open Go.RowKit Go.Proofs.YtmeofdpmddjbgaaDoorW.PrintWords Go.Proofs.YtmeofdpmddjbgaaDoorW.PrintLast Go.Proofs.YtmeofdpmddjbgaaDoorW.PrintMore
set_option linter.unusedVariables false
set_option linter.unusedSimpArgs false
theorem awakeI_ev : Ev (fun k => barquelaw10_awake.f k) true := Ev.of (fun k => barquelaw10_awake.mono k) (k := 60) (by kernel_rfl)
theorem few_l0 (l : List S33) (hl : l.length ≤ 9223372036854775807) : ∀ (d i : Nat) (acc : List S33) (n : Int), 60 - i = d → i ≤ 60 → acc.length = i → ∃ m : List S33, m.length ≤ 60 ∧ Ev (fun k => barquelaw10_few.l0 k l acc n i) m := by
  intro d
  induction d with
  | zero =>
    intro i acc n hd hi ha
    refine ⟨acc, by omega, ?_⟩
    apply Ev.step
    · intro k; rw [barquelaw10_few.l0]
    have hj : Ev (fun k => barquelaw10_few.j1 k l acc n (i : Int) false) acc := by
      apply Ev.step
      · intro k; rw [barquelaw10_few.j1]
      simp only [Bool.false_eq_true, ↓reduceIte]
      exact Ev.now _
    have c2 : decide ((i : Int) < 60) = false := by simp; omega
    by_cases c : (i : Int) < (l.length : Int)
    · simp only [c, c2, ↓reduceIte]
      exact hj
    · simp only [c, ↓reduceIte]
      exact hj
  | succ d ih =>
    intro i acc n hd hi ha
    have c2 : decide ((i : Int) < 60) = true := by simp; omega
    by_cases c : (i : Int) < (l.length : Int)
    · have hlt : i < l.length := by omega
      have c3 : (0 : Int) ≤ (i : Int) := by omega
      have c4 : acc.length < 3518437208883 := by omega
      have hw : wrap64 ((i : Int) + 1) = ((i + 1 : Nat) : Int) := by rw [w64_ (by omega) (by omega)]; omega
      by_cases g : (((l[i]'hlt).f2).size : Int) > wrap64 (20000 - n)
      · obtain ⟨m, m1, m2⟩ := ih (i + 1) (acc ++ [⟨(l[i]'hlt).f0, (l[i]'hlt).f1, (⟨#[]⟩ : ByteArray)⟩]) (wrap64 (n + 0)) (by omega) (by omega) (by rw [List.length_append, List.length_singleton]; omega)
        refine ⟨m, m1, ?_⟩
        apply Ev.step
        · intro k; rw [barquelaw10_few.l0]
        simp only [c, c2, ↓reduceIte]
        apply Ev.step
        · intro k; rw [barquelaw10_few.j1]
        simp only [c, c3, c4, hw, g, ↓reduceIte, rdF_nat l i hlt]
        exact m2
      · obtain ⟨m, m1, m2⟩ := ih (i + 1) (acc ++ [⟨(l[i]'hlt).f0, (l[i]'hlt).f1, (l[i]'hlt).f2⟩]) (wrap64 (n + (((l[i]'hlt).f2).size : Int))) (by omega) (by omega) (by rw [List.length_append, List.length_singleton]; omega)
        refine ⟨m, m1, ?_⟩
        apply Ev.step
        · intro k; rw [barquelaw10_few.l0]
        simp only [c, c2, ↓reduceIte]
        apply Ev.step
        · intro k; rw [barquelaw10_few.j1]
        simp only [c, c3, c4, hw, g, ↓reduceIte, rdF_nat l i hlt]
        exact m2
    · refine ⟨acc, by omega, ?_⟩
      apply Ev.step
      · intro k; rw [barquelaw10_few.l0]
      simp only [c, ↓reduceIte]
      apply Ev.step
      · intro k; rw [barquelaw10_few.j1]
      simp only [Bool.false_eq_true, ↓reduceIte]
      exact Ev.now _
theorem few_ev (l : List S33) (hl : l.length ≤ 9223372036854775807) : ∃ m : List S33, m.length ≤ 60 ∧ Ev (fun k => barquelaw10_few.f k l) m := by
  obtain ⟨m, h1, h2⟩ := few_l0 l hl 60 0 [] 0 (by omega) (by omega) rfl
  refine ⟨m, h1, ?_⟩
  unfold barquelaw10_few.f
  simpa using h2
end Go.Proofs.YtmeofdpmddjbgaaDoor.G
end
section
namespace Go.Proofs.YtmeofdpmddjbgaaDoor.G
open Go.RowKit Go.Proofs.YtmeofdpmddjbgaaDoorW.PrintWords Go.Proofs.YtmeofdpmddjbgaaDoorW.PrintLast Go.Proofs.YtmeofdpmddjbgaaDoorW.PrintMore
attribute [local go_sem] max2_int min2_int max_two min_two max_three min_three max_four min_four   -- for this text's walks alone
set_option linter.unusedVariables false
set_option linter.unusedSimpArgs false
def barquelaw10_ImageOfs.f (k : Nat) (l0 : List (S33)) : Option (Bool) := (barquelaw10_few.f k l0).bind fun t197 => ((image_Of.f k t197).bind fun bt200 => ((barqueref10_Of.f k t197).bind fun bt202 => ((image_Size.f k t197).bind fun bt204 => (if bt200.1.toList = bt202.1.toList then (if bt200.2 = bt202.2 then (if bt204.2 = bt202.2 then (if bt204.1 = (bt202.1.size : Int) then ((barquelaw10_awake.f k).bind fun t206 => (some t206)) else (some false)) else (some false)) else (some false)) else (some false)))))
theorem barquelaw10_ImageOfs.mono : ∀ a0 k, LeO (barquelaw10_ImageOfs.f k a0) (barquelaw10_ImageOfs.f (k + 1) a0) := by
  intro a0 k
  unfold barquelaw10_ImageOfs.f
  repeat' first
      | (with_reducible exact barquelaw10_awake.mono _)
      | (with_reducible exact barquelaw10_few.mono _ _)
      | (with_reducible exact barqueref10_Of.mono _ _)
      | (with_reducible exact image_Of.mono _ _)
      | (with_reducible exact image_Size.mono _ _)
      | (with_reducible exact LeO.refl _)
      | (with_reducible exact LeO.none _)
      | (with_reducible refine LeO.ite ?_ ?_)
      | (with_reducible refine LeO.bind ?_ (fun _ => ?_))
      | exact barquelaw10_awake.mono _
      | exact barquelaw10_few.mono _ _
      | exact barqueref10_Of.mono _ _
      | exact image_Of.mono _ _
      | exact image_Size.mono _ _
      | exact LeO.none _
      | refine LeO.ite ?_ ?_
      | refine LeO.bind ?_ (fun _ => ?_)
set_option maxHeartbeats 8000000 in
set_option maxRecDepth 100000 in
theorem barquelaw10_ImageOfs.calls (k : Nat) (A0 : Option Addr) (c0 : Nat) (l0 : List (S33)) (r : Bool) (w : World) (hr0 : Kd.C k33 w A0 l0.length l0) (hc0 : l0.length ≤ c0) (h : barquelaw10_ImageOfs.f k l0 = some r) :
    Calls Tryd.prog 3 #[.slice A0 l0.length c0] w fun e w' => e = .returned (.bool r) ∧ Below w.heap.size w w' := by
  have HR0 := Aside0.mk hr0
  have HC0 := Aside0.mk hc0
  clear hr0 hc0
  have HB := Aside0.mk (Below.refl w.heap.size w)
  have H : ((barquelaw10_few.f k l0).bind fun t197 => ((image_Of.f k t197).bind fun bt200 => ((barqueref10_Of.f k t197).bind fun bt202 => ((image_Size.f k t197).bind fun bt204 => (if bt200.1.toList = bt202.1.toList then (if bt200.2 = bt202.2 then (if bt204.2 = bt202.2 then (if bt204.1 = (bt202.1.size : Int) then ((barquelaw10_awake.f k).bind fun t206 => (some t206)) else (some false)) else (some false)) else (some false)) else (some false)))))) = some r := h
  clear h
  replace H := Option.bind_eq_some_iff.mp H
  obtain ⟨t197, A20, H⟩ := H
  replace H : ((image_Of.f k t197).bind fun bt200 => ((barqueref10_Of.f k t197).bind fun bt202 => ((image_Size.f k t197).bind fun bt204 => (if bt200.1.toList = bt202.1.toList then (if bt200.2 = bt202.2 then (if bt204.2 = bt202.2 then (if bt204.1 = (bt202.1.size : Int) then ((barquelaw10_awake.f k).bind fun t206 => (some t206)) else (some false)) else (some false)) else (some false)) else (some false))))) = some r := H
  have A2 := Aside0.mk A20
  clear A20
  replace H := Option.bind_eq_some_iff.mp H
  obtain ⟨⟨t200, t201⟩, A30, H⟩ := H
  replace H : ((barqueref10_Of.f k t197).bind fun bt202 => ((image_Size.f k t197).bind fun bt204 => (if t200.toList = bt202.1.toList then (if t201 = bt202.2 then (if bt204.2 = bt202.2 then (if bt204.1 = (bt202.1.size : Int) then ((barquelaw10_awake.f k).bind fun t206 => (some t206)) else (some false)) else (some false)) else (some false)) else (some false)))) = some r := H
  have A3 := Aside0.mk A30
  clear A30
  replace H := Option.bind_eq_some_iff.mp H
  obtain ⟨⟨t202, t203⟩, A40, H⟩ := H
  replace H : ((image_Size.f k t197).bind fun bt204 => (if t200.toList = t202.toList then (if t201 = t203 then (if bt204.2 = t203 then (if bt204.1 = (t202.size : Int) then ((barquelaw10_awake.f k).bind fun t206 => (some t206)) else (some false)) else (some false)) else (some false)) else (some false))) = some r := H
  have A4 := Aside0.mk A40
  clear A40
  replace H := Option.bind_eq_some_iff.mp H
  obtain ⟨⟨t204, t205⟩, A50, H⟩ := H
  replace H : (if t200.toList = t202.toList then (if t201 = t203 then (if t205 = t203 then (if t204 = (t202.size : Int) then ((barquelaw10_awake.f k).bind fun t206 => (some t206)) else (some false)) else (some false)) else (some false)) else (some false)) = some r := H
  have A5 := Aside0.mk A50
  clear A50
  by_cases c6 : t200.toList = t202.toList
  · rw [if_pos c6] at H
    have c6b0 : (t200.toList == t202.toList) = true := beq_iff_eq.mpr c6
    have c6b1 : (t200.toList != t202.toList) = false := bne_eq_false_iff_eq.mpr c6
    clear c6
    by_cases c7 : t201 = t203
    · rw [if_pos c7] at H
      have c7b0 : (t201 == t203) = true := beq_iff_eq.mpr c7
      have c7b1 : (t201 != t203) = false := bne_eq_false_iff_eq.mpr c7
      clear c7
      by_cases c8 : t205 = t203
      · rw [if_pos c8] at H
        have c8b0 : (t205 == t203) = true := beq_iff_eq.mpr c8
        have c8b1 : (t205 != t203) = false := bne_eq_false_iff_eq.mpr c8
        clear c8
        by_cases c9 : t204 = (t202.size : Int)
        · rw [if_pos c9] at H
          have c9b0 : (t204 == (t202.size : Int)) = true := beq_iff_eq.mpr c9
          have c9b1 : (t204 != (t202.size : Int)) = false := bne_eq_false_iff_eq.mpr c9
          clear c9
          replace H := Option.bind_eq_some_iff.mp H
          obtain ⟨t206, A100, H⟩ := H
          replace H : (some t206) = some r := H
          have A10 := Aside0.mk A100
          clear A100
          obtain rfl := Option.some.inj H
          go_enter Tryd.func3, Tryd.ntmps3
          go_wp2_with (first | ((with_reducible refine gate_callee (f := 11) rfl ?_); refine goesL_ (some 10) rfl rfl Tryd.func11 (by kernel_rfl) rfl #[.slice A0 l0.length c0] rfl (by (try simp only [List.map_toArray, List.map_cons, List.map_nil]); first | done | rfl | (simp only [List.length_drop, List.length_take]; rfl)) ?_; (with_reducible refine (barquelaw10_few.calls k _ _ l0 t197 _ ?side1 ?side2 A2.out).mono ?_); (case side1 => repeat (first | exact HR0.out | (with_reducible refine Kd.C_alloc ?_ _) | (with_reducible refine Kd.C_drewN ?_ _) | (with_reducible refine Kd.C_drew ?_))); (case side2 => exact HC0.out); rintro e w11 ⟨v198, rfl, ho0, hb⟩; refine ⟨_, rfl, ?_⟩; have n0_ := Aside0.mk (Kd.R_lower ho0 (below_size (by repeat (first | (with_reducible first | exact HB.out | apply below_alloc | apply pw_below_drewN | apply below_drew1) | exact HB.out)))); have n1_ := Aside0.mk (below_step (by repeat (first | (with_reducible first | exact HB.out | apply below_alloc | apply pw_below_drewN | apply below_drew1) | exact HB.out)) hb); clear HB; have HO199 := n0_; have HB := n1_; clear n0_ n1_; (try clear hb); (try clear hb2); (try clear hk); (try clear hi); (try clear ho0); obtain ⟨Ao12, co12, eo12⟩ := Kd.R_slice HO199.out; subst eo12) | ((with_reducible refine gate_callee (f := 12) rfl ?_); refine goesL_ (some 13) rfl rfl Tryd.func12 (by kernel_rfl) rfl #[.slice Ao12 t197.length co12] rfl (by (try simp only [List.map_toArray, List.map_cons, List.map_nil]); first | done | rfl | (simp only [List.length_drop, List.length_take]; rfl)) ?_; (with_reducible refine (image_Of.calls k _ _ t197 t200 t201 _ ?side1 ?side2 A3.out).mono ?_); (case side1 => repeat (first | exact (Kd.R_reads' HO199.out).2.2 | (with_reducible refine Kd.C_alloc ?_ _) | (with_reducible refine Kd.C_drewN ?_ _) | (with_reducible refine Kd.C_drew ?_))); (case side2 => exact (Kd.R_reads' HO199.out).2.1); rintro e w13 ⟨rfl, hb⟩; refine ⟨_, rfl, ?_⟩; have n0_ := Aside0.mk (Kd.R_below (by (with_reducible repeat (first | apply Kd.R_alloc | apply Kd.R_drewN | apply Kd.R_drew)); exact HO199.out) hb); have n1_ := Aside0.mk (below_step (by repeat (first | (with_reducible first | exact HB.out | apply below_alloc | apply pw_below_drewN | apply below_drew1) | exact HB.out)) hb); clear HO199; clear HB; have HO199 := n0_; have HB := n1_; clear n0_ n1_; (try clear hb); (try clear hb2); (try clear hk); (try clear hi)) | ((with_reducible refine gate_callee (f := 13) rfl ?_); refine goesL_ (some 18) rfl rfl Tryd.func13 (by kernel_rfl) rfl #[.slice Ao12 t197.length co12] rfl (by (try simp only [List.map_toArray, List.map_cons, List.map_nil]); first | done | rfl | (simp only [List.length_drop, List.length_take]; rfl)) ?_; (with_reducible refine (barqueref10_Of.calls k _ _ t197 t202 t203 _ ?side1 ?side2 A4.out).mono ?_); (case side1 => repeat (first | exact (Kd.R_reads' HO199.out).2.2 | (with_reducible refine Kd.C_alloc ?_ _) | (with_reducible refine Kd.C_drewN ?_ _) | (with_reducible refine Kd.C_drew ?_))); (case side2 => exact (Kd.R_reads' HO199.out).2.1); rintro e w14 ⟨rfl, hb⟩; refine ⟨_, rfl, ?_⟩; have n0_ := Aside0.mk (Kd.R_below (by (with_reducible repeat (first | apply Kd.R_alloc | apply Kd.R_drewN | apply Kd.R_drew)); exact HO199.out) hb); have n1_ := Aside0.mk (below_step (by repeat (first | (with_reducible first | exact HB.out | apply below_alloc | apply pw_below_drewN | apply below_drew1) | exact HB.out)) hb); clear HO199; clear HB; have HO199 := n0_; have HB := n1_; clear n0_ n1_; (try clear hb); (try clear hb2); (try clear hk); (try clear hi)) | ((with_reducible refine gate_callee (f := 14) rfl ?_); refine goesL_ (some 23) rfl rfl Tryd.func14 (by kernel_rfl) rfl #[.slice Ao12 t197.length co12] rfl (by (try simp only [List.map_toArray, List.map_cons, List.map_nil]); first | done | rfl | (simp only [List.length_drop, List.length_take]; rfl)) ?_; (with_reducible refine (image_Size.calls k _ _ t197 t204 t205 _ ?side1 ?side2 A5.out).mono ?_); (case side1 => repeat (first | exact (Kd.R_reads' HO199.out).2.2 | (with_reducible refine Kd.C_alloc ?_ _) | (with_reducible refine Kd.C_drewN ?_ _) | (with_reducible refine Kd.C_drew ?_))); (case side2 => exact (Kd.R_reads' HO199.out).2.1); rintro e w15 ⟨rfl, hb⟩; refine ⟨_, rfl, ?_⟩; have n0_ := Aside0.mk (Kd.R_below (by (with_reducible repeat (first | apply Kd.R_alloc | apply Kd.R_drewN | apply Kd.R_drew)); exact HO199.out) hb); have n1_ := Aside0.mk (below_step (by repeat (first | (with_reducible first | exact HB.out | apply below_alloc | apply pw_below_drewN | apply below_drew1) | exact HB.out)) hb); clear HO199; clear HB; have HO199 := n0_; have HB := n1_; clear n0_ n1_; (try clear hb); (try clear hb2); (try clear hk); (try clear hi)) | (go_at_call 15; (with_reducible refine (barquelaw10_awake.calls k  t206 _ A10.out).mono ?_); rintro e w16 ⟨rfl, hb⟩; have n0_ := Aside0.mk (Kd.R_below (by (with_reducible repeat (first | apply Kd.R_alloc | apply Kd.R_drewN | apply Kd.R_drew)); exact HO199.out) hb); have n1_ := Aside0.mk (below_step (by repeat (first | (with_reducible first | exact HB.out | apply below_alloc | apply pw_below_drewN | apply below_drew1) | exact HB.out)) hb); clear HO199; clear HB; have HO199 := n0_; have HB := n1_; clear n0_ n1_; (try clear hb); (try clear hb2); (try clear hk); (try clear hi)))
          go_ret
          exact ⟨by first | rfl | (simp [errW_none, errW_some] <;> rfl) | (simp [*, errW_none, errW_some] <;> rfl), by repeat (first | (with_reducible first | exact HB.out | apply below_alloc | apply pw_below_drewN | apply below_drew1) | exact HB.out)⟩
        · rw [if_neg c9] at H
          have c9b0 : (t204 == (t202.size : Int)) = false := beq_eq_false_iff_ne.mpr c9
          have c9b1 : (t204 != (t202.size : Int)) = true := bne_iff_ne.mpr c9
          obtain rfl := Option.some.inj H
          go_enter Tryd.func3, Tryd.ntmps3
          go_wp2_with (first | ((with_reducible refine gate_callee (f := 11) rfl ?_); refine goesL_ (some 10) rfl rfl Tryd.func11 (by kernel_rfl) rfl #[.slice A0 l0.length c0] rfl (by (try simp only [List.map_toArray, List.map_cons, List.map_nil]); first | done | rfl | (simp only [List.length_drop, List.length_take]; rfl)) ?_; (with_reducible refine (barquelaw10_few.calls k _ _ l0 t197 _ ?side1 ?side2 A2.out).mono ?_); (case side1 => repeat (first | exact HR0.out | (with_reducible refine Kd.C_alloc ?_ _) | (with_reducible refine Kd.C_drewN ?_ _) | (with_reducible refine Kd.C_drew ?_))); (case side2 => exact HC0.out); rintro e w17 ⟨v198, rfl, ho0, hb⟩; refine ⟨_, rfl, ?_⟩; have n0_ := Aside0.mk (Kd.R_lower ho0 (below_size (by repeat (first | (with_reducible first | exact HB.out | apply below_alloc | apply pw_below_drewN | apply below_drew1) | exact HB.out)))); have n1_ := Aside0.mk (below_step (by repeat (first | (with_reducible first | exact HB.out | apply below_alloc | apply pw_below_drewN | apply below_drew1) | exact HB.out)) hb); clear HB; have HO199 := n0_; have HB := n1_; clear n0_ n1_; (try clear hb); (try clear hb2); (try clear hk); (try clear hi); (try clear ho0); obtain ⟨Ao18, co18, eo18⟩ := Kd.R_slice HO199.out; subst eo18) | ((with_reducible refine gate_callee (f := 12) rfl ?_); refine goesL_ (some 13) rfl rfl Tryd.func12 (by kernel_rfl) rfl #[.slice Ao18 t197.length co18] rfl (by (try simp only [List.map_toArray, List.map_cons, List.map_nil]); first | done | rfl | (simp only [List.length_drop, List.length_take]; rfl)) ?_; (with_reducible refine (image_Of.calls k _ _ t197 t200 t201 _ ?side1 ?side2 A3.out).mono ?_); (case side1 => repeat (first | exact (Kd.R_reads' HO199.out).2.2 | (with_reducible refine Kd.C_alloc ?_ _) | (with_reducible refine Kd.C_drewN ?_ _) | (with_reducible refine Kd.C_drew ?_))); (case side2 => exact (Kd.R_reads' HO199.out).2.1); rintro e w19 ⟨rfl, hb⟩; refine ⟨_, rfl, ?_⟩; have n0_ := Aside0.mk (Kd.R_below (by (with_reducible repeat (first | apply Kd.R_alloc | apply Kd.R_drewN | apply Kd.R_drew)); exact HO199.out) hb); have n1_ := Aside0.mk (below_step (by repeat (first | (with_reducible first | exact HB.out | apply below_alloc | apply pw_below_drewN | apply below_drew1) | exact HB.out)) hb); clear HO199; clear HB; have HO199 := n0_; have HB := n1_; clear n0_ n1_; (try clear hb); (try clear hb2); (try clear hk); (try clear hi)) | ((with_reducible refine gate_callee (f := 13) rfl ?_); refine goesL_ (some 18) rfl rfl Tryd.func13 (by kernel_rfl) rfl #[.slice Ao18 t197.length co18] rfl (by (try simp only [List.map_toArray, List.map_cons, List.map_nil]); first | done | rfl | (simp only [List.length_drop, List.length_take]; rfl)) ?_; (with_reducible refine (barqueref10_Of.calls k _ _ t197 t202 t203 _ ?side1 ?side2 A4.out).mono ?_); (case side1 => repeat (first | exact (Kd.R_reads' HO199.out).2.2 | (with_reducible refine Kd.C_alloc ?_ _) | (with_reducible refine Kd.C_drewN ?_ _) | (with_reducible refine Kd.C_drew ?_))); (case side2 => exact (Kd.R_reads' HO199.out).2.1); rintro e w20 ⟨rfl, hb⟩; refine ⟨_, rfl, ?_⟩; have n0_ := Aside0.mk (Kd.R_below (by (with_reducible repeat (first | apply Kd.R_alloc | apply Kd.R_drewN | apply Kd.R_drew)); exact HO199.out) hb); have n1_ := Aside0.mk (below_step (by repeat (first | (with_reducible first | exact HB.out | apply below_alloc | apply pw_below_drewN | apply below_drew1) | exact HB.out)) hb); clear HO199; clear HB; have HO199 := n0_; have HB := n1_; clear n0_ n1_; (try clear hb); (try clear hb2); (try clear hk); (try clear hi)) | ((with_reducible refine gate_callee (f := 14) rfl ?_); refine goesL_ (some 23) rfl rfl Tryd.func14 (by kernel_rfl) rfl #[.slice Ao18 t197.length co18] rfl (by (try simp only [List.map_toArray, List.map_cons, List.map_nil]); first | done | rfl | (simp only [List.length_drop, List.length_take]; rfl)) ?_; (with_reducible refine (image_Size.calls k _ _ t197 t204 t205 _ ?side1 ?side2 A5.out).mono ?_); (case side1 => repeat (first | exact (Kd.R_reads' HO199.out).2.2 | (with_reducible refine Kd.C_alloc ?_ _) | (with_reducible refine Kd.C_drewN ?_ _) | (with_reducible refine Kd.C_drew ?_))); (case side2 => exact (Kd.R_reads' HO199.out).2.1); rintro e w21 ⟨rfl, hb⟩; refine ⟨_, rfl, ?_⟩; have n0_ := Aside0.mk (Kd.R_below (by (with_reducible repeat (first | apply Kd.R_alloc | apply Kd.R_drewN | apply Kd.R_drew)); exact HO199.out) hb); have n1_ := Aside0.mk (below_step (by repeat (first | (with_reducible first | exact HB.out | apply below_alloc | apply pw_below_drewN | apply below_drew1) | exact HB.out)) hb); clear HO199; clear HB; have HO199 := n0_; have HB := n1_; clear n0_ n1_; (try clear hb); (try clear hb2); (try clear hk); (try clear hi)))
          go_ret
          exact ⟨by first | rfl | (simp [errW_none, errW_some] <;> rfl) | (simp [*, errW_none, errW_some] <;> rfl), by repeat (first | (with_reducible first | exact HB.out | apply below_alloc | apply pw_below_drewN | apply below_drew1) | exact HB.out)⟩
      · rw [if_neg c8] at H
        have c8b0 : (t205 == t203) = false := beq_eq_false_iff_ne.mpr c8
        have c8b1 : (t205 != t203) = true := bne_iff_ne.mpr c8
        obtain rfl := Option.some.inj H
        go_enter Tryd.func3, Tryd.ntmps3
        go_wp2_with (first | ((with_reducible refine gate_callee (f := 11) rfl ?_); refine goesL_ (some 10) rfl rfl Tryd.func11 (by kernel_rfl) rfl #[.slice A0 l0.length c0] rfl (by (try simp only [List.map_toArray, List.map_cons, List.map_nil]); first | done | rfl | (simp only [List.length_drop, List.length_take]; rfl)) ?_; (with_reducible refine (barquelaw10_few.calls k _ _ l0 t197 _ ?side1 ?side2 A2.out).mono ?_); (case side1 => repeat (first | exact HR0.out | (with_reducible refine Kd.C_alloc ?_ _) | (with_reducible refine Kd.C_drewN ?_ _) | (with_reducible refine Kd.C_drew ?_))); (case side2 => exact HC0.out); rintro e w22 ⟨v198, rfl, ho0, hb⟩; refine ⟨_, rfl, ?_⟩; have n0_ := Aside0.mk (Kd.R_lower ho0 (below_size (by repeat (first | (with_reducible first | exact HB.out | apply below_alloc | apply pw_below_drewN | apply below_drew1) | exact HB.out)))); have n1_ := Aside0.mk (below_step (by repeat (first | (with_reducible first | exact HB.out | apply below_alloc | apply pw_below_drewN | apply below_drew1) | exact HB.out)) hb); clear HB; have HO199 := n0_; have HB := n1_; clear n0_ n1_; (try clear hb); (try clear hb2); (try clear hk); (try clear hi); (try clear ho0); obtain ⟨Ao23, co23, eo23⟩ := Kd.R_slice HO199.out; subst eo23) | ((with_reducible refine gate_callee (f := 12) rfl ?_); refine goesL_ (some 13) rfl rfl Tryd.func12 (by kernel_rfl) rfl #[.slice Ao23 t197.length co23] rfl (by (try simp only [List.map_toArray, List.map_cons, List.map_nil]); first | done | rfl | (simp only [List.length_drop, List.length_take]; rfl)) ?_; (with_reducible refine (image_Of.calls k _ _ t197 t200 t201 _ ?side1 ?side2 A3.out).mono ?_); (case side1 => repeat (first | exact (Kd.R_reads' HO199.out).2.2 | (with_reducible refine Kd.C_alloc ?_ _) | (with_reducible refine Kd.C_drewN ?_ _) | (with_reducible refine Kd.C_drew ?_))); (case side2 => exact (Kd.R_reads' HO199.out).2.1); rintro e w24 ⟨rfl, hb⟩; refine ⟨_, rfl, ?_⟩; have n0_ := Aside0.mk (Kd.R_below (by (with_reducible repeat (first | apply Kd.R_alloc | apply Kd.R_drewN | apply Kd.R_drew)); exact HO199.out) hb); have n1_ := Aside0.mk (below_step (by repeat (first | (with_reducible first | exact HB.out | apply below_alloc | apply pw_below_drewN | apply below_drew1) | exact HB.out)) hb); clear HO199; clear HB; have HO199 := n0_; have HB := n1_; clear n0_ n1_; (try clear hb); (try clear hb2); (try clear hk); (try clear hi)) | ((with_reducible refine gate_callee (f := 13) rfl ?_); refine goesL_ (some 18) rfl rfl Tryd.func13 (by kernel_rfl) rfl #[.slice Ao23 t197.length co23] rfl (by (try simp only [List.map_toArray, List.map_cons, List.map_nil]); first | done | rfl | (simp only [List.length_drop, List.length_take]; rfl)) ?_; (with_reducible refine (barqueref10_Of.calls k _ _ t197 t202 t203 _ ?side1 ?side2 A4.out).mono ?_); (case side1 => repeat (first | exact (Kd.R_reads' HO199.out).2.2 | (with_reducible refine Kd.C_alloc ?_ _) | (with_reducible refine Kd.C_drewN ?_ _) | (with_reducible refine Kd.C_drew ?_))); (case side2 => exact (Kd.R_reads' HO199.out).2.1); rintro e w25 ⟨rfl, hb⟩; refine ⟨_, rfl, ?_⟩; have n0_ := Aside0.mk (Kd.R_below (by (with_reducible repeat (first | apply Kd.R_alloc | apply Kd.R_drewN | apply Kd.R_drew)); exact HO199.out) hb); have n1_ := Aside0.mk (below_step (by repeat (first | (with_reducible first | exact HB.out | apply below_alloc | apply pw_below_drewN | apply below_drew1) | exact HB.out)) hb); clear HO199; clear HB; have HO199 := n0_; have HB := n1_; clear n0_ n1_; (try clear hb); (try clear hb2); (try clear hk); (try clear hi)) | ((with_reducible refine gate_callee (f := 14) rfl ?_); refine goesL_ (some 23) rfl rfl Tryd.func14 (by kernel_rfl) rfl #[.slice Ao23 t197.length co23] rfl (by (try simp only [List.map_toArray, List.map_cons, List.map_nil]); first | done | rfl | (simp only [List.length_drop, List.length_take]; rfl)) ?_; (with_reducible refine (image_Size.calls k _ _ t197 t204 t205 _ ?side1 ?side2 A5.out).mono ?_); (case side1 => repeat (first | exact (Kd.R_reads' HO199.out).2.2 | (with_reducible refine Kd.C_alloc ?_ _) | (with_reducible refine Kd.C_drewN ?_ _) | (with_reducible refine Kd.C_drew ?_))); (case side2 => exact (Kd.R_reads' HO199.out).2.1); rintro e w26 ⟨rfl, hb⟩; refine ⟨_, rfl, ?_⟩; have n0_ := Aside0.mk (Kd.R_below (by (with_reducible repeat (first | apply Kd.R_alloc | apply Kd.R_drewN | apply Kd.R_drew)); exact HO199.out) hb); have n1_ := Aside0.mk (below_step (by repeat (first | (with_reducible first | exact HB.out | apply below_alloc | apply pw_below_drewN | apply below_drew1) | exact HB.out)) hb); clear HO199; clear HB; have HO199 := n0_; have HB := n1_; clear n0_ n1_; (try clear hb); (try clear hb2); (try clear hk); (try clear hi)))
        go_ret
        exact ⟨by first | rfl | (simp [errW_none, errW_some] <;> rfl) | (simp [*, errW_none, errW_some] <;> rfl), by repeat (first | (with_reducible first | exact HB.out | apply below_alloc | apply pw_below_drewN | apply below_drew1) | exact HB.out)⟩
    · rw [if_neg c7] at H
      have c7b0 : (t201 == t203) = false := beq_eq_false_iff_ne.mpr c7
      have c7b1 : (t201 != t203) = true := bne_iff_ne.mpr c7
      obtain rfl := Option.some.inj H
      go_enter Tryd.func3, Tryd.ntmps3
      go_wp2_with (first | ((with_reducible refine gate_callee (f := 11) rfl ?_); refine goesL_ (some 10) rfl rfl Tryd.func11 (by kernel_rfl) rfl #[.slice A0 l0.length c0] rfl (by (try simp only [List.map_toArray, List.map_cons, List.map_nil]); first | done | rfl | (simp only [List.length_drop, List.length_take]; rfl)) ?_; (with_reducible refine (barquelaw10_few.calls k _ _ l0 t197 _ ?side1 ?side2 A2.out).mono ?_); (case side1 => repeat (first | exact HR0.out | (with_reducible refine Kd.C_alloc ?_ _) | (with_reducible refine Kd.C_drewN ?_ _) | (with_reducible refine Kd.C_drew ?_))); (case side2 => exact HC0.out); rintro e w27 ⟨v198, rfl, ho0, hb⟩; refine ⟨_, rfl, ?_⟩; have n0_ := Aside0.mk (Kd.R_lower ho0 (below_size (by repeat (first | (with_reducible first | exact HB.out | apply below_alloc | apply pw_below_drewN | apply below_drew1) | exact HB.out)))); have n1_ := Aside0.mk (below_step (by repeat (first | (with_reducible first | exact HB.out | apply below_alloc | apply pw_below_drewN | apply below_drew1) | exact HB.out)) hb); clear HB; have HO199 := n0_; have HB := n1_; clear n0_ n1_; (try clear hb); (try clear hb2); (try clear hk); (try clear hi); (try clear ho0); obtain ⟨Ao28, co28, eo28⟩ := Kd.R_slice HO199.out; subst eo28) | ((with_reducible refine gate_callee (f := 12) rfl ?_); refine goesL_ (some 13) rfl rfl Tryd.func12 (by kernel_rfl) rfl #[.slice Ao28 t197.length co28] rfl (by (try simp only [List.map_toArray, List.map_cons, List.map_nil]); first | done | rfl | (simp only [List.length_drop, List.length_take]; rfl)) ?_; (with_reducible refine (image_Of.calls k _ _ t197 t200 t201 _ ?side1 ?side2 A3.out).mono ?_); (case side1 => repeat (first | exact (Kd.R_reads' HO199.out).2.2 | (with_reducible refine Kd.C_alloc ?_ _) | (with_reducible refine Kd.C_drewN ?_ _) | (with_reducible refine Kd.C_drew ?_))); (case side2 => exact (Kd.R_reads' HO199.out).2.1); rintro e w29 ⟨rfl, hb⟩; refine ⟨_, rfl, ?_⟩; have n0_ := Aside0.mk (Kd.R_below (by (with_reducible repeat (first | apply Kd.R_alloc | apply Kd.R_drewN | apply Kd.R_drew)); exact HO199.out) hb); have n1_ := Aside0.mk (below_step (by repeat (first | (with_reducible first | exact HB.out | apply below_alloc | apply pw_below_drewN | apply below_drew1) | exact HB.out)) hb); clear HO199; clear HB; have HO199 := n0_; have HB := n1_; clear n0_ n1_; (try clear hb); (try clear hb2); (try clear hk); (try clear hi)) | ((with_reducible refine gate_callee (f := 13) rfl ?_); refine goesL_ (some 18) rfl rfl Tryd.func13 (by kernel_rfl) rfl #[.slice Ao28 t197.length co28] rfl (by (try simp only [List.map_toArray, List.map_cons, List.map_nil]); first | done | rfl | (simp only [List.length_drop, List.length_take]; rfl)) ?_; (with_reducible refine (barqueref10_Of.calls k _ _ t197 t202 t203 _ ?side1 ?side2 A4.out).mono ?_); (case side1 => repeat (first | exact (Kd.R_reads' HO199.out).2.2 | (with_reducible refine Kd.C_alloc ?_ _) | (with_reducible refine Kd.C_drewN ?_ _) | (with_reducible refine Kd.C_drew ?_))); (case side2 => exact (Kd.R_reads' HO199.out).2.1); rintro e w30 ⟨rfl, hb⟩; refine ⟨_, rfl, ?_⟩; have n0_ := Aside0.mk (Kd.R_below (by (with_reducible repeat (first | apply Kd.R_alloc | apply Kd.R_drewN | apply Kd.R_drew)); exact HO199.out) hb); have n1_ := Aside0.mk (below_step (by repeat (first | (with_reducible first | exact HB.out | apply below_alloc | apply pw_below_drewN | apply below_drew1) | exact HB.out)) hb); clear HO199; clear HB; have HO199 := n0_; have HB := n1_; clear n0_ n1_; (try clear hb); (try clear hb2); (try clear hk); (try clear hi)) | ((with_reducible refine gate_callee (f := 14) rfl ?_); refine goesL_ (some 23) rfl rfl Tryd.func14 (by kernel_rfl) rfl #[.slice Ao28 t197.length co28] rfl (by (try simp only [List.map_toArray, List.map_cons, List.map_nil]); first | done | rfl | (simp only [List.length_drop, List.length_take]; rfl)) ?_; (with_reducible refine (image_Size.calls k _ _ t197 t204 t205 _ ?side1 ?side2 A5.out).mono ?_); (case side1 => repeat (first | exact (Kd.R_reads' HO199.out).2.2 | (with_reducible refine Kd.C_alloc ?_ _) | (with_reducible refine Kd.C_drewN ?_ _) | (with_reducible refine Kd.C_drew ?_))); (case side2 => exact (Kd.R_reads' HO199.out).2.1); rintro e w31 ⟨rfl, hb⟩; refine ⟨_, rfl, ?_⟩; have n0_ := Aside0.mk (Kd.R_below (by (with_reducible repeat (first | apply Kd.R_alloc | apply Kd.R_drewN | apply Kd.R_drew)); exact HO199.out) hb); have n1_ := Aside0.mk (below_step (by repeat (first | (with_reducible first | exact HB.out | apply below_alloc | apply pw_below_drewN | apply below_drew1) | exact HB.out)) hb); clear HO199; clear HB; have HO199 := n0_; have HB := n1_; clear n0_ n1_; (try clear hb); (try clear hb2); (try clear hk); (try clear hi)))
      go_ret
      exact ⟨by first | rfl | (simp [errW_none, errW_some] <;> rfl) | (simp [*, errW_none, errW_some] <;> rfl), by repeat (first | (with_reducible first | exact HB.out | apply below_alloc | apply pw_below_drewN | apply below_drew1) | exact HB.out)⟩
  · rw [if_neg c6] at H
    have c6b0 : (t200.toList == t202.toList) = false := beq_eq_false_iff_ne.mpr c6
    have c6b1 : (t200.toList != t202.toList) = true := bne_iff_ne.mpr c6
    obtain rfl := Option.some.inj H
    go_enter Tryd.func3, Tryd.ntmps3
    go_wp2_with (first | ((with_reducible refine gate_callee (f := 11) rfl ?_); refine goesL_ (some 10) rfl rfl Tryd.func11 (by kernel_rfl) rfl #[.slice A0 l0.length c0] rfl (by (try simp only [List.map_toArray, List.map_cons, List.map_nil]); first | done | rfl | (simp only [List.length_drop, List.length_take]; rfl)) ?_; (with_reducible refine (barquelaw10_few.calls k _ _ l0 t197 _ ?side1 ?side2 A2.out).mono ?_); (case side1 => repeat (first | exact HR0.out | (with_reducible refine Kd.C_alloc ?_ _) | (with_reducible refine Kd.C_drewN ?_ _) | (with_reducible refine Kd.C_drew ?_))); (case side2 => exact HC0.out); rintro e w32 ⟨v198, rfl, ho0, hb⟩; refine ⟨_, rfl, ?_⟩; have n0_ := Aside0.mk (Kd.R_lower ho0 (below_size (by repeat (first | (with_reducible first | exact HB.out | apply below_alloc | apply pw_below_drewN | apply below_drew1) | exact HB.out)))); have n1_ := Aside0.mk (below_step (by repeat (first | (with_reducible first | exact HB.out | apply below_alloc | apply pw_below_drewN | apply below_drew1) | exact HB.out)) hb); clear HB; have HO199 := n0_; have HB := n1_; clear n0_ n1_; (try clear hb); (try clear hb2); (try clear hk); (try clear hi); (try clear ho0); obtain ⟨Ao33, co33, eo33⟩ := Kd.R_slice HO199.out; subst eo33) | ((with_reducible refine gate_callee (f := 12) rfl ?_); refine goesL_ (some 13) rfl rfl Tryd.func12 (by kernel_rfl) rfl #[.slice Ao33 t197.length co33] rfl (by (try simp only [List.map_toArray, List.map_cons, List.map_nil]); first | done | rfl | (simp only [List.length_drop, List.length_take]; rfl)) ?_; (with_reducible refine (image_Of.calls k _ _ t197 t200 t201 _ ?side1 ?side2 A3.out).mono ?_); (case side1 => repeat (first | exact (Kd.R_reads' HO199.out).2.2 | (with_reducible refine Kd.C_alloc ?_ _) | (with_reducible refine Kd.C_drewN ?_ _) | (with_reducible refine Kd.C_drew ?_))); (case side2 => exact (Kd.R_reads' HO199.out).2.1); rintro e w34 ⟨rfl, hb⟩; refine ⟨_, rfl, ?_⟩; have n0_ := Aside0.mk (Kd.R_below (by (with_reducible repeat (first | apply Kd.R_alloc | apply Kd.R_drewN | apply Kd.R_drew)); exact HO199.out) hb); have n1_ := Aside0.mk (below_step (by repeat (first | (with_reducible first | exact HB.out | apply below_alloc | apply pw_below_drewN | apply below_drew1) | exact HB.out)) hb); clear HO199; clear HB; have HO199 := n0_; have HB := n1_; clear n0_ n1_; (try clear hb); (try clear hb2); (try clear hk); (try clear hi)) | ((with_reducible refine gate_callee (f := 13) rfl ?_); refine goesL_ (some 18) rfl rfl Tryd.func13 (by kernel_rfl) rfl #[.slice Ao33 t197.length co33] rfl (by (try simp only [List.map_toArray, List.map_cons, List.map_nil]); first | done | rfl | (simp only [List.length_drop, List.length_take]; rfl)) ?_; (with_reducible refine (barqueref10_Of.calls k _ _ t197 t202 t203 _ ?side1 ?side2 A4.out).mono ?_); (case side1 => repeat (first | exact (Kd.R_reads' HO199.out).2.2 | (with_reducible refine Kd.C_alloc ?_ _) | (with_reducible refine Kd.C_drewN ?_ _) | (with_reducible refine Kd.C_drew ?_))); (case side2 => exact (Kd.R_reads' HO199.out).2.1); rintro e w35 ⟨rfl, hb⟩; refine ⟨_, rfl, ?_⟩; have n0_ := Aside0.mk (Kd.R_below (by (with_reducible repeat (first | apply Kd.R_alloc | apply Kd.R_drewN | apply Kd.R_drew)); exact HO199.out) hb); have n1_ := Aside0.mk (below_step (by repeat (first | (with_reducible first | exact HB.out | apply below_alloc | apply pw_below_drewN | apply below_drew1) | exact HB.out)) hb); clear HO199; clear HB; have HO199 := n0_; have HB := n1_; clear n0_ n1_; (try clear hb); (try clear hb2); (try clear hk); (try clear hi)) | ((with_reducible refine gate_callee (f := 14) rfl ?_); refine goesL_ (some 23) rfl rfl Tryd.func14 (by kernel_rfl) rfl #[.slice Ao33 t197.length co33] rfl (by (try simp only [List.map_toArray, List.map_cons, List.map_nil]); first | done | rfl | (simp only [List.length_drop, List.length_take]; rfl)) ?_; (with_reducible refine (image_Size.calls k _ _ t197 t204 t205 _ ?side1 ?side2 A5.out).mono ?_); (case side1 => repeat (first | exact (Kd.R_reads' HO199.out).2.2 | (with_reducible refine Kd.C_alloc ?_ _) | (with_reducible refine Kd.C_drewN ?_ _) | (with_reducible refine Kd.C_drew ?_))); (case side2 => exact (Kd.R_reads' HO199.out).2.1); rintro e w36 ⟨rfl, hb⟩; refine ⟨_, rfl, ?_⟩; have n0_ := Aside0.mk (Kd.R_below (by (with_reducible repeat (first | apply Kd.R_alloc | apply Kd.R_drewN | apply Kd.R_drew)); exact HO199.out) hb); have n1_ := Aside0.mk (below_step (by repeat (first | (with_reducible first | exact HB.out | apply below_alloc | apply pw_below_drewN | apply below_drew1) | exact HB.out)) hb); clear HO199; clear HB; have HO199 := n0_; have HB := n1_; clear n0_ n1_; (try clear hb); (try clear hb2); (try clear hk); (try clear hi)))
    go_ret
    exact ⟨by first | rfl | (simp [errW_none, errW_some] <;> rfl) | (simp [*, errW_none, errW_some] <;> rfl), by repeat (first | (with_reducible first | exact HB.out | apply below_alloc | apply pw_below_drewN | apply below_drew1) | exact HB.out)⟩
end Go.Proofs.YtmeofdpmddjbgaaDoor.G
end
section
namespace Go.Proofs.YtmeofdpmddjbgaaDoor.G
open Go.RowKit Go.Proofs.YtmeofdpmddjbgaaDoorW.PrintWords Go.Proofs.YtmeofdpmddjbgaaDoorW.PrintLast Go.Proofs.YtmeofdpmddjbgaaDoorW.PrintMore
set_option linter.unusedVariables false
set_option linter.unusedSimpArgs false
theorem ImageOfs_pure (l : List S33) (hl : l.length ≤ 9223372036854775807) : ∃ k, barquelaw10_ImageOfs.f k l = some true := by
  refine Ev.rounds ?_
  unfold barquelaw10_ImageOfs.f
  obtain ⟨m, h1, h2⟩ := few_ev l hl
  refine Ev.bind h2 (Ev.bind (imageOf_ev m (by omega)) (Ev.bind (refOf_ev m (by omega)) (Ev.bind (size_ev m (by omega)) ?_)))
  have e1 : (sizeE m).2 = (imageE m).2 := by
    unfold sizeE imageE
    split
    · split <;> rfl
    · rfl
  have e2 : (sizeE m).1 = ((imageE m).1.size : Int) := by
    unfold sizeE imageE
    split
    · split
      · rfl
      · show ((bodyL m).length : Int) = ((bodyL m).toArray.size : Int)
        simp
    · rfl
  simp only [e1, e2, ↓reduceIte]
  exact Ev.bind awakeI_ev (Ev.now _)
end Go.Proofs.YtmeofdpmddjbgaaDoor.G
end
section
namespace Go.Proofs.YtmeofdpmddjbgaaDoor.Open
open Go.RowKit Go.ChangeShapes Go.Proofs.YtmeofdpmddjbgaaDoorW.PrintWords Go.Proofs.YtmeofdpmddjbgaaDoorW.PrintMore Go.Proofs.YtmeofdpmddjbgaaDoor.G
set_option linter.unusedVariables false
theorem laidOut : laidOutB Tryd.prog = true := by kernel_rfl
theorem C_of_cells {α : Type} (d : Kd α) (w : World) (a : Addr) (n : Nat) (xs : List α) (hlen : xs.length = n) (hn : n ≤ 9223372036854775807)
    (h : ∀ j p, xs[j]? = some p → ∃ c, d.K w p c ∧ w.cells? 0 (a.add (j * d.sz)) d.sz = some c) : Kd.C d w (some a) n xs := by
  refine ⟨hlen, hn, fun _ => ⟨a, rfl, fun j p hp => ?_⟩⟩
  obtain ⟨c, hk, hc⟩ := h j p hp
  obtain ⟨_, hl, hi⟩ := World.cells?_some hc
  refine ⟨c, d.K_len hk, hk, fun i u hu => ?_⟩
  have hlt : i < d.sz := by
    have := (List.getElem?_eq_some_iff.1 hu).1
    omega
  have h2 := hi i (by omega)
  rw [Addr.add_add] at h2
  rw [h2, hu]
theorem pick_list {α : Type} (n : Nat) (P : Nat → α → Prop) (h : ∀ i, i < n → ∃ x, P i x) : ∃ l : List α, l.length = n ∧ ∀ j p, l[j]? = some p → j < n ∧ P j p := by
  induction n with
  | zero => exact ⟨[], rfl, fun j p hp => by simp at hp⟩
  | succ n ih =>
    obtain ⟨l, hl, hp⟩ := ih (fun i hi => h i (by omega))
    obtain ⟨x, hx⟩ := h n (by omega)
    refine ⟨l ++ [x], by simp [hl], fun j p hj => ?_⟩
    rcases Nat.lt_or_ge j n with hlt | hge
    · rw [List.getElem?_append_left (by omega)] at hj
      exact ⟨by omega, (hp j p hj).2⟩
    · have hlt2 := (List.getElem?_eq_some_iff.1 hj).1
      rw [List.length_append, List.length_singleton] at hlt2
      obtain rfl : j = n := by omega
      rw [List.getElem?_append_right (by omega), hl, Nat.sub_self] at hj
      have : x = p := by simpa using hj
      subst this
      exact ⟨by omega, hx⟩
theorem list3 {α : Type} (l : List α) (h : l.length = 3) : ∃ a b c, l = [a, b, c] := by
  match l, h with
  | [a, b, c], _ => exact ⟨a, b, c, rfl⟩
/-- A slice of files that came in, as it is read. -/
theorem files {H : Type} {enc : TypeId × Value → H} {W : World} {a : Option Addr} {len cap : Nat} {d : DataW H} {p : List MemPlace}
    (h : DataW.Trod enc Tryd.prog W 0 (fun _ => true) true 22 (.slice a len cap) d p) :
    ∃ l : List S33, l.length = len ∧ len ≤ cap ∧ len ≤ 9223372036854775807 ∧ Kd.C k33 W a len l := by
  obtain ⟨fuel, hf⟩ := h
  rcases Go.Deep.open_slice Tryd.underlying22 hf with ⟨hcs, _⟩ | ⟨b, l', c', m, n, D, Pl, hcs, _, hl, hm, hmm, _, hel⟩
  · simp [Value.cells] at hcs
    obtain ⟨rfl, rfl, rfl⟩ := hcs
    exact ⟨[], rfl, Nat.le_refl _, by omega, Kd.C_nil _ _⟩
  · simp [Value.cells] at hcs
    obtain ⟨rfl, rfl, rfl⟩ := hcs
    have c3 : Tryd.prog.cellsOf 33 = 3 := by kernel_rfl
    have hmax : maxLen = 9223372036854775807 := rfl
    obtain ⟨l, hll, hp⟩ := pick_list len (fun i (x : S33) => W.cells? 0 (b.add (i * 3)) 3 = some [.string x.f0, .int .i64 x.f1, .string x.f2]) (fun i hi => by
      obtain ⟨cs', hc, ht⟩ := hel i (by rw [hmm]; simp; omega)
      rw [c3] at hc
      obtain ⟨xs, k, _, _, hlen, hxl, hx⟩ := DataW.trod_struct Tryd.underlying33 ht
      rw [c3] at hlen
      obtain ⟨u0, u1, u2, rfl⟩ := list3 cs' hlen
      have e0 := hx 0 _ rfl
      have e1 := hx 1 _ rfl
      have e2 := hx 2 _ rfl
      have hs : xs.length = 3 := hxl
      rw [List.getElem?_eq_getElem (by omega)] at e0 e1 e2
      have cs_ : Tryd.prog.cellsOf 9 = 1 := by kernel_rfl
      have ci_ : Tryd.prog.cellsOf 3 = 1 := by kernel_rfl
      obtain ⟨s0, h0, _⟩ := DataW.trod_string Tryd.underlying9 e0
      obtain ⟨n1, h1, _⟩ := DataW.trod_int Tryd.underlying3 e1
      obtain ⟨s2, h2, _⟩ := DataW.trod_string Tryd.underlying9 e2
      have g0 : (([u0, u1, u2] : List Value).drop 0).take (Tryd.prog.cellsOf 9) = [.string s0] := h0
      have g1 : (([u0, u1, u2] : List Value).drop 1).take (Tryd.prog.cellsOf 3) = [.int .i64 n1] := h1
      have g2 : (([u0, u1, u2] : List Value).drop 2).take (Tryd.prog.cellsOf 9) = [.string s2] := h2
      rw [cs_] at g0 g2
      rw [ci_] at g1
      obtain rfl : u0 = .string s0 := (List.cons.inj g0).1
      obtain rfl : u1 = .int .i64 n1 := (List.cons.inj g1).1
      obtain rfl : u2 = .string s2 := (List.cons.inj g2).1
      exact ⟨⟨s0, n1, s2⟩, hc⟩)
    exact ⟨l, hll, hl, by omega, C_of_cells k33 W b len l hll (by omega) (fun j p hj => ⟨_, k33_mk W p, (hp j p hj).2⟩)⟩
end Go.Proofs.YtmeofdpmddjbgaaDoor.Open
end
