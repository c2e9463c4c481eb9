/- Texts of this session's claim of TreeBetweens, less what its theorem does not reach. No condition. -/
import Derived.Test.YtafjlibcdlihcaaDoorTW13
import Derived.Test.YtafjlibcdlihcaaDoorTW16
section
namespace Go.Proofs.YtafjlibcdlihcaaDoor.G
open Go.RowKit Go.Proofs.YtafjlibcdlihcaaDoorW.PrintWords Go.Proofs.YtafjlibcdlihcaaDoorW.PrintLast Go.Proofs.YtafjlibcdlihcaaDoorW.PrintMore
attribute [local go_sem] max2_int min2_int max_two min_two max_three min_three max_four min_four   -- for this text's walks alone
set_option linter.unusedVariables false
set_option linter.unusedSimpArgs false
mutual
def tree_Between.l0 : Nat → List (S56) → List (S56) → List (S44) → Option ((List (S44)) × Int)
  | 0, _, _, _ => none
  | k + 1, x0, x1, x8 => if (x0.length : Int) > 0 then (tree_Between.j1 k x0 x1 x8 true) else (tree_Between.j1 k x0 x1 x8 (decide ((x1.length : Int) > 0)))
def tree_Between.j1 : Nat → List (S56) → List (S56) → List (S44) → Bool → Option ((List (S44)) × Int)
  | 0, _, _, _, _ => none
  | k + 1, x0, x1, x8, x27 => if x27 = true then (if (x1.length : Int) = 0 then (tree_Between.j2 k x0 x1 x8 (-1)) else (if (x0.length : Int) = 0 then (tree_Between.j2 k x0 x1 x8 1) else (if 0 < (x0.length : Int) then (if 0 < (x1.length : Int) then ((tree_Order.f k ((rd_T56 x0 0).f0) ((rd_T56 x1 0).f0)).bind fun t363 => (tree_Between.j2 k x0 x1 x8 t363)) else (none)) else (none)))) else (some (x8, 0))
def tree_Between.j2 : Nat → List (S56) → List (S56) → List (S44) → Int → Option ((List (S44)) × Int)
  | 0, _, _, _, _ => none
  | k + 1, x0, x1, x8, x9 => if x9 < 0 then (if 0 < (x0.length : Int) then (if x8.length < 5864062014805 then (if 1 ≤ (x0.length : Int) then (tree_Between.l0 k (x0.drop 1) x1 (x8 ++ [(⟨1, (rd_T56 x0 0).f0⟩ : S44)])) else (none)) else (none)) else (none)) else (if x9 > 0 then (if 0 < (x1.length : Int) then (if x8.length < 5864062014805 then (if 1 ≤ (x1.length : Int) then (tree_Between.l0 k x0 (x1.drop 1) (x8 ++ [(⟨2, (rd_T56 x1 0).f0⟩ : S44)])) else (none)) else (none)) else (none)) else (if 0 < (x0.length : Int) then (if 0 < (x1.length : Int) then (if ((rd_T56 x0 0).f2) = ((rd_T56 x1 0).f2) then (tree_Between.j3 k x0 x1 x8 (((rd_T56 x0 0).f3).toList != ((rd_T56 x1 0).f3).toList)) else (tree_Between.j3 k x0 x1 x8 true)) else (none)) else (none)))
def tree_Between.j3 : Nat → List (S56) → List (S56) → List (S44) → Bool → Option ((List (S44)) × Int)
  | 0, _, _, _, _ => none
  | k + 1, x0, x1, x8, x71 => if x71 = true then (if 0 < (x0.length : Int) then (if x8.length < 5864062014805 then (if 1 ≤ (x0.length : Int) then (if 1 ≤ (x1.length : Int) then (tree_Between.l0 k (x0.drop 1) (x1.drop 1) (x8 ++ [(⟨3, (rd_T56 x0 0).f0⟩ : S44)])) else (none)) else (none)) else (none)) else (none)) else (if 0 < (x0.length : Int) then (if 0 < (x1.length : Int) then (if ((rd_T56 x0 0).f1) = ((rd_T56 x1 0).f1) then (if 1 ≤ (x0.length : Int) then (if 1 ≤ (x1.length : Int) then (tree_Between.l0 k (x0.drop 1) (x1.drop 1) x8) else (none)) else (none)) else (if x8.length < 5864062014805 then (if 1 ≤ (x0.length : Int) then (if 1 ≤ (x1.length : Int) then (tree_Between.l0 k (x0.drop 1) (x1.drop 1) (x8 ++ [(⟨4, (rd_T56 x0 0).f0⟩ : S44)])) else (none)) else (none)) else (none))) else (none)) else (none))
end
def tree_Between.f (k : Nat) (l0 : List (S56)) (l1 : List (S56)) : Option ((List (S44)) × Int) := (tree_Right.f k l0).bind fun t359 => (if t359 = 0 then ((tree_Right.f k l1).bind fun t360 => (if t360 = 0 then (tree_Between.l0 k l0 l1 ([] : List (S44))) else (some (([] : List (S44)), t360)))) else (some (([] : List (S44)), t359)))
theorem tree_Between.mono_l : ∀ k, (∀ y0 y1 y2, LeO (tree_Between.l0 k y0 y1 y2) (tree_Between.l0 (k + 1) y0 y1 y2)) ∧ (∀ y0 y1 y2 y3, LeO (tree_Between.j1 k y0 y1 y2 y3) (tree_Between.j1 (k + 1) y0 y1 y2 y3)) ∧ (∀ y0 y1 y2 y3, LeO (tree_Between.j2 k y0 y1 y2 y3) (tree_Between.j2 (k + 1) y0 y1 y2 y3)) ∧ (∀ y0 y1 y2 y3, LeO (tree_Between.j3 k y0 y1 y2 y3) (tree_Between.j3 (k + 1) y0 y1 y2 y3))
  | 0 => ⟨fun _ _ _ r h => by simp [tree_Between.l0] at h, fun _ _ _ _ r h => by simp [tree_Between.j1] at h, fun _ _ _ _ r h => by simp [tree_Between.j2] at h, fun _ _ _ _ r h => by simp [tree_Between.j3] at h⟩
  | k + 1 => by
    obtain ⟨ih0, ih1, ih2, ih3⟩ := tree_Between.mono_l k
    refine ⟨?_, ?_, ?_, ?_⟩
    · intro y0 y1 y2
      unfold tree_Between.l0
      repeat' first
      | (with_reducible exact ih0 _ _ _)
      | (with_reducible exact ih1 _ _ _ _)
      | (with_reducible exact ih2 _ _ _ _)
      | (with_reducible exact ih3 _ _ _ _)
      | (with_reducible exact tree_Order.mono _ _ _)
      | (with_reducible exact tree_Right.mono _ _)
      | (with_reducible exact LeO.refl _)
      | (with_reducible exact LeO.none _)
      | (with_reducible refine LeO.ite ?_ ?_)
      | (with_reducible refine LeO.bind ?_ (fun _ => ?_))
      | exact ih0 _ _ _
      | exact ih1 _ _ _ _
      | exact ih2 _ _ _ _
      | exact ih3 _ _ _ _
      | exact tree_Order.mono _ _ _
      | exact tree_Right.mono _ _
      | exact LeO.none _
      | refine LeO.ite ?_ ?_
      | refine LeO.bind ?_ (fun _ => ?_)
    · intro y0 y1 y2 y3
      unfold tree_Between.j1
      repeat' first
      | (with_reducible exact ih0 _ _ _)
      | (with_reducible exact ih1 _ _ _ _)
      | (with_reducible exact ih2 _ _ _ _)
      | (with_reducible exact ih3 _ _ _ _)
      | (with_reducible exact tree_Order.mono _ _ _)
      | (with_reducible exact tree_Right.mono _ _)
      | (with_reducible exact LeO.refl _)
      | (with_reducible exact LeO.none _)
      | (with_reducible refine LeO.ite ?_ ?_)
      | (with_reducible refine LeO.bind ?_ (fun _ => ?_))
      | exact ih0 _ _ _
      | exact ih1 _ _ _ _
      | exact ih2 _ _ _ _
      | exact ih3 _ _ _ _
      | exact tree_Order.mono _ _ _
      | exact tree_Right.mono _ _
      | exact LeO.none _
      | refine LeO.ite ?_ ?_
      | refine LeO.bind ?_ (fun _ => ?_)
    · intro y0 y1 y2 y3
      unfold tree_Between.j2
      repeat' first
      | (with_reducible exact ih0 _ _ _)
      | (with_reducible exact ih1 _ _ _ _)
      | (with_reducible exact ih2 _ _ _ _)
      | (with_reducible exact ih3 _ _ _ _)
      | (with_reducible exact tree_Order.mono _ _ _)
      | (with_reducible exact tree_Right.mono _ _)
      | (with_reducible exact LeO.refl _)
      | (with_reducible exact LeO.none _)
      | (with_reducible refine LeO.ite ?_ ?_)
      | (with_reducible refine LeO.bind ?_ (fun _ => ?_))
      | exact ih0 _ _ _
      | exact ih1 _ _ _ _
      | exact ih2 _ _ _ _
      | exact ih3 _ _ _ _
      | exact tree_Order.mono _ _ _
      | exact tree_Right.mono _ _
      | exact LeO.none _
      | refine LeO.ite ?_ ?_
      | refine LeO.bind ?_ (fun _ => ?_)
    · intro y0 y1 y2 y3
      unfold tree_Between.j3
      repeat' first
      | (with_reducible exact ih0 _ _ _)
      | (with_reducible exact ih1 _ _ _ _)
      | (with_reducible exact ih2 _ _ _ _)
      | (with_reducible exact ih3 _ _ _ _)
      | (with_reducible exact tree_Order.mono _ _ _)
      | (with_reducible exact tree_Right.mono _ _)
      | (with_reducible exact LeO.refl _)
      | (with_reducible exact LeO.none _)
      | (with_reducible refine LeO.ite ?_ ?_)
      | (with_reducible refine LeO.bind ?_ (fun _ => ?_))
      | exact ih0 _ _ _
      | exact ih1 _ _ _ _
      | exact ih2 _ _ _ _
      | exact ih3 _ _ _ _
      | exact tree_Order.mono _ _ _
      | exact tree_Right.mono _ _
      | exact LeO.none _
      | refine LeO.ite ?_ ?_
      | refine LeO.bind ?_ (fun _ => ?_)
theorem tree_Between.mono : ∀ a0 a1 k, LeO (tree_Between.f k a0 a1) (tree_Between.f (k + 1) a0 a1) := by
  intro a0 a1 k
  obtain ⟨ih0, ih1, ih2, ih3⟩ := tree_Between.mono_l k
  unfold tree_Between.f
  repeat' first
      | (with_reducible exact ih0 _ _ _)
      | (with_reducible exact ih1 _ _ _ _)
      | (with_reducible exact ih2 _ _ _ _)
      | (with_reducible exact ih3 _ _ _ _)
      | (with_reducible exact tree_Order.mono _ _ _)
      | (with_reducible exact tree_Right.mono _ _)
      | (with_reducible exact LeO.refl _)
      | (with_reducible exact LeO.none _)
      | (with_reducible refine LeO.ite ?_ ?_)
      | (with_reducible refine LeO.bind ?_ (fun _ => ?_))
      | exact ih0 _ _ _
      | exact ih1 _ _ _ _
      | exact ih2 _ _ _ _
      | exact ih3 _ _ _ _
      | exact tree_Order.mono _ _ _
      | exact tree_Right.mono _ _
      | exact LeO.none _
      | refine LeO.ite ?_ ?_
      | refine LeO.bind ?_ (fun _ => ?_)
def tree_Between.T10 : Bool × List (List Nat × List Nat) := (true, [([], []), ([0], [0]), ([1], [1]), ([2], [2]), ([], []), ([4], [4]), ([5], [5]), ([6], [6]), ([3, 7], [3, 7]), ([8, 8, 0, 1, 2, 3, 4, 5, 6, 7, 8], [8])])
def tree_Between.B10 : List Nat := [0, 1, 3, 7, 0, 16, 48, 112, 255, 511]
theorem tree_Between.tab10 : rtab .any (opsOf Tryd.f29 10) = tree_Between.T10 := by kernel_rfl
theorem tree_Between.bits10 : waitsOk tree_Between.T10.2 tree_Between.B10 = true := by kernel_rfl
def tree_Between.T21 : Bool × List (List Nat × List Nat) := (true, [([], []), ([0], [0]), ([1], [1]), ([2], [2]), ([], []), ([4], [4]), ([5], [5]), ([6], [6]), ([3, 7], [3, 7]), ([8], [8]), ([9], [9]), ([10, 9], [9, 10]), ([11, 9], [9, 11]), ([12, 9], [9, 12]), ([9], [9]), ([14, 9], [9, 14]), ([15, 9], [9, 15]), ([16, 9], [9, 16]), ([13, 17, 9], [9, 13, 17]), ([9, 18], [9, 18]), ([19, 9], [19])])
def tree_Between.B21 : List Nat := [0, 1, 3, 7, 0, 16, 48, 112, 255, 511, 1023, 2047, 4095, 8191, 1023, 17407, 50175, 115711, 262143, 524287, 1048575]
theorem tree_Between.tab21 : rtab .any (opsOf Tryd.f29 21) = tree_Between.T21 := by kernel_rfl
theorem tree_Between.bits21 : waitsOk tree_Between.T21.2 tree_Between.B21 = true := by kernel_rfl
def tree_Between.T23 : Bool × List (List Nat × List Nat) := (true, [([], []), ([0], [0]), ([1], [1]), ([2], [2]), ([], []), ([4], [4]), ([5], [5]), ([6], [6]), ([3, 7], [3, 7]), ([8], [8])])
def tree_Between.B23 : List Nat := [0, 1, 3, 7, 0, 16, 48, 112, 255, 511]
theorem tree_Between.tab23 : rtab .any (opsOf Tryd.f29 23) = tree_Between.T23 := by kernel_rfl
theorem tree_Between.bits23 : waitsOk tree_Between.T23.2 tree_Between.B23 = true := by kernel_rfl
set_option maxHeartbeats 8000000 in
set_option maxRecDepth 100000 in
theorem tree_Between.calls (k : Nat) (P0_ : Nat → Prop) (A0 : Option Addr) (c0 : Nat) (l0 : List (S56)) (P1_ : Nat → Prop) (A1 : Option Addr) (c1 : Nat) (l1 : List (S56)) (r1 : List (S44)) (r2 : Int) (w : World) (hs0 : Kd.V k56 56 w w.heap.size (fun k_ => P0_ k_) (.slice A0 l0.length c0) l0) (hs1 : Kd.V k56 56 w w.heap.size (fun k_ => P1_ k_) (.slice A1 l1.length c1) l1) (h : tree_Between.f k l0 l1 = some (r1, r2)) :
    Calls Tryd.prog 29 #[.slice A0 l0.length c0, .slice A1 l1.length c1] w fun e w' => ∃ v0_ : Value, e = .returned (.tuple #[v0_, .int .i64 r2]) ∧ Kd.R k44 44 w' w.heap.size (fun k_ => (w.heap.size ≤ k_)) v0_ r1 ∧ Below w.heap.size w w' := by
  have hu44 := Tryd.underlying44
  have HO0 := Aside0.mk (show Kd.V k56 56 w w.heap.size (fun k_ => ((P0_ k_ ∨ P1_ k_) ∨ w.heap.size ≤ k_)) (.slice A0 l0.length c0) l0 from Kd.V_mono hs0 (fun k_ hk => .inl (.inl hk)))
  have HO1 := Aside0.mk (show Kd.V k56 56 w w.heap.size (fun k_ => ((P0_ k_ ∨ P1_ k_) ∨ w.heap.size ≤ k_)) (.slice A1 l1.length c1) l1 from Kd.V_mono hs1 (fun k_ hk => .inl (.inr hk)))
  have HB := Aside0.mk (Below.refl w.heap.size w)
  have H : ((tree_Right.f k l0).bind fun t359 => (if t359 = 0 then ((tree_Right.f k l1).bind fun t360 => (if t360 = 0 then (tree_Between.l0 k l0 l1 ([] : List (S44))) else (some (([] : List (S44)), t360)))) else (some (([] : List (S44)), t359)))) = some (r1, r2) := h
  clear h
  replace H := Option.bind_eq_some_iff.mp H
  obtain ⟨t359, A30, H⟩ := H
  replace H : (if t359 = 0 then ((tree_Right.f k l1).bind fun t360 => (if t360 = 0 then (tree_Between.l0 k l0 l1 ([] : List (S44))) else (some (([] : List (S44)), t360)))) else (some (([] : List (S44)), t359))) = some (r1, r2) := H
  have A3 := Aside0.mk A30
  clear A30
  by_cases c4 : t359 = 0
  · rw [if_pos c4] at H
    have c4b0 : (t359 == 0) = true := beq_iff_eq.mpr c4
    have c4b1 : (t359 != 0) = false := bne_eq_false_iff_eq.mpr c4
    clear c4
    replace H := Option.bind_eq_some_iff.mp H
    obtain ⟨t360, A50, H⟩ := H
    replace H : (if t360 = 0 then (tree_Between.l0 k l0 l1 ([] : List (S44))) else (some (([] : List (S44)), t360))) = some (r1, r2) := H
    have A5 := Aside0.mk A50
    clear A50
    by_cases c6 : t360 = 0
    · rw [if_pos c6] at H
      have c6b0 : (t360 == 0) = true := beq_iff_eq.mpr c6
      have c6b1 : (t360 != 0) = false := bne_eq_false_iff_eq.mpr c6
      clear c6
      have H' := Aside0.mk H
      clear H
      go_enter Tryd.func29, Tryd.ntmps29
      go_wp2_with (first | ((with_reducible refine gate_callee (f := 34) rfl ?_); refine goesL_ (some 11) rfl rfl Tryd.func34 (by kernel_rfl) rfl #[.slice A0 l0.length c0] rfl (by (try simp only [List.map_toArray, List.map_cons, List.map_nil]); first | done | rfl | (simp only [List.length_drop, List.length_take]; rfl)) ?_; (with_reducible refine (tree_Right.calls k _ _ l0 t359 _ ?side1 ?side2 A3.out).mono ?_); (case side1 => repeat (first | exact (Kd.V_reads' HO0.out).2.2 | (with_reducible refine Kd.C_alloc ?_ _) | (with_reducible refine Kd.C_drewN ?_ _) | (with_reducible refine Kd.C_drew ?_))); (case side2 => exact (Kd.V_reads' HO0.out).2.1); rintro e w7 ⟨rfl, hb⟩; refine ⟨_, rfl, ?_⟩; have n0_ := Aside0.mk (Kd.V_below (by (with_reducible repeat (first | apply Kd.V_alloc | apply Kd.V_drewN | apply Kd.V_drew)); exact HO0.out) hb); have n1_ := Aside0.mk (Kd.V_below (by (with_reducible repeat (first | apply Kd.V_alloc | apply Kd.V_drewN | apply Kd.V_drew)); exact HO1.out) hb); have n2_ := Aside0.mk (below_step (by repeat (first | (with_reducible first | exact HB.out | apply below_alloc | apply pw_below_drewN | apply below_drew1) | exact HB.out)) hb); clear HO0; clear HO1; clear HB; have HO0 := n0_; have HO1 := n1_; have HB := n2_; clear n0_ n1_ n2_; (try clear hb); (try clear hb2); (try clear hk); (try clear hi)) | ((with_reducible refine gate_callee (f := 34) rfl ?_); refine goesL_ (some 16) rfl rfl Tryd.func34 (by kernel_rfl) rfl #[.slice A1 l1.length c1] rfl (by (try simp only [List.map_toArray, List.map_cons, List.map_nil]); first | done | rfl | (simp only [List.length_drop, List.length_take]; rfl)) ?_; (with_reducible refine (tree_Right.calls k _ _ l1 t360 _ ?side1 ?side2 A5.out).mono ?_); (case side1 => repeat (first | exact (Kd.V_reads' HO1.out).2.2 | (with_reducible refine Kd.C_alloc ?_ _) | (with_reducible refine Kd.C_drewN ?_ _) | (with_reducible refine Kd.C_drew ?_))); (case side2 => exact (Kd.V_reads' HO1.out).2.1); rintro e w8 ⟨rfl, hb⟩; refine ⟨_, rfl, ?_⟩; have n0_ := Aside0.mk (Kd.V_below (by (with_reducible repeat (first | apply Kd.V_alloc | apply Kd.V_drewN | apply Kd.V_drew)); exact HO0.out) hb); have n1_ := Aside0.mk (Kd.V_below (by (with_reducible repeat (first | apply Kd.V_alloc | apply Kd.V_drewN | apply Kd.V_drew)); exact HO1.out) hb); have n2_ := Aside0.mk (below_step (by repeat (first | (with_reducible first | exact HB.out | apply below_alloc | apply pw_below_drewN | apply below_drew1) | exact HB.out)) hb); clear HO0; clear HO1; clear HB; have HO0 := n0_; have HO1 := n1_; have HB := n2_; clear n0_ n1_ n2_; (try clear hb); (try clear hb2); (try clear hk); (try clear hi)))
      go_loopg [0, 1, 8] k (fun kq v0 v1 v8 w' => ∃ (x0_1 : List (S56)) (x1_1 : List (S56)) (x8_1 : List (S44)), Aside0 (tree_Between.l0 kq x0_1 x1_1 x8_1 = some (r1, r2)) ∧ Aside0 (kq ≤ k) ∧ Aside0 (Kd.V k56 56 w' w.heap.size (fun k_ => ((P0_ k_ ∨ P1_ k_) ∨ w.heap.size ≤ k_) ∧ some k_ ≠ (v8 : Value).ownBlock) v0 x0_1) ∧ Aside0 (Kd.V k56 56 w' w.heap.size (fun k_ => ((P0_ k_ ∨ P1_ k_) ∨ w.heap.size ≤ k_) ∧ some k_ ≠ (v8 : Value).ownBlock) v1 x1_1) ∧ Aside0 (Kd.R k44 44 w' w.heap.size (fun k_ => (w.heap.size ≤ k_)) v8 x8_1) ∧ Aside0 (Below w.heap.size w w'))
      case atStart => exact ⟨(l0), (l1), (([] : List (S44))), H', ⟨Nat.le_refl _⟩, ⟨by (with_reducible repeat (first | apply Kd.V_alloc | apply Kd.V_drewN | apply Kd.V_drew)); exact Kd.V_mono HO0.out (fun _ hk => ⟨hk, (by simp [Value.ownBlock])⟩)⟩, ⟨by (with_reducible repeat (first | apply Kd.V_alloc | apply Kd.V_drewN | apply Kd.V_drew)); exact Kd.V_mono HO1.out (fun _ hk => ⟨hk, (by simp [Value.ownBlock])⟩)⟩, ⟨by first | exact Kd.R_nil _ _ _ _ _ | exact Kd.N_nil _ _ _ _ _ | exact Kd.V_nil _ _ _ _ _ | exact Kd.Q_nil _ _ _ _ _ | exact Kd.S_nil _ _ _ _ _⟩, ⟨by repeat (first | (with_reducible first | exact HB.out | apply below_alloc | apply pw_below_drewN | apply below_drew1) | exact HB.out)⟩⟩
      case round =>
        clear H'
        try clear c1
        try clear c2
        try clear p2
        try clear c3
        try clear c4
        try clear c4b0
        try clear c4b1
        try clear c6
        try clear c6b0
        try clear c6b1
        obtain ⟨x0_1, x1_1, x8_1, HA, HK1, HO_0, HO_1, HO_8, HB⟩ := hrel
        cases gk with
        | zero => exact absurd HA.out (by simp [tree_Between.l0])
        | succ k1 =>
          have H := HA.out
          clear HA
          simp only [tree_Between.l0] at H
          have HC9 := Aside0.mk H
          clear H
          go_upto_region 8 with (fail)
          go_cut [27] (fun v27 wc => ∃ (kq : Nat) (x27_8 : Bool), v27 = .bool x27_8 ∧ Aside0 (tree_Between.j1 kq x0_1 x1_1 x8_1 x27_8 = some (r1, r2)) ∧ Aside0 (kq ≤ k1) ∧ Aside0 (Kd.V k56 56 wc w.heap.size (fun k_ => ((P0_ k_ ∨ P1_ k_) ∨ w.heap.size ≤ k_) ∧ some k_ ≠ (u8 : Value).ownBlock) u0 x0_1) ∧ Aside0 (Kd.V k56 56 wc w.heap.size (fun k_ => ((P0_ k_ ∨ P1_ k_) ∨ w.heap.size ≤ k_) ∧ some k_ ≠ (u8 : Value).ownBlock) u1 x1_1) ∧ Aside0 (Kd.R k44 44 wc w.heap.size (fun k_ => (w.heap.size ≤ k_)) u8 x8_1) ∧ Aside0 (Below w.heap.size w wc))
          case first =>
            have H := HC9.out
            clear HC9
            by_cases c10 : (x0_1.length : Int) > 0
            · rw [if_pos c10] at H
              have c10b0 : decide (0 < (x0_1.length : Int)) = true := decide_eq_true c10
              have c10b1 : decide (0 < x0_1.length) = true := decide_eq_true (by omega)
              clear c10
              (first | rw [c10b0] | (simp only [i64_w, i32_w]; rw [c10b0]) | skip)
              have H' := Aside0.mk H
              clear H
              obtain ⟨Ao11, co11, eo11⟩ := Kd.V_slice HO_0.out
              subst eo11
              go_wp2
              go_meet
              case rel => exact ⟨_, (true), (by first | rfl | (simp; done) | (simp [*]; done)), H', ⟨by have := HK1.out; first | omega | exact Nat.le_refl _⟩, ⟨by (with_reducible repeat (first | apply Kd.V_alloc | apply Kd.V_drewN | apply Kd.V_drew)); exact HO_0.out⟩, ⟨by (with_reducible repeat (first | apply Kd.V_alloc | apply Kd.V_drewN | apply Kd.V_drew)); exact HO_1.out⟩, ⟨by (with_reducible repeat (first | apply Kd.R_alloc | apply Kd.R_drewN | apply Kd.R_drew)); exact HO_8.out⟩, ⟨by repeat (first | (with_reducible first | exact HB.out | apply below_alloc | apply pw_below_drewN | apply below_drew1) | exact HB.out)⟩⟩
            · rw [if_neg c10] at H
              have c10b0 : decide (0 < (x0_1.length : Int)) = false := decide_eq_false c10
              have c10b1 : decide (0 < x0_1.length) = false := decide_eq_false (by omega)
              clear c10
              (first | rw [c10b0] | (simp only [i64_w, i32_w]; rw [c10b0]) | skip)
              have H' := Aside0.mk H
              clear H
              obtain ⟨Ao12, co12, eo12⟩ := Kd.V_slice HO_0.out
              subst eo12
              obtain ⟨Ao13, co13, eo13⟩ := Kd.V_slice HO_1.out
              subst eo13
              go_wp2
              go_meet
              case rel => exact ⟨_, (decide ((x1_1.length : Int) > 0)), (by first | rfl | (simp; done) | (simp [*]; done)), H', ⟨by have := HK1.out; first | omega | exact Nat.le_refl _⟩, ⟨by (with_reducible repeat (first | apply Kd.V_alloc | apply Kd.V_drewN | apply Kd.V_drew)); exact HO_0.out⟩, ⟨by (with_reducible repeat (first | apply Kd.V_alloc | apply Kd.V_drewN | apply Kd.V_drew)); exact HO_1.out⟩, ⟨by (with_reducible repeat (first | apply Kd.R_alloc | apply Kd.R_drewN | apply Kd.R_drew)); exact HO_8.out⟩, ⟨by repeat (first | (with_reducible first | exact HB.out | apply below_alloc | apply pw_below_drewN | apply below_drew1) | exact HB.out)⟩⟩
          case rest =>
            clear HC9
            try clear c1
            try clear c2
            try clear p2
            try clear c3
            try clear c4
            try clear c4b0
            try clear c4b1
            try clear c6
            try clear c6b0
            try clear c6b1
            try clear c10
            try clear c10b0
            try clear c10b1
            try clear p2
            obtain ⟨kq, x27_8, rfl, HA, HJ8, HO_0, HO_1, HO_8, HB⟩ := hcut
            cases kq with
            | zero => exact absurd HA.out (by simp [tree_Between.j1])
            | succ kj8 =>
              have H := HA.out
              clear HA
              simp only [tree_Between.j1] at H
              by_cases c14 : x27_8 = true
              · subst c14
                have H1 : (if (x1_1.length : Int) = 0 then (tree_Between.j2 kj8 x0_1 x1_1 x8_1 (-1)) else (if (x0_1.length : Int) = 0 then (tree_Between.j2 kj8 x0_1 x1_1 x8_1 1) else (if 0 < (x0_1.length : Int) then (if 0 < (x1_1.length : Int) then ((tree_Order.f kj8 ((rd_T56 x0_1 0).f0) ((rd_T56 x1_1 0).f0)).bind fun t363 => (tree_Between.j2 kj8 x0_1 x1_1 x8_1 t363)) else (none)) else (none)))) = some (r1, r2) := by rw [if_pos rfl] at H; exact H
                clear H
                have H := H1
                clear H1
                have HC15 := Aside0.mk H
                clear H
                go_upto_block 2 with (fail)
                go_cut [9] (fun v9 wc => ∃ (kq : Nat) (x9_14 : Int), v9 = .int .i64 x9_14 ∧ Aside0 (tree_Between.j2 kq x0_1 x1_1 x8_1 x9_14 = some (r1, r2)) ∧ Aside0 (kq ≤ kj8) ∧ Aside0 (Kd.V k56 56 wc w.heap.size (fun k_ => ((P0_ k_ ∨ P1_ k_) ∨ w.heap.size ≤ k_) ∧ some k_ ≠ (u8 : Value).ownBlock) u0 x0_1) ∧ Aside0 (Kd.V k56 56 wc w.heap.size (fun k_ => ((P0_ k_ ∨ P1_ k_) ∨ w.heap.size ≤ k_) ∧ some k_ ≠ (u8 : Value).ownBlock) u1 x1_1) ∧ Aside0 (Kd.R k44 44 wc w.heap.size (fun k_ => (w.heap.size ≤ k_)) u8 x8_1) ∧ Aside0 (Below w.heap.size w wc))
                case first =>
                  have H := HC15.out
                  clear HC15
                  by_cases c16 : (x1_1.length : Int) = 0
                  · rw [if_pos c16] at H
                    have c16b0 : ((x1_1.length : Int) == 0) = true := beq_iff_eq.mpr c16
                    have c16b1 : ((x1_1.length : Int) != 0) = false := bne_eq_false_iff_eq.mpr c16
                    clear c16
                    (first | rw [c16b0] | (simp only [i64_w, i32_w]; rw [c16b0]) | skip)
                    have H' := Aside0.mk H
                    clear H
                    obtain ⟨Ao17, co17, eo17⟩ := Kd.V_slice HO_1.out
                    subst eo17
                    go_wp2
                    go_meet
                    case rel => exact ⟨_, ((-1)), (by first | rfl | (simp; done) | (simp [*]; done)), H', ⟨by have := HK1.out; have := HJ8.out; first | omega | exact Nat.le_refl _⟩, ⟨by (with_reducible repeat (first | apply Kd.V_alloc | apply Kd.V_drewN | apply Kd.V_drew)); exact HO_0.out⟩, ⟨by (with_reducible repeat (first | apply Kd.V_alloc | apply Kd.V_drewN | apply Kd.V_drew)); exact HO_1.out⟩, ⟨by (with_reducible repeat (first | apply Kd.R_alloc | apply Kd.R_drewN | apply Kd.R_drew)); exact HO_8.out⟩, ⟨by repeat (first | (with_reducible first | exact HB.out | apply below_alloc | apply pw_below_drewN | apply below_drew1) | exact HB.out)⟩⟩
                  · rw [if_neg c16] at H
                    have c16b0 : ((x1_1.length : Int) == 0) = false := beq_eq_false_iff_ne.mpr c16
                    have c16b1 : ((x1_1.length : Int) != 0) = true := bne_iff_ne.mpr c16
                    have c16b2 : ¬ (x1_1 = []) := fun h_ => c16 (by rw [h_]; rfl)
                    (first | rw [c16b0] | (simp only [i64_w, i32_w]; rw [c16b0]) | skip)
                    by_cases c18 : (x0_1.length : Int) = 0
                    · rw [if_pos c18] at H
                      have c18b0 : ((x0_1.length : Int) == 0) = true := beq_iff_eq.mpr c18
                      have c18b1 : ((x0_1.length : Int) != 0) = false := bne_eq_false_iff_eq.mpr c18
                      clear c18
                      have H' := Aside0.mk H
                      clear H
                      obtain ⟨Ao19, co19, eo19⟩ := Kd.V_slice HO_1.out
                      subst eo19
                      obtain ⟨Ao20, co20, eo20⟩ := Kd.V_slice HO_0.out
                      subst eo20
                      go_wp2
                      go_meet
                      case rel => exact ⟨_, (1), (by first | rfl | (simp; done) | (simp [*]; done)), H', ⟨by have := HK1.out; have := HJ8.out; first | omega | exact Nat.le_refl _⟩, ⟨by (with_reducible repeat (first | apply Kd.V_alloc | apply Kd.V_drewN | apply Kd.V_drew)); exact HO_0.out⟩, ⟨by (with_reducible repeat (first | apply Kd.V_alloc | apply Kd.V_drewN | apply Kd.V_drew)); exact HO_1.out⟩, ⟨by (with_reducible repeat (first | apply Kd.R_alloc | apply Kd.R_drewN | apply Kd.R_drew)); exact HO_8.out⟩, ⟨by repeat (first | (with_reducible first | exact HB.out | apply below_alloc | apply pw_below_drewN | apply below_drew1) | exact HB.out)⟩⟩
                    · rw [if_neg c18] at H
                      have c18b0 : ((x0_1.length : Int) == 0) = false := beq_eq_false_iff_ne.mpr c18
                      have c18b1 : ((x0_1.length : Int) != 0) = true := bne_iff_ne.mpr c18
                      have c18b2 : ¬ (x0_1 = []) := fun h_ => c18 (by rw [h_]; rfl)
                      by_cases c21 : 0 < (x0_1.length : Int)
                      · rw [if_pos c21] at H
                        have c21b0 : decide (0 < (x0_1.length : Int)) = true := decide_eq_true c21
                        have c21b1 : decide (0 < x0_1.length) = true := decide_eq_true (by omega)
                        clear c21
                        by_cases c22 : 0 < (x1_1.length : Int)
                        · rw [if_pos c22] at H
                          have c22b0 : decide (0 < (x1_1.length : Int)) = true := decide_eq_true c22
                          have c22b1 : decide (0 < x1_1.length) = true := decide_eq_true (by omega)
                          clear c22
                          replace H := Option.bind_eq_some_iff.mp H
                          obtain ⟨t363, A230, H⟩ := H
                          replace H : (tree_Between.j2 kj8 x0_1 x1_1 x8_1 t363) = some (r1, r2) := H
                          have A23 := Aside0.mk A230
                          clear A230
                          have H' := Aside0.mk H
                          clear H
                          obtain ⟨Ao24, co24, eo24⟩ := Kd.V_slice HO_1.out
                          subst eo24
                          obtain ⟨Ao25, co25, eo25⟩ := Kd.V_slice HO_0.out
                          subst eo25
                          try go_wp2
                          have n0_ := Aside0.mk (Kd.V_drew HO_0.out)
                          have n1_ := Aside0.mk (Kd.V_drew HO_1.out)
                          have n2_ := Aside0.mk (Kd.R_drew HO_8.out)
                          have n3_ := Aside0.mk (below_drew1 HB.out)
                          clear HO_0
                          clear HO_1
                          clear HO_8
                          clear HB
                          have HO_0 := n0_
                          have HO_1 := n1_
                          have HO_8 := n2_
                          have HB := n3_
                          clear n0_ n1_ n2_ n3_
                          have p361 : 0 ≤ (0 : Int) := (by omega)
                          have q361 : 0 < (x0_1.length : Int) := of_decide_eq_true (by first | (with_reducible assumption) | assumption)
                          obtain ⟨ad361, e361, hx361_0, hx361_1, hx361_2, hx361_3⟩ := at_T56 (Kd.V_reads' HO_0.out).2.2 0 p361 q361
                          cases e361
                          have qi361 : (0 < x0_1.length) = True := eq_true (by omega)
                          (try rw [show ((0 : Int)).toNat = 0 from rfl] at hx361_0)
                          (try rw [show 0 * 4 = 0 from rfl] at hx361_0)
                          (try rw [Addr.add_zero'] at hx361_0)
                          (try rw [show ((0 : Int)).toNat = 0 from rfl] at hx361_1)
                          (try rw [show 0 * 4 = 0 from rfl] at hx361_1)
                          (try rw [Addr.add_zero'] at hx361_1)
                          (try rw [show ((0 : Int)).toNat = 0 from rfl] at hx361_2)
                          (try rw [show 0 * 4 = 0 from rfl] at hx361_2)
                          (try rw [Addr.add_zero'] at hx361_2)
                          (try rw [show ((0 : Int)).toNat = 0 from rfl] at hx361_3)
                          (try rw [show 0 * 4 = 0 from rfl] at hx361_3)
                          (try rw [Addr.add_zero'] at hx361_3)
                          replace p361 := eq_true p361
                          replace q361 := eq_true q361
                          have p362 : 0 ≤ (0 : Int) := (by omega)
                          have q362 : 0 < (x1_1.length : Int) := of_decide_eq_true (by first | (with_reducible assumption) | assumption)
                          obtain ⟨ad362, e362, hx362_0, hx362_1, hx362_2, hx362_3⟩ := at_T56 (Kd.V_reads' HO_1.out).2.2 0 p362 q362
                          cases e362
                          have qi362 : (0 < x1_1.length) = True := eq_true (by omega)
                          (try rw [show ((0 : Int)).toNat = 0 from rfl] at hx362_0)
                          (try rw [show 0 * 4 = 0 from rfl] at hx362_0)
                          (try rw [Addr.add_zero'] at hx362_0)
                          (try rw [show ((0 : Int)).toNat = 0 from rfl] at hx362_1)
                          (try rw [show 0 * 4 = 0 from rfl] at hx362_1)
                          (try rw [Addr.add_zero'] at hx362_1)
                          (try rw [show ((0 : Int)).toNat = 0 from rfl] at hx362_2)
                          (try rw [show 0 * 4 = 0 from rfl] at hx362_2)
                          (try rw [Addr.add_zero'] at hx362_2)
                          (try rw [show ((0 : Int)).toNat = 0 from rfl] at hx362_3)
                          (try rw [show 0 * 4 = 0 from rfl] at hx362_3)
                          (try rw [Addr.add_zero'] at hx362_3)
                          replace p362 := eq_true p362
                          replace q362 := eq_true q362
                          refine start_ (n := 10) (S := fun w' => w'.cell? ad361 = some (.string ((rd_T56 x0_1 0).f0)) ∧ w'.cell? ⟨ad361.block, ad361.off + 1, none⟩ = some (.int .i64 ((rd_T56 x0_1 0).f1)) ∧ w'.cell? ⟨ad361.block, ad361.off + 2, none⟩ = some (.int .i64 ((rd_T56 x0_1 0).f2)) ∧ w'.cell? ⟨ad361.block, ad361.off + 3, none⟩ = some (.string ((rd_T56 x0_1 0).f3)) ∧ w'.cell? ad362 = some (.string ((rd_T56 x1_1 0).f0)) ∧ w'.cell? ⟨ad362.block, ad362.off + 1, none⟩ = some (.int .i64 ((rd_T56 x1_1 0).f1)) ∧ w'.cell? ⟨ad362.block, ad362.off + 2, none⟩ = some (.int .i64 ((rd_T56 x1_1 0).f2)) ∧ w'.cell? ⟨ad362.block, ad362.off + 3, none⟩ = some (.string ((rd_T56 x1_1 0).f3))) (ds := []) #[false, false, false, false, false, false, false, false, false, false] (by kernel_rfl) rfl rfl ⟨hx361_0, hx361_1, hx361_2, hx361_3, hx362_0, hx362_1, hx362_2, hx362_3⟩ (fun hHeld => ?_); refine with_tabW tree_Between.tab10 tree_Between.bits10 (fun HT_ HW_ => ?_)
                          generalize wc.drew = w26 at HO_0 HO_1 HO_8 HB hx361_0 hx361_1 hx361_2 hx361_3 hx362_0 hx362_1 hx362_2 hx362_3 hHeld ⊢
                          refine pure_ (i := 0) (N := some 28) (v := ?_) (a' := ?_) #[true, false, false, false, false, false, false, false, false, false] rfl rfl (any_of HT_.out (by kernel_rfl)) (fun _ _ _ h => h) (Or.inl ⟨by rfl, ?_⟩) ?_ ?_
                          rotate_left
                          · intro w'
                            go_simp
                            with_reducible rfl
                          rotate_left
                          · simp only [Act.put, List.setIfInBounds_toArray, List.set_cons_zero, List.set_cons_succ, i64_w, i32_w]
                            rfl
                          refine pure_ (i := 1) (N := some 29) (v := ?_) (a' := ?_) #[true, true, false, false, false, false, false, false, false, false] rfl rfl (any_of HT_.out (by kernel_rfl)) (fun _ _ _ h => h) (Or.inl ⟨by rfl, ?_⟩) ?_ ?_
                          rotate_left
                          · intro w'
                            go_simp
                            with_reducible rfl
                          rotate_left
                          · simp only [Act.put, List.setIfInBounds_toArray, List.set_cons_zero, List.set_cons_succ, i64_w, i32_w]
                            rfl
                          refine pure_ (i := 2) (N := some 30) (v := ?_) (a' := ?_) #[true, true, true, false, false, false, false, false, false, false] rfl rfl (any_of HT_.out (by kernel_rfl)) (fun _ _ _ h => h) (Or.inl ⟨by rfl, ?_⟩) ?_ ?_
                          rotate_left
                          · intro w'
                            go_simp
                            with_reducible rfl
                          rotate_left
                          · simp only [Act.put, List.setIfInBounds_toArray, List.set_cons_zero, List.set_cons_succ, i64_w, i32_w]
                            rfl
                          refine pure_ (i := 4) (N := some 32) (v := ?_) (a' := ?_) #[true, true, true, false, true, false, false, false, false, false] rfl rfl (any_of HT_.out (by kernel_rfl)) (fun _ _ _ h => h) (Or.inl ⟨by rfl, ?_⟩) ?_ ?_
                          rotate_left
                          · intro w'
                            go_simp
                            with_reducible rfl
                          rotate_left
                          · simp only [Act.put, List.setIfInBounds_toArray, List.set_cons_zero, List.set_cons_succ, i64_w, i32_w]
                            rfl
                          refine pure_ (i := 5) (N := some 33) (v := ?_) (a' := ?_) #[true, true, true, false, true, true, false, false, false, false] rfl rfl (any_of HT_.out (by kernel_rfl)) (fun _ _ _ h => h) (Or.inl ⟨by rfl, ?_⟩) ?_ ?_
                          rotate_left
                          · intro w'
                            go_simp
                            with_reducible rfl
                          rotate_left
                          · simp only [Act.put, List.setIfInBounds_toArray, List.set_cons_zero, List.set_cons_succ, i64_w, i32_w]
                            rfl
                          refine pure_ (i := 6) (N := some 34) (v := ?_) (a' := ?_) #[true, true, true, false, true, true, true, false, false, false] rfl rfl (any_of HT_.out (by kernel_rfl)) (fun _ _ _ h => h) (Or.inl ⟨by rfl, ?_⟩) ?_ ?_
                          rotate_left
                          · intro w'
                            go_simp
                            with_reducible rfl
                          rotate_left
                          · simp only [Act.put, List.setIfInBounds_toArray, List.set_cons_zero, List.set_cons_succ, i64_w, i32_w]
                            rfl
                          refine take_ (i := 3) (N := some 31) (v := ?_) (a' := ?_) #[true, true, true, true, true, true, true, false, false, false] rfl rfl (take_ofW HT_.out HW_.out (by kernel_rfl)) (fun _ _ _ h => h) (Or.inl ⟨by rfl, ?_⟩) hHeld ?_ ?_
                          rotate_left
                          · rintro w' ⟨s0, s1, s2, s3, s4, s5, s6, s7⟩
                            go_simp
                            with_reducible rfl
                          rotate_left
                          · simp only [Act.put, List.setIfInBounds_toArray, List.set_cons_zero, List.set_cons_succ, i64_w, i32_w]
                            rfl
                          refine take_ (i := 7) (N := some 35) (v := ?_) (a' := ?_) #[true, true, true, true, true, true, true, true, false, false] rfl rfl (take_ofW HT_.out HW_.out (by kernel_rfl)) (fun _ _ _ h => h) (Or.inl ⟨by rfl, ?_⟩) hHeld ?_ ?_
                          rotate_left
                          · rintro w' ⟨s0, s1, s2, s3, s4, s5, s6, s7⟩
                            go_simp
                            with_reducible rfl
                          rotate_left
                          · simp only [Act.put, List.setIfInBounds_toArray, List.set_cons_zero, List.set_cons_succ, i64_w, i32_w]
                            rfl
                          refine one_ (i := 8) (N := some 36) #[true, true, true, true, true, true, true, true, true, false] rfl rfl (one_of HT_.out (by kernel_rfl)) (by decide) (fun K hK => ?_)
                          refine goes_ Tryd.func18 (by kernel_rfl) rfl #[.string ((rd_T56 x0_1 0).f0), .string ((rd_T56 x1_1 0).f0)] (by rfl) rfl rfl (by (try simp only [List.map_toArray, List.map_cons, List.map_nil]); first | done | rfl | (simp only [List.length_drop, List.length_take]; rfl)) ?_
                          with_reducible refine (tree_Order.calls kj8 ((rd_T56 x0_1 0).f0) ((rd_T56 x1_1 0).f0) t363 _ A23.out).mono ?_
                          rintro e w27 ⟨rfl, hb⟩
                          have HS0_ := (hb.cell (World.block_lt_of_cell? _ _ (hHeld.1))).trans (hHeld.1)
                          have HS1_ := (hb.cell (World.block_lt_of_cell? _ _ (hHeld.2.1))).trans (hHeld.2.1)
                          have HS2_ := (hb.cell (World.block_lt_of_cell? _ _ (hHeld.2.2.1))).trans (hHeld.2.2.1)
                          have HS3_ := (hb.cell (World.block_lt_of_cell? _ _ (hHeld.2.2.2.1))).trans (hHeld.2.2.2.1)
                          have HS4_ := (hb.cell (World.block_lt_of_cell? _ _ (hHeld.2.2.2.2.1))).trans (hHeld.2.2.2.2.1)
                          have HS5_ := (hb.cell (World.block_lt_of_cell? _ _ (hHeld.2.2.2.2.2.1))).trans (hHeld.2.2.2.2.2.1)
                          have HS6_ := (hb.cell (World.block_lt_of_cell? _ _ (hHeld.2.2.2.2.2.2.1))).trans (hHeld.2.2.2.2.2.2.1)
                          have HS7_ := (hb.cell (World.block_lt_of_cell? _ _ (hHeld.2.2.2.2.2.2.2))).trans (hHeld.2.2.2.2.2.2.2)
                          refine ⟨_, rfl, ?_⟩
                          have n0_ := Aside0.mk (Kd.V_below (by (with_reducible repeat (first | apply Kd.V_alloc | apply Kd.V_drewN | apply Kd.V_drew)); exact HO_0.out) hb)
                          have n1_ := Aside0.mk (Kd.V_below (by (with_reducible repeat (first | apply Kd.V_alloc | apply Kd.V_drewN | apply Kd.V_drew)); exact HO_1.out) hb)
                          have n2_ := Aside0.mk (Kd.R_below (by (with_reducible repeat (first | apply Kd.R_alloc | apply Kd.R_drewN | apply Kd.R_drew)); exact HO_8.out) hb)
                          have n3_ := Aside0.mk (below_step (by repeat (first | (with_reducible first | exact HB.out | apply below_alloc | apply pw_below_drewN | apply below_drew1) | exact HB.out)) hb)
                          clear HO_0
                          clear HO_1
                          clear HO_8
                          clear HB
                          have HO_0 := n0_
                          have HO_1 := n1_
                          have HO_8 := n2_
                          have HB := n3_
                          clear n0_ n1_ n2_ n3_
                          (try clear hb)
                          (try clear hb2)
                          (try clear hk)
                          (try clear hi)
                          refine hK.out _ _ ⟨HS0_, HS1_, HS2_, HS3_, HS4_, HS5_, HS6_, HS7_⟩ (fun hHeld => ?_)
                          clear hK K
                          refine norm_ (a' := ?_) ?_ ?_
                          rotate_left
                          · show Act.put _ (some 36) _ = _
                            simp only [Act.put, List.setIfInBounds_toArray, List.set_cons_zero, List.set_cons_succ, i64_w, i32_w]
                            rfl
                          refine pure_ (i := 9) (N := some 9) (v := ?_) (a' := ?_) #[true, true, true, true, true, true, true, true, true, true] rfl rfl (any_of HT_.out (by kernel_rfl)) (fun _ _ _ h => h) (Or.inl ⟨by rfl, ?_⟩) ?_ ?_
                          rotate_left
                          · intro w'
                            go_simp
                            with_reducible rfl
                          rotate_left
                          · simp only [Act.put, List.setIfInBounds_toArray, List.set_cons_zero, List.set_cons_succ, i64_w, i32_w]
                            rfl
                          refine done_ (done_of HT_.out (by kernel_rfl)) ?_
                          try go_wp2
                          go_meet
                          case rel => exact ⟨_, (t363), (by first | rfl | (simp; done) | (simp [*]; done)), H', ⟨by have := HK1.out; have := HJ8.out; first | omega | exact Nat.le_refl _⟩, ⟨by (with_reducible repeat (first | apply Kd.V_alloc | apply Kd.V_drewN | apply Kd.V_drew)); exact HO_0.out⟩, ⟨by (with_reducible repeat (first | apply Kd.V_alloc | apply Kd.V_drewN | apply Kd.V_drew)); exact HO_1.out⟩, ⟨by (with_reducible repeat (first | apply Kd.R_alloc | apply Kd.R_drewN | apply Kd.R_drew)); exact HO_8.out⟩, ⟨by repeat (first | (with_reducible first | exact HB.out | apply below_alloc | apply pw_below_drewN | apply below_drew1) | exact HB.out)⟩⟩
                        · rw [if_neg c22] at H
                          exact absurd H (by simp)
                      · rw [if_neg c21] at H
                        exact absurd H (by simp)
                case rest =>
                  clear HC15
                  try clear c1
                  try clear c2
                  try clear p2
                  try clear c3
                  try clear p3
                  try clear q3
                  try clear hx3
                  try clear qi3
                  try clear c4
                  try clear c4b0
                  try clear c4b1
                  try clear c6
                  try clear c6b0
                  try clear c6b1
                  try clear c10
                  try clear c10b0
                  try clear c10b1
                  try clear c14
                  try clear c16
                  try clear c16b0
                  try clear c16b1
                  try clear c16b2
                  try clear c18
                  try clear c18b0
                  try clear c18b1
                  try clear c18b2
                  try clear c21
                  try clear c21b0
                  try clear c21b1
                  try clear c22
                  try clear c22b0
                  try clear c22b1
                  try clear hx361_0
                  try clear hx361_1
                  try clear hx361_2
                  try clear hx361_3
                  try clear hx362_0
                  try clear hx362_1
                  try clear hx362_2
                  try clear hx362_3
                  try clear p2
                  try clear p361
                  try clear p362
                  try clear q361
                  try clear q362
                  obtain ⟨kq, x9_14, rfl, HA, HJ14, HO_0, HO_1, HO_8, HB⟩ := hcut
                  cases kq with
                  | zero => exact absurd HA.out (by simp [tree_Between.j2])
                  | succ kj14 =>
                    have H := HA.out
                    clear HA
                    simp only [tree_Between.j2] at H
                    by_cases c28 : x9_14 < 0
                    · rw [if_pos c28] at H
                      have c28b0 : decide (x9_14 < 0) = true := decide_eq_true c28
                      clear c28
                      by_cases c29 : 0 < (x0_1.length : Int)
                      · rw [if_pos c29] at H
                        have c29b0 : decide (0 < (x0_1.length : Int)) = true := decide_eq_true c29
                        have c29b1 : decide (0 < x0_1.length) = true := decide_eq_true (by omega)
                        clear c29
                        by_cases c30 : x8_1.length < 5864062014805
                        · rw [if_pos c30] at H
                          have LMc30 := Aside0.mk c30
                          clear c30
                          obtain ⟨y365, hy365⟩ : ∃ y_ : List (S44), y_ = (x8_1 ++ [(⟨1, (rd_T56 x0_1 0).f0⟩ : S44)]) := ⟨_, rfl⟩
                          replace H : (if 1 ≤ (x0_1.length : Int) then (tree_Between.l0 kj14 (x0_1.drop 1) x1_1 y365) else (none)) = some (r1, r2) := by first | (rw [hy365]; with_reducible exact H) | (have H2_ := (Option.bind_some _ _).symm.trans H; rw [hy365]; with_reducible exact H2_) | (have H2_ := (Option.bind_some _ _).symm.trans H; with_reducible exact H2_) | with_reducible exact H | (rw [hy365]; exact H) | exact H
                          have Ny365 := Aside0.mk hy365
                          clear hy365
                          by_cases c31 : 1 ≤ (x0_1.length : Int)
                          · rw [if_pos c31] at H
                            have c31b0 := eq_true c31
                            have c31b1 : decide (1 ≤ (x0_1.length : Int)) = true := decide_eq_true c31
                            clear c31
                            obtain ⟨y368, hy368⟩ : ∃ y_ : List (S56), y_ = (x0_1.drop 1) := ⟨_, rfl⟩
                            replace H : (tree_Between.l0 kj14 y368 x1_1 y365) = some (r1, r2) := by first | (rw [hy368]; with_reducible exact H) | (have H2_ := (Option.bind_some _ _).symm.trans H; rw [hy368]; with_reducible exact H2_) | (have H2_ := (Option.bind_some _ _).symm.trans H; with_reducible exact H2_) | with_reducible exact H | (rw [hy368]; exact H) | exact H
                            have Ny368 := Aside0.mk hy368
                            clear hy368
                            have H' := Aside0.mk H
                            clear H
                            obtain ⟨Ao32, co32, eo32⟩ := Kd.V_slice HO_0.out
                            subst eo32
                            have p364 : 0 ≤ (0 : Int) := (by omega)
                            have q364 : 0 < (x0_1.length : Int) := of_decide_eq_true (by first | (with_reducible assumption) | assumption)
                            obtain ⟨ad364, e364, hx364_0, hx364_1, hx364_2, hx364_3⟩ := at_T56 (Kd.V_reads' HO_0.out).2.2 0 p364 q364
                            cases e364
                            have qi364 : (0 < x0_1.length) = True := eq_true (by omega)
                            (try rw [show ((0 : Int)).toNat = 0 from rfl] at hx364_0)
                            (try rw [show 0 * 4 = 0 from rfl] at hx364_0)
                            (try rw [Addr.add_zero'] at hx364_0)
                            (try rw [show ((0 : Int)).toNat = 0 from rfl] at hx364_1)
                            (try rw [show 0 * 4 = 0 from rfl] at hx364_1)
                            (try rw [Addr.add_zero'] at hx364_1)
                            (try rw [show ((0 : Int)).toNat = 0 from rfl] at hx364_2)
                            (try rw [show 0 * 4 = 0 from rfl] at hx364_2)
                            (try rw [Addr.add_zero'] at hx364_2)
                            (try rw [show ((0 : Int)).toNat = 0 from rfl] at hx364_3)
                            (try rw [show 0 * 4 = 0 from rfl] at hx364_3)
                            (try rw [Addr.add_zero'] at hx364_3)
                            replace p364 := eq_true p364
                            replace q364 := eq_true q364
                            go_wp2_with (first | ((with_reducible refine gate_builtin (b := .append) (xs := #[.tmp 48, .tmp 54]) rfl ?_); (try (refine gate_guard (by rfl) ?_; dsimp only)); at_builtin; refine Kd.R_append k44 (w0 := w) w.heap.size rfl (.tmp 48) (.tmp 54) 40 44 (.agg #[(.int .i64 0), (.string ⟨#[]⟩)]) 24 rfl Tryd.underlying40 info44 rfl (by decide) (by omega) u8 x8_1 (⟨1, (rd_T56 x0_1 0).f0⟩ : S44) [.int .i64 1, .string ((rd_T56 x0_1 0).f0)] (fun k_ => (w.heap.size ≤ k_)) (fun _ => False) rfl rfl ?aP (fun _ hk => hk.elim) ?aF ?aO ?aB ?aS ?aL ?_; (case aP => exact k44_mkM _ _ _ (⟨1, (rd_T56 x0_1 0).f0⟩ : S44)); (case aB => exact (by repeat (first | (with_reducible first | exact HB.out | apply below_alloc | apply pw_below_drewN | apply below_drew1) | exact HB.out))); (case aF => exact (fun k_ hk => (Nat.le_trans (below_size (by repeat (first | (with_reducible first | exact HB.out | apply below_alloc | apply pw_below_drewN | apply below_drew1) | exact HB.out))) hk))); (case aO => exact (by (with_reducible repeat (first | apply Kd.R_alloc | apply Kd.R_drewN | apply Kd.R_drew)); exact HO_8.out)); (case aS => exact (below_size (by repeat (first | (with_reducible first | exact HB.out | apply below_alloc | apply pw_below_drewN | apply below_drew1) | exact HB.out)))); (case aL => have := LMc30.out; omega); intro v366 w33 ho hb hg hat; rw [← Ny365.out] at ho; have n0_ := Aside0.mk (Kd.V_afterv (ok := (fun k_ => ((P0_ k_ ∨ P1_ k_) ∨ w.heap.size ≤ k_))) (by (with_reducible repeat (first | apply Kd.V_alloc | apply Kd.V_drewN | apply Kd.V_drew)); exact HO_0.out) hg hat); have n1_ := Aside0.mk (Kd.V_afterv (ok := (fun k_ => ((P0_ k_ ∨ P1_ k_) ∨ w.heap.size ≤ k_))) (by (with_reducible repeat (first | apply Kd.V_alloc | apply Kd.V_drewN | apply Kd.V_drew)); exact HO_1.out) hg hat); have n2_ := Aside0.mk (hb); have n3_ := Aside0.mk (ho); clear HO_0; clear HO_1; clear HB; clear HO_8; have HO_0 := n0_; have HO_1 := n1_; have HB := n2_; have HO367 := n3_; clear n0_ n1_ n2_ n3_; clear ho hb hg hat; have q34 : (1 : Int) ≤ ((x0_1.length : Int) : Int) := of_decide_eq_true (by first | (with_reducible assumption) | assumption); obtain ⟨i034, hi034, _, hsz34, _⟩ := info_parts info56; have hroom34 : x0_1.length ≤ co32 := (Kd.V_reads' HO_0.out).2.1; have hC34 : Kd.F k56 _ _ (some ad364) x0_1.length x0_1 := (Kd.V_at (base := w.heap.size) HO_0.out).2.2; have hcut34 := cut_from (P := Tryd.prog) 39 56 .i64 Tryd.underlying39 hi034 4 hsz34 (some ad364) x0_1.length co32 1 (by omega) q34; have hr34 := Kd.F_cut (m := (1 : Int).toNat) (c := co32) hC34 (by omega) hroom34; obtain ⟨A34, hA34⟩ : ∃ A1, A1 = (if co32 = (1 : Int).toNat then (some ad364) else ((some ad364) : Option Addr).map (·.add ((1 : Int).toNat * 4))) := ⟨_, rfl⟩; obtain ⟨c34, hc34⟩ : ∃ c1, c1 = co32 - (1 : Int).toNat := ⟨_, rfl⟩; have hy34 : y368.length = x0_1.length - (1 : Int).toNat := (by rw [Ny368.out, List.length_drop] <;> omega); rw [show (x0_1).drop (1 : Int).toNat = y368 from Ny368.out.symm] at hr34; replace hr34 : Kd.F k56 _ _ A34 y368.length y368 := (by rw [hA34]; exact hr34); rw [← hy34, ← hA34, ← hc34] at hcut34; have HO372 := Aside0.mk (show Kd.V k56 56 _ w.heap.size _ (.slice A34 y368.length c34) y368 from Kd.V_mk (by rw [hy34, hc34]; exact Nat.sub_le_sub_right hroom34 _) hr34); have HC372 := Aside0.mk (show y368.length ≤ c34 from by rw [hy34, hc34]; exact Nat.sub_le_sub_right hroom34 _); clear hr34 hC34 hroom34 hi034 hsz34 hc34; have KY34 := Aside0.mk hy34; have KA34 := Aside0.mk hA34; clear hy34 hA34; replace q34 := eq_true q34))
                            go_roundg kj14
                            case measure => have := HK1.out; have := HJ8.out; have := HJ14.out; omega
                            case rel => exact ⟨(y368), (x1_1), (y365), H', ⟨by have := HK1.out; have := HJ8.out; have := HJ14.out; omega⟩, ⟨by (with_reducible repeat (first | apply Kd.V_alloc | apply Kd.V_drewN | apply Kd.V_drew)); exact HO372.out⟩, ⟨by (with_reducible repeat (first | apply Kd.V_alloc | apply Kd.V_drewN | apply Kd.V_drew)); exact HO_1.out⟩, ⟨by (with_reducible repeat (first | apply Kd.R_alloc | apply Kd.R_drewN | apply Kd.R_drew)); exact HO367.out⟩, ⟨by repeat (first | (with_reducible first | exact HB.out | apply below_alloc | apply pw_below_drewN | apply below_drew1) | exact HB.out)⟩⟩
                          · rw [if_neg c31] at H
                            exact absurd H (by simp)
                        · rw [if_neg c30] at H
                          exact absurd H (by simp)
                      · rw [if_neg c29] at H
                        exact absurd H (by simp)
                    · rw [if_neg c28] at H
                      have c28b0 : decide (x9_14 < 0) = false := decide_eq_false c28
                      clear c28
                      by_cases c35 : x9_14 > 0
                      · rw [if_pos c35] at H
                        have c35b0 : decide (0 < x9_14) = true := decide_eq_true c35
                        clear c35
                        by_cases c36 : 0 < (x1_1.length : Int)
                        · rw [if_pos c36] at H
                          have c36b0 : decide (0 < (x1_1.length : Int)) = true := decide_eq_true c36
                          have c36b1 : decide (0 < x1_1.length) = true := decide_eq_true (by omega)
                          clear c36
                          by_cases c37 : x8_1.length < 5864062014805
                          · rw [if_pos c37] at H
                            have LMc37 := Aside0.mk c37
                            clear c37
                            obtain ⟨y374, hy374⟩ : ∃ y_ : List (S44), y_ = (x8_1 ++ [(⟨2, (rd_T56 x1_1 0).f0⟩ : S44)]) := ⟨_, rfl⟩
                            replace H : (if 1 ≤ (x1_1.length : Int) then (tree_Between.l0 kj14 x0_1 (x1_1.drop 1) y374) else (none)) = some (r1, r2) := by first | (rw [hy374]; with_reducible exact H) | (have H2_ := (Option.bind_some _ _).symm.trans H; rw [hy374]; with_reducible exact H2_) | (have H2_ := (Option.bind_some _ _).symm.trans H; with_reducible exact H2_) | with_reducible exact H | (rw [hy374]; exact H) | exact H
                            have Ny374 := Aside0.mk hy374
                            clear hy374
                            by_cases c38 : 1 ≤ (x1_1.length : Int)
                            · rw [if_pos c38] at H
                              have c38b0 := eq_true c38
                              have c38b1 : decide (1 ≤ (x1_1.length : Int)) = true := decide_eq_true c38
                              clear c38
                              obtain ⟨y377, hy377⟩ : ∃ y_ : List (S56), y_ = (x1_1.drop 1) := ⟨_, rfl⟩
                              replace H : (tree_Between.l0 kj14 x0_1 y377 y374) = some (r1, r2) := by first | (rw [hy377]; with_reducible exact H) | (have H2_ := (Option.bind_some _ _).symm.trans H; rw [hy377]; with_reducible exact H2_) | (have H2_ := (Option.bind_some _ _).symm.trans H; with_reducible exact H2_) | with_reducible exact H | (rw [hy377]; exact H) | exact H
                              have Ny377 := Aside0.mk hy377
                              clear hy377
                              have H' := Aside0.mk H
                              clear H
                              obtain ⟨Ao39, co39, eo39⟩ := Kd.V_slice HO_1.out
                              subst eo39
                              have p373 : 0 ≤ (0 : Int) := (by omega)
                              have q373 : 0 < (x1_1.length : Int) := of_decide_eq_true (by first | (with_reducible assumption) | assumption)
                              obtain ⟨ad373, e373, hx373_0, hx373_1, hx373_2, hx373_3⟩ := at_T56 (Kd.V_reads' HO_1.out).2.2 0 p373 q373
                              cases e373
                              have qi373 : (0 < x1_1.length) = True := eq_true (by omega)
                              (try rw [show ((0 : Int)).toNat = 0 from rfl] at hx373_0)
                              (try rw [show 0 * 4 = 0 from rfl] at hx373_0)
                              (try rw [Addr.add_zero'] at hx373_0)
                              (try rw [show ((0 : Int)).toNat = 0 from rfl] at hx373_1)
                              (try rw [show 0 * 4 = 0 from rfl] at hx373_1)
                              (try rw [Addr.add_zero'] at hx373_1)
                              (try rw [show ((0 : Int)).toNat = 0 from rfl] at hx373_2)
                              (try rw [show 0 * 4 = 0 from rfl] at hx373_2)
                              (try rw [Addr.add_zero'] at hx373_2)
                              (try rw [show ((0 : Int)).toNat = 0 from rfl] at hx373_3)
                              (try rw [show 0 * 4 = 0 from rfl] at hx373_3)
                              (try rw [Addr.add_zero'] at hx373_3)
                              replace p373 := eq_true p373
                              replace q373 := eq_true q373
                              go_wp2_with (first | ((with_reducible refine gate_builtin (b := .append) (xs := #[.tmp 61, .tmp 67]) rfl ?_); (try (refine gate_guard (by rfl) ?_; dsimp only)); at_builtin; refine Kd.R_append k44 (w0 := w) w.heap.size rfl (.tmp 61) (.tmp 67) 40 44 (.agg #[(.int .i64 0), (.string ⟨#[]⟩)]) 24 rfl Tryd.underlying40 info44 rfl (by decide) (by omega) u8 x8_1 (⟨2, (rd_T56 x1_1 0).f0⟩ : S44) [.int .i64 2, .string ((rd_T56 x1_1 0).f0)] (fun k_ => (w.heap.size ≤ k_)) (fun _ => False) rfl rfl ?aP (fun _ hk => hk.elim) ?aF ?aO ?aB ?aS ?aL ?_; (case aP => exact k44_mkM _ _ _ (⟨2, (rd_T56 x1_1 0).f0⟩ : S44)); (case aB => exact (by repeat (first | (with_reducible first | exact HB.out | apply below_alloc | apply pw_below_drewN | apply below_drew1) | exact HB.out))); (case aF => exact (fun k_ hk => (Nat.le_trans (below_size (by repeat (first | (with_reducible first | exact HB.out | apply below_alloc | apply pw_below_drewN | apply below_drew1) | exact HB.out))) hk))); (case aO => exact (by (with_reducible repeat (first | apply Kd.R_alloc | apply Kd.R_drewN | apply Kd.R_drew)); exact HO_8.out)); (case aS => exact (below_size (by repeat (first | (with_reducible first | exact HB.out | apply below_alloc | apply pw_below_drewN | apply below_drew1) | exact HB.out)))); (case aL => have := LMc37.out; omega); intro v375 w40 ho hb hg hat; rw [← Ny374.out] at ho; have n0_ := Aside0.mk (Kd.V_afterv (ok := (fun k_ => ((P0_ k_ ∨ P1_ k_) ∨ w.heap.size ≤ k_))) (by (with_reducible repeat (first | apply Kd.V_alloc | apply Kd.V_drewN | apply Kd.V_drew)); exact HO_0.out) hg hat); have n1_ := Aside0.mk (Kd.V_afterv (ok := (fun k_ => ((P0_ k_ ∨ P1_ k_) ∨ w.heap.size ≤ k_))) (by (with_reducible repeat (first | apply Kd.V_alloc | apply Kd.V_drewN | apply Kd.V_drew)); exact HO_1.out) hg hat); have n2_ := Aside0.mk (hb); have n3_ := Aside0.mk (ho); clear HO_0; clear HO_1; clear HB; clear HO_8; have HO_0 := n0_; have HO_1 := n1_; have HB := n2_; have HO376 := n3_; clear n0_ n1_ n2_ n3_; clear ho hb hg hat; have q41 : (1 : Int) ≤ ((x1_1.length : Int) : Int) := of_decide_eq_true (by first | (with_reducible assumption) | assumption); obtain ⟨i041, hi041, _, hsz41, _⟩ := info_parts info56; have hroom41 : x1_1.length ≤ co39 := (Kd.V_reads' HO_1.out).2.1; have hC41 : Kd.F k56 _ _ (some ad373) x1_1.length x1_1 := (Kd.V_at (base := w.heap.size) HO_1.out).2.2; have hcut41 := cut_from (P := Tryd.prog) 39 56 .i64 Tryd.underlying39 hi041 4 hsz41 (some ad373) x1_1.length co39 1 (by omega) q41; have hr41 := Kd.F_cut (m := (1 : Int).toNat) (c := co39) hC41 (by omega) hroom41; obtain ⟨A41, hA41⟩ : ∃ A1, A1 = (if co39 = (1 : Int).toNat then (some ad373) else ((some ad373) : Option Addr).map (·.add ((1 : Int).toNat * 4))) := ⟨_, rfl⟩; obtain ⟨c41, hc41⟩ : ∃ c1, c1 = co39 - (1 : Int).toNat := ⟨_, rfl⟩; have hy41 : y377.length = x1_1.length - (1 : Int).toNat := (by rw [Ny377.out, List.length_drop] <;> omega); rw [show (x1_1).drop (1 : Int).toNat = y377 from Ny377.out.symm] at hr41; replace hr41 : Kd.F k56 _ _ A41 y377.length y377 := (by rw [hA41]; exact hr41); rw [← hy41, ← hA41, ← hc41] at hcut41; have HO381 := Aside0.mk (show Kd.V k56 56 _ w.heap.size _ (.slice A41 y377.length c41) y377 from Kd.V_mk (by rw [hy41, hc41]; exact Nat.sub_le_sub_right hroom41 _) hr41); have HC381 := Aside0.mk (show y377.length ≤ c41 from by rw [hy41, hc41]; exact Nat.sub_le_sub_right hroom41 _); clear hr41 hC41 hroom41 hi041 hsz41 hc41; have KY41 := Aside0.mk hy41; have KA41 := Aside0.mk hA41; clear hy41 hA41; replace q41 := eq_true q41))
                              go_roundg kj14
                              case measure => have := HK1.out; have := HJ8.out; have := HJ14.out; omega
                              case rel => exact ⟨(x0_1), (y377), (y374), H', ⟨by have := HK1.out; have := HJ8.out; have := HJ14.out; omega⟩, ⟨by (with_reducible repeat (first | apply Kd.V_alloc | apply Kd.V_drewN | apply Kd.V_drew)); exact HO_0.out⟩, ⟨by (with_reducible repeat (first | apply Kd.V_alloc | apply Kd.V_drewN | apply Kd.V_drew)); exact HO381.out⟩, ⟨by (with_reducible repeat (first | apply Kd.R_alloc | apply Kd.R_drewN | apply Kd.R_drew)); exact HO376.out⟩, ⟨by repeat (first | (with_reducible first | exact HB.out | apply below_alloc | apply pw_below_drewN | apply below_drew1) | exact HB.out)⟩⟩
                            · rw [if_neg c38] at H
                              exact absurd H (by simp)
                          · rw [if_neg c37] at H
                            exact absurd H (by simp)
                        · rw [if_neg c36] at H
                          exact absurd H (by simp)
                      · rw [if_neg c35] at H
                        have c35b0 : decide (0 < x9_14) = false := decide_eq_false c35
                        clear c35
                        have HC42 := Aside0.mk H
                        clear H
                        go_upto_region 21 with (fail)
                        go_cut [71] (fun v71 wc => ∃ (kq : Nat) (x71_41 : Bool), v71 = .bool x71_41 ∧ Aside0 (tree_Between.j3 kq x0_1 x1_1 x8_1 x71_41 = some (r1, r2)) ∧ Aside0 (kq ≤ kj14) ∧ Aside0 (Kd.V k56 56 wc w.heap.size (fun k_ => ((P0_ k_ ∨ P1_ k_) ∨ w.heap.size ≤ k_) ∧ some k_ ≠ (u8 : Value).ownBlock) u0 x0_1) ∧ Aside0 (Kd.V k56 56 wc w.heap.size (fun k_ => ((P0_ k_ ∨ P1_ k_) ∨ w.heap.size ≤ k_) ∧ some k_ ≠ (u8 : Value).ownBlock) u1 x1_1) ∧ Aside0 (Kd.R k44 44 wc w.heap.size (fun k_ => (w.heap.size ≤ k_)) u8 x8_1) ∧ Aside0 (Below w.heap.size w wc))
                        case first =>
                          have H := HC42.out
                          clear HC42
                          by_cases c43 : 0 < (x0_1.length : Int)
                          · rw [if_pos c43] at H
                            have c43b0 : decide (0 < (x0_1.length : Int)) = true := decide_eq_true c43
                            have c43b1 : decide (0 < x0_1.length) = true := decide_eq_true (by omega)
                            clear c43
                            (first | rw [c43b0] | (simp only [i64_w, i32_w]; rw [c43b0]) | skip)
                            by_cases c44 : 0 < (x1_1.length : Int)
                            · rw [if_pos c44] at H
                              have c44b0 : decide (0 < (x1_1.length : Int)) = true := decide_eq_true c44
                              have c44b1 : decide (0 < x1_1.length) = true := decide_eq_true (by omega)
                              clear c44
                              by_cases c45 : ((rd_T56 x0_1 0).f2) = ((rd_T56 x1_1 0).f2)
                              · rw [if_pos c45] at H
                                have c45b0 : (((rd_T56 x0_1 0).f2) == ((rd_T56 x1_1 0).f2)) = true := beq_iff_eq.mpr c45
                                have c45b1 : (((rd_T56 x0_1 0).f2) != ((rd_T56 x1_1 0).f2)) = false := bne_eq_false_iff_eq.mpr c45
                                clear c45
                                have H' := Aside0.mk H
                                clear H
                                try go_wp2
                                have n0_ := Aside0.mk (Kd.V_drew HO_0.out)
                                have n1_ := Aside0.mk (Kd.V_drew HO_1.out)
                                have n2_ := Aside0.mk (Kd.R_drew HO_8.out)
                                have n3_ := Aside0.mk (below_drew1 HB.out)
                                clear HO_0
                                clear HO_1
                                clear HO_8
                                clear HB
                                have HO_0 := n0_
                                have HO_1 := n1_
                                have HO_8 := n2_
                                have HB := n3_
                                clear n0_ n1_ n2_ n3_
                                obtain ⟨Ao47, co47, eo47⟩ := Kd.V_slice HO_0.out
                                (first | subst eo47 | (injection eo47 with f1_ f2_ f3_; have f4_ := f1_.symm; have f5_ := f3_.symm; clear f1_ f2_ f3_; subst f4_; subst f5_))
                                have p382 : 0 ≤ (0 : Int) := (by omega)
                                have q382 : 0 < (x0_1.length : Int) := of_decide_eq_true (by first | (with_reducible assumption) | assumption)
                                obtain ⟨ad382, e382, hx382_0, hx382_1, hx382_2, hx382_3⟩ := at_T56 (Kd.V_reads' HO_0.out).2.2 0 p382 q382
                                cases e382
                                have qi382 : (0 < x0_1.length) = True := eq_true (by omega)
                                (try rw [show ((0 : Int)).toNat = 0 from rfl] at hx382_0)
                                (try rw [show 0 * 4 = 0 from rfl] at hx382_0)
                                (try rw [Addr.add_zero'] at hx382_0)
                                (try rw [show ((0 : Int)).toNat = 0 from rfl] at hx382_1)
                                (try rw [show 0 * 4 = 0 from rfl] at hx382_1)
                                (try rw [Addr.add_zero'] at hx382_1)
                                (try rw [show ((0 : Int)).toNat = 0 from rfl] at hx382_2)
                                (try rw [show 0 * 4 = 0 from rfl] at hx382_2)
                                (try rw [Addr.add_zero'] at hx382_2)
                                (try rw [show ((0 : Int)).toNat = 0 from rfl] at hx382_3)
                                (try rw [show 0 * 4 = 0 from rfl] at hx382_3)
                                (try rw [Addr.add_zero'] at hx382_3)
                                replace p382 := eq_true p382
                                replace q382 := eq_true q382
                                obtain ⟨Ao48, co48, eo48⟩ := Kd.V_slice HO_1.out
                                (first | subst eo48 | (injection eo48 with f1_ f2_ f3_; have f4_ := f1_.symm; have f5_ := f3_.symm; clear f1_ f2_ f3_; subst f4_; subst f5_))
                                have p383 : 0 ≤ (0 : Int) := (by omega)
                                have q383 : 0 < (x1_1.length : Int) := of_decide_eq_true (by first | (with_reducible assumption) | assumption)
                                obtain ⟨ad383, e383, hx383_0, hx383_1, hx383_2, hx383_3⟩ := at_T56 (Kd.V_reads' HO_1.out).2.2 0 p383 q383
                                cases e383
                                have qi383 : (0 < x1_1.length) = True := eq_true (by omega)
                                (try rw [show ((0 : Int)).toNat = 0 from rfl] at hx383_0)
                                (try rw [show 0 * 4 = 0 from rfl] at hx383_0)
                                (try rw [Addr.add_zero'] at hx383_0)
                                (try rw [show ((0 : Int)).toNat = 0 from rfl] at hx383_1)
                                (try rw [show 0 * 4 = 0 from rfl] at hx383_1)
                                (try rw [Addr.add_zero'] at hx383_1)
                                (try rw [show ((0 : Int)).toNat = 0 from rfl] at hx383_2)
                                (try rw [show 0 * 4 = 0 from rfl] at hx383_2)
                                (try rw [Addr.add_zero'] at hx383_2)
                                (try rw [show ((0 : Int)).toNat = 0 from rfl] at hx383_3)
                                (try rw [show 0 * 4 = 0 from rfl] at hx383_3)
                                (try rw [Addr.add_zero'] at hx383_3)
                                replace p383 := eq_true p383
                                replace q383 := eq_true q383
                                have p384 : 0 ≤ (0 : Int) := (by omega)
                                have q384 : 0 < (x0_1.length : Int) := of_decide_eq_true (by first | (with_reducible assumption) | assumption)
                                obtain ⟨ad384, e384, hx384_0, hx384_1, hx384_2, hx384_3⟩ := at_T56 (Kd.V_reads' HO_0.out).2.2 0 p384 q384
                                obtain rfl : ad382 = ad384 := (by injection e384)
                                have qi384 : (0 < x0_1.length) = True := eq_true (by omega)
                                (try rw [show ((0 : Int)).toNat = 0 from rfl] at hx384_0)
                                (try rw [show 0 * 4 = 0 from rfl] at hx384_0)
                                (try rw [Addr.add_zero'] at hx384_0)
                                (try rw [show ((0 : Int)).toNat = 0 from rfl] at hx384_1)
                                (try rw [show 0 * 4 = 0 from rfl] at hx384_1)
                                (try rw [Addr.add_zero'] at hx384_1)
                                (try rw [show ((0 : Int)).toNat = 0 from rfl] at hx384_2)
                                (try rw [show 0 * 4 = 0 from rfl] at hx384_2)
                                (try rw [Addr.add_zero'] at hx384_2)
                                (try rw [show ((0 : Int)).toNat = 0 from rfl] at hx384_3)
                                (try rw [show 0 * 4 = 0 from rfl] at hx384_3)
                                (try rw [Addr.add_zero'] at hx384_3)
                                replace p384 := eq_true p384
                                replace q384 := eq_true q384
                                have p385 : 0 ≤ (0 : Int) := (by omega)
                                have q385 : 0 < (x1_1.length : Int) := of_decide_eq_true (by first | (with_reducible assumption) | assumption)
                                obtain ⟨ad385, e385, hx385_0, hx385_1, hx385_2, hx385_3⟩ := at_T56 (Kd.V_reads' HO_1.out).2.2 0 p385 q385
                                obtain rfl : ad383 = ad385 := (by injection e385)
                                have qi385 : (0 < x1_1.length) = True := eq_true (by omega)
                                (try rw [show ((0 : Int)).toNat = 0 from rfl] at hx385_0)
                                (try rw [show 0 * 4 = 0 from rfl] at hx385_0)
                                (try rw [Addr.add_zero'] at hx385_0)
                                (try rw [show ((0 : Int)).toNat = 0 from rfl] at hx385_1)
                                (try rw [show 0 * 4 = 0 from rfl] at hx385_1)
                                (try rw [Addr.add_zero'] at hx385_1)
                                (try rw [show ((0 : Int)).toNat = 0 from rfl] at hx385_2)
                                (try rw [show 0 * 4 = 0 from rfl] at hx385_2)
                                (try rw [Addr.add_zero'] at hx385_2)
                                (try rw [show ((0 : Int)).toNat = 0 from rfl] at hx385_3)
                                (try rw [show 0 * 4 = 0 from rfl] at hx385_3)
                                (try rw [Addr.add_zero'] at hx385_3)
                                replace p385 := eq_true p385
                                replace q385 := eq_true q385
                                refine start_ (n := 21) (S := fun w' => w'.cell? ad382 = some (.string ((rd_T56 x0_1 0).f0)) ∧ w'.cell? ⟨ad382.block, ad382.off + 1, none⟩ = some (.int .i64 ((rd_T56 x0_1 0).f1)) ∧ w'.cell? ⟨ad382.block, ad382.off + 2, none⟩ = some (.int .i64 ((rd_T56 x0_1 0).f2)) ∧ w'.cell? ⟨ad382.block, ad382.off + 3, none⟩ = some (.string ((rd_T56 x0_1 0).f3)) ∧ w'.cell? ad383 = some (.string ((rd_T56 x1_1 0).f0)) ∧ w'.cell? ⟨ad383.block, ad383.off + 1, none⟩ = some (.int .i64 ((rd_T56 x1_1 0).f1)) ∧ w'.cell? ⟨ad383.block, ad383.off + 2, none⟩ = some (.int .i64 ((rd_T56 x1_1 0).f2)) ∧ w'.cell? ⟨ad383.block, ad383.off + 3, none⟩ = some (.string ((rd_T56 x1_1 0).f3)) ∧ w'.cell? ad382 = some (.string ((rd_T56 x0_1 0).f0)) ∧ w'.cell? ⟨ad382.block, ad382.off + 1, none⟩ = some (.int .i64 ((rd_T56 x0_1 0).f1)) ∧ w'.cell? ⟨ad382.block, ad382.off + 2, none⟩ = some (.int .i64 ((rd_T56 x0_1 0).f2)) ∧ w'.cell? ⟨ad382.block, ad382.off + 3, none⟩ = some (.string ((rd_T56 x0_1 0).f3)) ∧ w'.cell? ad383 = some (.string ((rd_T56 x1_1 0).f0)) ∧ w'.cell? ⟨ad383.block, ad383.off + 1, none⟩ = some (.int .i64 ((rd_T56 x1_1 0).f1)) ∧ w'.cell? ⟨ad383.block, ad383.off + 2, none⟩ = some (.int .i64 ((rd_T56 x1_1 0).f2)) ∧ w'.cell? ⟨ad383.block, ad383.off + 3, none⟩ = some (.string ((rd_T56 x1_1 0).f3))) (ds := []) #[false, false, false, false, false, false, false, false, false, false, false, false, false, false, false, false, false, false, false, false, false] (by kernel_rfl) rfl rfl ⟨hx382_0, hx382_1, hx382_2, hx382_3, hx383_0, hx383_1, hx383_2, hx383_3, hx384_0, hx384_1, hx384_2, hx384_3, hx385_0, hx385_1, hx385_2, hx385_3⟩ (fun hHeld => ?_); refine with_tabW tree_Between.tab21 tree_Between.bits21 (fun HT_ HW_ => ?_)
                                generalize wc.drew = w46 at HO_0 HO_1 HO_8 HB hx382_0 hx382_1 hx382_2 hx382_3 hx383_0 hx383_1 hx383_2 hx383_3 hx384_0 hx384_1 hx384_2 hx384_3 hx385_0 hx385_1 hx385_2 hx385_3 hHeld ⊢
                                refine pure_ (i := 0) (N := some 72) (v := ?_) (a' := ?_) #[true, false, false, false, false, false, false, false, false, false, false, false, false, false, false, false, false, false, false, false, false] rfl rfl (any_of HT_.out (by kernel_rfl)) (fun _ _ _ h => h) (Or.inl ⟨by rfl, ?_⟩) ?_ ?_
                                rotate_left
                                · intro w'
                                  go_simp
                                  with_reducible rfl
                                rotate_left
                                · simp only [Act.put, List.setIfInBounds_toArray, List.set_cons_zero, List.set_cons_succ, i64_w, i32_w]
                                  rfl
                                refine pure_ (i := 1) (N := some 73) (v := ?_) (a' := ?_) #[true, true, false, false, false, false, false, false, false, false, false, false, false, false, false, false, false, false, false, false, false] rfl rfl (any_of HT_.out (by kernel_rfl)) (fun _ _ _ h => h) (Or.inl ⟨by rfl, ?_⟩) ?_ ?_
                                rotate_left
                                · intro w'
                                  go_simp
                                  with_reducible rfl
                                rotate_left
                                · simp only [Act.put, List.setIfInBounds_toArray, List.set_cons_zero, List.set_cons_succ, i64_w, i32_w]
                                  rfl
                                refine pure_ (i := 2) (N := some 74) (v := ?_) (a' := ?_) #[true, true, true, false, false, false, false, false, false, false, false, false, false, false, false, false, false, false, false, false, false] rfl rfl (any_of HT_.out (by kernel_rfl)) (fun _ _ _ h => h) (Or.inl ⟨by rfl, ?_⟩) ?_ ?_
                                rotate_left
                                · intro w'
                                  go_simp
                                  with_reducible rfl
                                rotate_left
                                · simp only [Act.put, List.setIfInBounds_toArray, List.set_cons_zero, List.set_cons_succ, i64_w, i32_w]
                                  rfl
                                refine pure_ (i := 4) (N := some 76) (v := ?_) (a' := ?_) #[true, true, true, false, true, false, false, false, false, false, false, false, false, false, false, false, false, false, false, false, false] rfl rfl (any_of HT_.out (by kernel_rfl)) (fun _ _ _ h => h) (Or.inl ⟨by rfl, ?_⟩) ?_ ?_
                                rotate_left
                                · intro w'
                                  go_simp
                                  with_reducible rfl
                                rotate_left
                                · simp only [Act.put, List.setIfInBounds_toArray, List.set_cons_zero, List.set_cons_succ, i64_w, i32_w]
                                  rfl
                                refine pure_ (i := 5) (N := some 77) (v := ?_) (a' := ?_) #[true, true, true, false, true, true, false, false, false, false, false, false, false, false, false, false, false, false, false, false, false] rfl rfl (any_of HT_.out (by kernel_rfl)) (fun _ _ _ h => h) (Or.inl ⟨by rfl, ?_⟩) ?_ ?_
                                rotate_left
                                · intro w'
                                  go_simp
                                  with_reducible rfl
                                rotate_left
                                · simp only [Act.put, List.setIfInBounds_toArray, List.set_cons_zero, List.set_cons_succ, i64_w, i32_w]
                                  rfl
                                refine pure_ (i := 6) (N := some 78) (v := ?_) (a' := ?_) #[true, true, true, false, true, true, true, false, false, false, false, false, false, false, false, false, false, false, false, false, false] rfl rfl (any_of HT_.out (by kernel_rfl)) (fun _ _ _ h => h) (Or.inl ⟨by rfl, ?_⟩) ?_ ?_
                                rotate_left
                                · intro w'
                                  go_simp
                                  with_reducible rfl
                                rotate_left
                                · simp only [Act.put, List.setIfInBounds_toArray, List.set_cons_zero, List.set_cons_succ, i64_w, i32_w]
                                  rfl
                                refine take_ (i := 3) (N := some 75) (v := ?_) (a' := ?_) #[true, true, true, true, true, true, true, false, false, false, false, false, false, false, false, false, false, false, false, false, false] rfl rfl (take_ofW HT_.out HW_.out (by kernel_rfl)) (fun _ _ _ h => h) (Or.inl ⟨by rfl, ?_⟩) hHeld ?_ ?_
                                rotate_left
                                · rintro w' ⟨s0, s1, s2, s3, s4, s5, s6, s7, s8, s9, s10, s11, s12, s13, s14, s15⟩
                                  go_simp
                                  with_reducible rfl
                                rotate_left
                                · simp only [Act.put, List.setIfInBounds_toArray, List.set_cons_zero, List.set_cons_succ, i64_w, i32_w]
                                  rfl
                                refine take_ (i := 7) (N := some 79) (v := ?_) (a' := ?_) #[true, true, true, true, true, true, true, true, false, false, false, false, false, false, false, false, false, false, false, false, false] rfl rfl (take_ofW HT_.out HW_.out (by kernel_rfl)) (fun _ _ _ h => h) (Or.inl ⟨by rfl, ?_⟩) hHeld ?_ ?_
                                rotate_left
                                · rintro w' ⟨s0, s1, s2, s3, s4, s5, s6, s7, s8, s9, s10, s11, s12, s13, s14, s15⟩
                                  go_simp
                                  with_reducible rfl
                                rotate_left
                                · simp only [Act.put, List.setIfInBounds_toArray, List.set_cons_zero, List.set_cons_succ, i64_w, i32_w]
                                  rfl
                                refine pure_ (i := 8) (N := some 80) (v := ?_) (a' := ?_) #[true, true, true, true, true, true, true, true, true, false, false, false, false, false, false, false, false, false, false, false, false] rfl rfl (any_of HT_.out (by kernel_rfl)) (fun _ _ _ h => h) (Or.inl ⟨by rfl, ?_⟩) ?_ ?_
                                rotate_left
                                · intro w'
                                  go_simp
                                  with_reducible rfl
                                rotate_left
                                · simp only [Act.put, List.setIfInBounds_toArray, List.set_cons_zero, List.set_cons_succ, i64_w, i32_w]
                                  rfl
                                refine pure_ (i := 9) (N := some 81) (v := ?_) (a' := ?_) #[true, true, true, true, true, true, true, true, true, true, false, false, false, false, false, false, false, false, false, false, false] rfl rfl (any_of HT_.out (by kernel_rfl)) (fun _ _ _ h => h) (Or.inl ⟨by rfl, ?_⟩) ?_ ?_
                                rotate_left
                                · intro w'
                                  go_simp
                                  with_reducible rfl
                                rotate_left
                                · simp only [Act.put, List.setIfInBounds_toArray, List.set_cons_zero, List.set_cons_succ, i64_w, i32_w]
                                  rfl
                                refine pure_ (i := 10) (N := some 82) (v := ?_) (a' := ?_) #[true, true, true, true, true, true, true, true, true, true, true, false, false, false, false, false, false, false, false, false, false] rfl rfl (any_of HT_.out (by kernel_rfl)) (fun _ _ _ h => h) (Or.inl ⟨by rfl, ?_⟩) ?_ ?_
                                rotate_left
                                · intro w'
                                  go_simp
                                  with_reducible rfl
                                rotate_left
                                · simp only [Act.put, List.setIfInBounds_toArray, List.set_cons_zero, List.set_cons_succ, i64_w, i32_w]
                                  rfl
                                refine pure_ (i := 11) (N := some 83) (v := ?_) (a' := ?_) #[true, true, true, true, true, true, true, true, true, true, true, true, false, false, false, false, false, false, false, false, false] rfl rfl (any_of HT_.out (by kernel_rfl)) (fun _ _ _ h => h) (Or.inl ⟨by rfl, ?_⟩) ?_ ?_
                                rotate_left
                                · intro w'
                                  go_simp
                                  with_reducible rfl
                                rotate_left
                                · simp only [Act.put, List.setIfInBounds_toArray, List.set_cons_zero, List.set_cons_succ, i64_w, i32_w]
                                  rfl
                                refine pure_ (i := 12) (N := some 84) (v := ?_) (a' := ?_) #[true, true, true, true, true, true, true, true, true, true, true, true, true, false, false, false, false, false, false, false, false] rfl rfl (any_of HT_.out (by kernel_rfl)) (fun _ _ _ h => h) (Or.inl ⟨by rfl, ?_⟩) ?_ ?_
                                rotate_left
                                · intro w'
                                  go_simp
                                  with_reducible rfl
                                rotate_left
                                · simp only [Act.put, List.setIfInBounds_toArray, List.set_cons_zero, List.set_cons_succ, i64_w, i32_w]
                                  rfl
                                refine pure_ (i := 14) (N := some 86) (v := ?_) (a' := ?_) #[true, true, true, true, true, true, true, true, true, true, true, true, true, false, true, false, false, false, false, false, false] rfl rfl (any_of HT_.out (by kernel_rfl)) (fun _ _ _ h => h) (Or.inl ⟨by rfl, ?_⟩) ?_ ?_
                                rotate_left
                                · intro w'
                                  go_simp
                                  with_reducible rfl
                                rotate_left
                                · simp only [Act.put, List.setIfInBounds_toArray, List.set_cons_zero, List.set_cons_succ, i64_w, i32_w]
                                  rfl
                                refine pure_ (i := 15) (N := some 87) (v := ?_) (a' := ?_) #[true, true, true, true, true, true, true, true, true, true, true, true, true, false, true, true, false, false, false, false, false] rfl rfl (any_of HT_.out (by kernel_rfl)) (fun _ _ _ h => h) (Or.inl ⟨by rfl, ?_⟩) ?_ ?_
                                rotate_left
                                · intro w'
                                  go_simp
                                  with_reducible rfl
                                rotate_left
                                · simp only [Act.put, List.setIfInBounds_toArray, List.set_cons_zero, List.set_cons_succ, i64_w, i32_w]
                                  rfl
                                refine pure_ (i := 16) (N := some 88) (v := ?_) (a' := ?_) #[true, true, true, true, true, true, true, true, true, true, true, true, true, false, true, true, true, false, false, false, false] rfl rfl (any_of HT_.out (by kernel_rfl)) (fun _ _ _ h => h) (Or.inl ⟨by rfl, ?_⟩) ?_ ?_
                                rotate_left
                                · intro w'
                                  go_simp
                                  with_reducible rfl
                                rotate_left
                                · simp only [Act.put, List.setIfInBounds_toArray, List.set_cons_zero, List.set_cons_succ, i64_w, i32_w]
                                  rfl
                                refine take_ (i := 13) (N := some 85) (v := ?_) (a' := ?_) #[true, true, true, true, true, true, true, true, true, true, true, true, true, true, true, true, true, false, false, false, false] rfl rfl (take_ofW HT_.out HW_.out (by kernel_rfl)) (fun _ _ _ h => h) (Or.inl ⟨by rfl, ?_⟩) hHeld ?_ ?_
                                rotate_left
                                · rintro w' ⟨s0, s1, s2, s3, s4, s5, s6, s7, s8, s9, s10, s11, s12, s13, s14, s15⟩
                                  go_simp
                                  with_reducible rfl
                                rotate_left
                                · simp only [Act.put, List.setIfInBounds_toArray, List.set_cons_zero, List.set_cons_succ, i64_w, i32_w]
                                  rfl
                                refine take_ (i := 17) (N := some 89) (v := ?_) (a' := ?_) #[true, true, true, true, true, true, true, true, true, true, true, true, true, true, true, true, true, true, false, false, false] rfl rfl (take_ofW HT_.out HW_.out (by kernel_rfl)) (fun _ _ _ h => h) (Or.inl ⟨by rfl, ?_⟩) hHeld ?_ ?_
                                rotate_left
                                · rintro w' ⟨s0, s1, s2, s3, s4, s5, s6, s7, s8, s9, s10, s11, s12, s13, s14, s15⟩
                                  go_simp
                                  with_reducible rfl
                                rotate_left
                                · simp only [Act.put, List.setIfInBounds_toArray, List.set_cons_zero, List.set_cons_succ, i64_w, i32_w]
                                  rfl
                                refine pure_ (i := 18) (N := some 90) (v := ?_) (a' := ?_) #[true, true, true, true, true, true, true, true, true, true, true, true, true, true, true, true, true, true, true, false, false] rfl rfl (any_of HT_.out (by kernel_rfl)) (fun _ _ _ h => h) (Or.inl ⟨by rfl, ?_⟩) ?_ ?_
                                rotate_left
                                · intro w'
                                  go_simp
                                  with_reducible rfl
                                rotate_left
                                · simp only [Act.put, List.setIfInBounds_toArray, List.set_cons_zero, List.set_cons_succ, i64_w, i32_w]
                                  rfl
                                refine pure_ (i := 19) (N := some 91) (v := ?_) (a' := ?_) #[true, true, true, true, true, true, true, true, true, true, true, true, true, true, true, true, true, true, true, true, false] rfl rfl (any_of HT_.out (by kernel_rfl)) (fun _ _ _ h => h) (Or.inl ⟨by rfl, ?_⟩) ?_ ?_
                                rotate_left
                                · intro w'
                                  go_simp
                                  with_reducible rfl
                                rotate_left
                                · simp only [Act.put, List.setIfInBounds_toArray, List.set_cons_zero, List.set_cons_succ, i64_w, i32_w]
                                  rfl
                                refine pure_ (i := 20) (N := some 71) (v := ?_) (a' := ?_) #[true, true, true, true, true, true, true, true, true, true, true, true, true, true, true, true, true, true, true, true, true] rfl rfl (any_of HT_.out (by kernel_rfl)) (fun _ _ _ h => h) (Or.inl ⟨by rfl, ?_⟩) ?_ ?_
                                rotate_left
                                · intro w'
                                  go_simp
                                  with_reducible rfl
                                rotate_left
                                · simp only [Act.put, List.setIfInBounds_toArray, List.set_cons_zero, List.set_cons_succ, i64_w, i32_w]
                                  rfl
                                refine done_ (done_of HT_.out (by kernel_rfl)) ?_
                                try go_wp2
                                go_meet
                                case rel => exact ⟨_, ((((rd_T56 x0_1 0).f3).toList != ((rd_T56 x1_1 0).f3).toList)), (by first | rfl | (simp; done) | (simp [*]; done)), H', ⟨by have := HK1.out; have := HJ8.out; have := HJ14.out; first | omega | exact Nat.le_refl _⟩, ⟨by (with_reducible repeat (first | apply Kd.V_alloc | apply Kd.V_drewN | apply Kd.V_drew)); exact HO_0.out⟩, ⟨by (with_reducible repeat (first | apply Kd.V_alloc | apply Kd.V_drewN | apply Kd.V_drew)); exact HO_1.out⟩, ⟨by (with_reducible repeat (first | apply Kd.R_alloc | apply Kd.R_drewN | apply Kd.R_drew)); exact HO_8.out⟩, ⟨by repeat (first | (with_reducible first | exact HB.out | apply below_alloc | apply pw_below_drewN | apply below_drew1) | exact HB.out)⟩⟩
                              · rw [if_neg c45] at H
                                have c45b0 : (((rd_T56 x0_1 0).f2) == ((rd_T56 x1_1 0).f2)) = false := beq_eq_false_iff_ne.mpr c45
                                have c45b1 : (((rd_T56 x0_1 0).f2) != ((rd_T56 x1_1 0).f2)) = true := bne_iff_ne.mpr c45
                                have H' := Aside0.mk H
                                clear H
                                try go_wp2
                                have n0_ := Aside0.mk (Kd.V_drew HO_0.out)
                                have n1_ := Aside0.mk (Kd.V_drew HO_1.out)
                                have n2_ := Aside0.mk (Kd.R_drew HO_8.out)
                                have n3_ := Aside0.mk (below_drew1 HB.out)
                                clear HO_0
                                clear HO_1
                                clear HO_8
                                clear HB
                                have HO_0 := n0_
                                have HO_1 := n1_
                                have HO_8 := n2_
                                have HB := n3_
                                clear n0_ n1_ n2_ n3_
                                obtain ⟨Ao50, co50, eo50⟩ := Kd.V_slice HO_0.out
                                (first | subst eo50 | (injection eo50 with f1_ f2_ f3_; have f4_ := f1_.symm; have f5_ := f3_.symm; clear f1_ f2_ f3_; subst f4_; subst f5_))
                                have p382 : 0 ≤ (0 : Int) := (by omega)
                                have q382 : 0 < (x0_1.length : Int) := of_decide_eq_true (by first | (with_reducible assumption) | assumption)
                                obtain ⟨ad382, e382, hx382_0, hx382_1, hx382_2, hx382_3⟩ := at_T56 (Kd.V_reads' HO_0.out).2.2 0 p382 q382
                                cases e382
                                have qi382 : (0 < x0_1.length) = True := eq_true (by omega)
                                (try rw [show ((0 : Int)).toNat = 0 from rfl] at hx382_0)
                                (try rw [show 0 * 4 = 0 from rfl] at hx382_0)
                                (try rw [Addr.add_zero'] at hx382_0)
                                (try rw [show ((0 : Int)).toNat = 0 from rfl] at hx382_1)
                                (try rw [show 0 * 4 = 0 from rfl] at hx382_1)
                                (try rw [Addr.add_zero'] at hx382_1)
                                (try rw [show ((0 : Int)).toNat = 0 from rfl] at hx382_2)
                                (try rw [show 0 * 4 = 0 from rfl] at hx382_2)
                                (try rw [Addr.add_zero'] at hx382_2)
                                (try rw [show ((0 : Int)).toNat = 0 from rfl] at hx382_3)
                                (try rw [show 0 * 4 = 0 from rfl] at hx382_3)
                                (try rw [Addr.add_zero'] at hx382_3)
                                replace p382 := eq_true p382
                                replace q382 := eq_true q382
                                obtain ⟨Ao51, co51, eo51⟩ := Kd.V_slice HO_1.out
                                (first | subst eo51 | (injection eo51 with f1_ f2_ f3_; have f4_ := f1_.symm; have f5_ := f3_.symm; clear f1_ f2_ f3_; subst f4_; subst f5_))
                                have p383 : 0 ≤ (0 : Int) := (by omega)
                                have q383 : 0 < (x1_1.length : Int) := of_decide_eq_true (by first | (with_reducible assumption) | assumption)
                                obtain ⟨ad383, e383, hx383_0, hx383_1, hx383_2, hx383_3⟩ := at_T56 (Kd.V_reads' HO_1.out).2.2 0 p383 q383
                                cases e383
                                have qi383 : (0 < x1_1.length) = True := eq_true (by omega)
                                (try rw [show ((0 : Int)).toNat = 0 from rfl] at hx383_0)
                                (try rw [show 0 * 4 = 0 from rfl] at hx383_0)
                                (try rw [Addr.add_zero'] at hx383_0)
                                (try rw [show ((0 : Int)).toNat = 0 from rfl] at hx383_1)
                                (try rw [show 0 * 4 = 0 from rfl] at hx383_1)
                                (try rw [Addr.add_zero'] at hx383_1)
                                (try rw [show ((0 : Int)).toNat = 0 from rfl] at hx383_2)
                                (try rw [show 0 * 4 = 0 from rfl] at hx383_2)
                                (try rw [Addr.add_zero'] at hx383_2)
                                (try rw [show ((0 : Int)).toNat = 0 from rfl] at hx383_3)
                                (try rw [show 0 * 4 = 0 from rfl] at hx383_3)
                                (try rw [Addr.add_zero'] at hx383_3)
                                replace p383 := eq_true p383
                                replace q383 := eq_true q383
                                refine start_ (n := 21) (S := fun w' => w'.cell? ad382 = some (.string ((rd_T56 x0_1 0).f0)) ∧ w'.cell? ⟨ad382.block, ad382.off + 1, none⟩ = some (.int .i64 ((rd_T56 x0_1 0).f1)) ∧ w'.cell? ⟨ad382.block, ad382.off + 2, none⟩ = some (.int .i64 ((rd_T56 x0_1 0).f2)) ∧ w'.cell? ⟨ad382.block, ad382.off + 3, none⟩ = some (.string ((rd_T56 x0_1 0).f3)) ∧ w'.cell? ad383 = some (.string ((rd_T56 x1_1 0).f0)) ∧ w'.cell? ⟨ad383.block, ad383.off + 1, none⟩ = some (.int .i64 ((rd_T56 x1_1 0).f1)) ∧ w'.cell? ⟨ad383.block, ad383.off + 2, none⟩ = some (.int .i64 ((rd_T56 x1_1 0).f2)) ∧ w'.cell? ⟨ad383.block, ad383.off + 3, none⟩ = some (.string ((rd_T56 x1_1 0).f3))) (ds := []) #[false, false, false, false, false, false, false, false, false, false, false, false, false, false, false, false, false, false, false, false, false] (by kernel_rfl) rfl rfl ⟨hx382_0, hx382_1, hx382_2, hx382_3, hx383_0, hx383_1, hx383_2, hx383_3⟩ (fun hHeld => ?_); refine with_tabW tree_Between.tab21 tree_Between.bits21 (fun HT_ HW_ => ?_)
                                generalize wc.drew = w49 at HO_0 HO_1 HO_8 HB hx382_0 hx382_1 hx382_2 hx382_3 hx383_0 hx383_1 hx383_2 hx383_3 hHeld ⊢
                                refine pure_ (i := 0) (N := some 72) (v := ?_) (a' := ?_) #[true, false, false, false, false, false, false, false, false, false, false, false, false, false, false, false, false, false, false, false, false] rfl rfl (any_of HT_.out (by kernel_rfl)) (fun _ _ _ h => h) (Or.inl ⟨by rfl, ?_⟩) ?_ ?_
                                rotate_left
                                · intro w'
                                  go_simp
                                  with_reducible rfl
                                rotate_left
                                · simp only [Act.put, List.setIfInBounds_toArray, List.set_cons_zero, List.set_cons_succ, i64_w, i32_w]
                                  rfl
                                refine pure_ (i := 1) (N := some 73) (v := ?_) (a' := ?_) #[true, true, false, false, false, false, false, false, false, false, false, false, false, false, false, false, false, false, false, false, false] rfl rfl (any_of HT_.out (by kernel_rfl)) (fun _ _ _ h => h) (Or.inl ⟨by rfl, ?_⟩) ?_ ?_
                                rotate_left
                                · intro w'
                                  go_simp
                                  with_reducible rfl
                                rotate_left
                                · simp only [Act.put, List.setIfInBounds_toArray, List.set_cons_zero, List.set_cons_succ, i64_w, i32_w]
                                  rfl
                                refine pure_ (i := 2) (N := some 74) (v := ?_) (a' := ?_) #[true, true, true, false, false, false, false, false, false, false, false, false, false, false, false, false, false, false, false, false, false] rfl rfl (any_of HT_.out (by kernel_rfl)) (fun _ _ _ h => h) (Or.inl ⟨by rfl, ?_⟩) ?_ ?_
                                rotate_left
                                · intro w'
                                  go_simp
                                  with_reducible rfl
                                rotate_left
                                · simp only [Act.put, List.setIfInBounds_toArray, List.set_cons_zero, List.set_cons_succ, i64_w, i32_w]
                                  rfl
                                refine pure_ (i := 4) (N := some 76) (v := ?_) (a' := ?_) #[true, true, true, false, true, false, false, false, false, false, false, false, false, false, false, false, false, false, false, false, false] rfl rfl (any_of HT_.out (by kernel_rfl)) (fun _ _ _ h => h) (Or.inl ⟨by rfl, ?_⟩) ?_ ?_
                                rotate_left
                                · intro w'
                                  go_simp
                                  with_reducible rfl
                                rotate_left
                                · simp only [Act.put, List.setIfInBounds_toArray, List.set_cons_zero, List.set_cons_succ, i64_w, i32_w]
                                  rfl
                                refine pure_ (i := 5) (N := some 77) (v := ?_) (a' := ?_) #[true, true, true, false, true, true, false, false, false, false, false, false, false, false, false, false, false, false, false, false, false] rfl rfl (any_of HT_.out (by kernel_rfl)) (fun _ _ _ h => h) (Or.inl ⟨by rfl, ?_⟩) ?_ ?_
                                rotate_left
                                · intro w'
                                  go_simp
                                  with_reducible rfl
                                rotate_left
                                · simp only [Act.put, List.setIfInBounds_toArray, List.set_cons_zero, List.set_cons_succ, i64_w, i32_w]
                                  rfl
                                refine pure_ (i := 6) (N := some 78) (v := ?_) (a' := ?_) #[true, true, true, false, true, true, true, false, false, false, false, false, false, false, false, false, false, false, false, false, false] rfl rfl (any_of HT_.out (by kernel_rfl)) (fun _ _ _ h => h) (Or.inl ⟨by rfl, ?_⟩) ?_ ?_
                                rotate_left
                                · intro w'
                                  go_simp
                                  with_reducible rfl
                                rotate_left
                                · simp only [Act.put, List.setIfInBounds_toArray, List.set_cons_zero, List.set_cons_succ, i64_w, i32_w]
                                  rfl
                                refine take_ (i := 3) (N := some 75) (v := ?_) (a' := ?_) #[true, true, true, true, true, true, true, false, false, false, false, false, false, false, false, false, false, false, false, false, false] rfl rfl (take_ofW HT_.out HW_.out (by kernel_rfl)) (fun _ _ _ h => h) (Or.inl ⟨by rfl, ?_⟩) hHeld ?_ ?_
                                rotate_left
                                · rintro w' ⟨s0, s1, s2, s3, s4, s5, s6, s7⟩
                                  go_simp
                                  with_reducible rfl
                                rotate_left
                                · simp only [Act.put, List.setIfInBounds_toArray, List.set_cons_zero, List.set_cons_succ, i64_w, i32_w]
                                  rfl
                                refine take_ (i := 7) (N := some 79) (v := ?_) (a' := ?_) #[true, true, true, true, true, true, true, true, false, false, false, false, false, false, false, false, false, false, false, false, false] rfl rfl (take_ofW HT_.out HW_.out (by kernel_rfl)) (fun _ _ _ h => h) (Or.inl ⟨by rfl, ?_⟩) hHeld ?_ ?_
                                rotate_left
                                · rintro w' ⟨s0, s1, s2, s3, s4, s5, s6, s7⟩
                                  go_simp
                                  with_reducible rfl
                                rotate_left
                                · simp only [Act.put, List.setIfInBounds_toArray, List.set_cons_zero, List.set_cons_succ, i64_w, i32_w]
                                  rfl
                                refine pure_ (i := 8) (N := some 80) (v := ?_) (a' := ?_) #[true, true, true, true, true, true, true, true, true, false, false, false, false, false, false, false, false, false, false, false, false] rfl rfl (any_of HT_.out (by kernel_rfl)) (fun _ _ _ h => h) (Or.inl ⟨by rfl, ?_⟩) ?_ ?_
                                rotate_left
                                · intro w'
                                  go_simp
                                  with_reducible rfl
                                rotate_left
                                · simp only [Act.put, List.setIfInBounds_toArray, List.set_cons_zero, List.set_cons_succ, i64_w, i32_w]
                                  rfl
                                refine pure_ (i := 9) (N := some 81) (v := ?_) (a' := ?_) #[true, true, true, true, true, true, true, true, true, true, false, false, false, false, false, false, false, false, false, false, false] rfl rfl (any_of HT_.out (by kernel_rfl)) (fun _ _ _ h => h) (Or.inl ⟨by rfl, ?_⟩) ?_ ?_
                                rotate_left
                                · intro w'
                                  go_simp
                                  with_reducible rfl
                                rotate_left
                                · simp only [Act.put, List.setIfInBounds_toArray, List.set_cons_zero, List.set_cons_succ, i64_w, i32_w]
                                  rfl
                                refine pure_ (i := 10) (N := some 82) (v := undef) (a' := ?_) #[true, true, true, true, true, true, true, true, true, true, true, false, false, false, false, false, false, false, false, false, false] rfl rfl (any_of HT_.out (by kernel_rfl)) (fun _ _ _ h => h) (Or.inr ⟨by rfl, rfl⟩) ?_ ?_
                                rotate_left
                                · simp only [Act.put, List.setIfInBounds_toArray, List.set_cons_zero, List.set_cons_succ, i64_w, i32_w]
                                  rfl
                                refine pure_ (i := 11) (N := some 83) (v := undef) (a' := ?_) #[true, true, true, true, true, true, true, true, true, true, true, true, false, false, false, false, false, false, false, false, false] rfl rfl (any_of HT_.out (by kernel_rfl)) (fun _ _ _ h => h) (Or.inr ⟨by rfl, rfl⟩) ?_ ?_
                                rotate_left
                                · simp only [Act.put, List.setIfInBounds_toArray, List.set_cons_zero, List.set_cons_succ, i64_w, i32_w]
                                  rfl
                                refine pure_ (i := 12) (N := some 84) (v := undef) (a' := ?_) #[true, true, true, true, true, true, true, true, true, true, true, true, true, false, false, false, false, false, false, false, false] rfl rfl (any_of HT_.out (by kernel_rfl)) (fun _ _ _ h => h) (Or.inr ⟨by rfl, rfl⟩) ?_ ?_
                                rotate_left
                                · simp only [Act.put, List.setIfInBounds_toArray, List.set_cons_zero, List.set_cons_succ, i64_w, i32_w]
                                  rfl
                                refine pure_ (i := 13) (N := some 85) (v := undef) (a' := ?_) #[true, true, true, true, true, true, true, true, true, true, true, true, true, true, false, false, false, false, false, false, false] rfl rfl (any_of HT_.out (by kernel_rfl)) (fun _ _ _ h => h) (Or.inr ⟨by rfl, rfl⟩) ?_ ?_
                                rotate_left
                                · simp only [Act.put, List.setIfInBounds_toArray, List.set_cons_zero, List.set_cons_succ, i64_w, i32_w]
                                  rfl
                                refine pure_ (i := 14) (N := some 86) (v := undef) (a' := ?_) #[true, true, true, true, true, true, true, true, true, true, true, true, true, true, true, false, false, false, false, false, false] rfl rfl (any_of HT_.out (by kernel_rfl)) (fun _ _ _ h => h) (Or.inr ⟨by rfl, rfl⟩) ?_ ?_
                                rotate_left
                                · simp only [Act.put, List.setIfInBounds_toArray, List.set_cons_zero, List.set_cons_succ, i64_w, i32_w]
                                  rfl
                                refine pure_ (i := 15) (N := some 87) (v := undef) (a' := ?_) #[true, true, true, true, true, true, true, true, true, true, true, true, true, true, true, true, false, false, false, false, false] rfl rfl (any_of HT_.out (by kernel_rfl)) (fun _ _ _ h => h) (Or.inr ⟨by rfl, rfl⟩) ?_ ?_
                                rotate_left
                                · simp only [Act.put, List.setIfInBounds_toArray, List.set_cons_zero, List.set_cons_succ, i64_w, i32_w]
                                  rfl
                                refine pure_ (i := 16) (N := some 88) (v := undef) (a' := ?_) #[true, true, true, true, true, true, true, true, true, true, true, true, true, true, true, true, true, false, false, false, false] rfl rfl (any_of HT_.out (by kernel_rfl)) (fun _ _ _ h => h) (Or.inr ⟨by rfl, rfl⟩) ?_ ?_
                                rotate_left
                                · simp only [Act.put, List.setIfInBounds_toArray, List.set_cons_zero, List.set_cons_succ, i64_w, i32_w]
                                  rfl
                                refine pure_ (i := 17) (N := some 89) (v := undef) (a' := ?_) #[true, true, true, true, true, true, true, true, true, true, true, true, true, true, true, true, true, true, false, false, false] rfl rfl (any_of HT_.out (by kernel_rfl)) (fun _ _ _ h => h) (Or.inr ⟨by rfl, rfl⟩) ?_ ?_
                                rotate_left
                                · simp only [Act.put, List.setIfInBounds_toArray, List.set_cons_zero, List.set_cons_succ, i64_w, i32_w]
                                  rfl
                                refine pure_ (i := 18) (N := some 90) (v := undef) (a' := ?_) #[true, true, true, true, true, true, true, true, true, true, true, true, true, true, true, true, true, true, true, false, false] rfl rfl (any_of HT_.out (by kernel_rfl)) (fun _ _ _ h => h) (Or.inr ⟨by rfl, rfl⟩) ?_ ?_
                                rotate_left
                                · simp only [Act.put, List.setIfInBounds_toArray, List.set_cons_zero, List.set_cons_succ, i64_w, i32_w]
                                  rfl
                                refine pure_ (i := 19) (N := some 91) (v := ?_) (a' := ?_) #[true, true, true, true, true, true, true, true, true, true, true, true, true, true, true, true, true, true, true, true, false] rfl rfl (any_of HT_.out (by kernel_rfl)) (fun _ _ _ h => h) (Or.inl ⟨by rfl, ?_⟩) ?_ ?_
                                rotate_left
                                · intro w'
                                  go_simp
                                  with_reducible rfl
                                rotate_left
                                · simp only [Act.put, List.setIfInBounds_toArray, List.set_cons_zero, List.set_cons_succ, i64_w, i32_w]
                                  rfl
                                refine pure_ (i := 20) (N := some 71) (v := ?_) (a' := ?_) #[true, true, true, true, true, true, true, true, true, true, true, true, true, true, true, true, true, true, true, true, true] rfl rfl (any_of HT_.out (by kernel_rfl)) (fun _ _ _ h => h) (Or.inl ⟨by rfl, ?_⟩) ?_ ?_
                                rotate_left
                                · intro w'
                                  go_simp
                                  with_reducible rfl
                                rotate_left
                                · simp only [Act.put, List.setIfInBounds_toArray, List.set_cons_zero, List.set_cons_succ, i64_w, i32_w]
                                  rfl
                                refine done_ (done_of HT_.out (by kernel_rfl)) ?_
                                try go_wp2
                                go_meet
                                case rel => exact ⟨_, (true), (by first | rfl | (simp; done) | (simp [*]; done)), H', ⟨by have := HK1.out; have := HJ8.out; have := HJ14.out; first | omega | exact Nat.le_refl _⟩, ⟨by (with_reducible repeat (first | apply Kd.V_alloc | apply Kd.V_drewN | apply Kd.V_drew)); exact HO_0.out⟩, ⟨by (with_reducible repeat (first | apply Kd.V_alloc | apply Kd.V_drewN | apply Kd.V_drew)); exact HO_1.out⟩, ⟨by (with_reducible repeat (first | apply Kd.R_alloc | apply Kd.R_drewN | apply Kd.R_drew)); exact HO_8.out⟩, ⟨by repeat (first | (with_reducible first | exact HB.out | apply below_alloc | apply pw_below_drewN | apply below_drew1) | exact HB.out)⟩⟩
                            · rw [if_neg c44] at H
                              exact absurd H (by simp)
                          · rw [if_neg c43] at H
                            exact absurd H (by simp)
                        case rest =>
                          clear HC42
                          try clear c1
                          try clear c2
                          try clear p2
                          try clear c3
                          try clear p3
                          try clear q3
                          try clear hx3
                          try clear qi3
                          try clear c4
                          try clear q4
                          try clear c28
                          try clear c28b0
                          try clear c29
                          try clear c30
                          try clear c31
                          try clear c34
                          try clear q34
                          try clear c35
                          try clear c35b0
                          try clear c36
                          try clear c36b0
                          try clear c36b1
                          try clear p36
                          try clear q36
                          try clear hx36
                          try clear qi36
                          try clear c37
                          try clear p37
                          try clear q37
                          try clear hx37
                          try clear qi37
                          try clear c38
                          try clear c38b0
                          try clear c38b1
                          try clear p38
                          try clear q38
                          try clear hx38
                          try clear qi38
                          try clear c41
                          try clear q41
                          try clear c43
                          try clear c43b0
                          try clear c43b1
                          try clear c44
                          try clear c44b0
                          try clear c44b1
                          try clear c45
                          try clear c45b0
                          try clear c45b1
                          try clear hx364_0
                          try clear hx364_1
                          try clear hx364_2
                          try clear hx364_3
                          try clear hx373_0
                          try clear hx373_1
                          try clear hx373_2
                          try clear hx373_3
                          try clear hx382_0
                          try clear hx382_1
                          try clear hx382_2
                          try clear hx382_3
                          try clear hx383_0
                          try clear hx383_1
                          try clear hx383_2
                          try clear hx383_3
                          try clear hx384_0
                          try clear hx384_1
                          try clear hx384_2
                          try clear hx384_3
                          try clear hx385_0
                          try clear hx385_1
                          try clear hx385_2
                          try clear hx385_3
                          try clear p364
                          try clear p373
                          try clear p382
                          try clear p383
                          try clear p384
                          try clear p385
                          try clear q34
                          try clear q364
                          try clear q373
                          try clear q382
                          try clear q383
                          try clear q384
                          try clear q385
                          try clear q41
                          obtain ⟨kq, x71_41, rfl, HA, HJ41, HO_0, HO_1, HO_8, HB⟩ := hcut
                          cases kq with
                          | zero => exact absurd HA.out (by simp [tree_Between.j3])
                          | succ kj41 =>
                            have H := HA.out
                            clear HA
                            simp only [tree_Between.j3] at H
                            by_cases c52 : x71_41 = true
                            · subst c52
                              have H1 : (if 0 < (x0_1.length : Int) then (if x8_1.length < 5864062014805 then (if 1 ≤ (x0_1.length : Int) then (if 1 ≤ (x1_1.length : Int) then (tree_Between.l0 kj41 (x0_1.drop 1) (x1_1.drop 1) (x8_1 ++ [(⟨3, (rd_T56 x0_1 0).f0⟩ : S44)])) else (none)) else (none)) else (none)) else (none)) = some (r1, r2) := by rw [if_pos rfl] at H; exact H
                              clear H
                              have H := H1
                              clear H1
                              by_cases c53 : 0 < (x0_1.length : Int)
                              · rw [if_pos c53] at H
                                have c53b0 : decide (0 < (x0_1.length : Int)) = true := decide_eq_true c53
                                have c53b1 : decide (0 < x0_1.length) = true := decide_eq_true (by omega)
                                clear c53
                                by_cases c54 : x8_1.length < 5864062014805
                                · rw [if_pos c54] at H
                                  have LMc54 := Aside0.mk c54
                                  clear c54
                                  obtain ⟨y387, hy387⟩ : ∃ y_ : List (S44), y_ = (x8_1 ++ [(⟨3, (rd_T56 x0_1 0).f0⟩ : S44)]) := ⟨_, rfl⟩
                                  replace H : (if 1 ≤ (x0_1.length : Int) then (if 1 ≤ (x1_1.length : Int) then (tree_Between.l0 kj41 (x0_1.drop 1) (x1_1.drop 1) y387) else (none)) else (none)) = some (r1, r2) := by first | (rw [hy387]; with_reducible exact H) | (have H2_ := (Option.bind_some _ _).symm.trans H; rw [hy387]; with_reducible exact H2_) | (have H2_ := (Option.bind_some _ _).symm.trans H; with_reducible exact H2_) | with_reducible exact H | (rw [hy387]; exact H) | exact H
                                  have Ny387 := Aside0.mk hy387
                                  clear hy387
                                  by_cases c55 : 1 ≤ (x0_1.length : Int)
                                  · rw [if_pos c55] at H
                                    have c55b0 := eq_true c55
                                    have c55b1 : decide (1 ≤ (x0_1.length : Int)) = true := decide_eq_true c55
                                    clear c55
                                    obtain ⟨y390, hy390⟩ : ∃ y_ : List (S56), y_ = (x0_1.drop 1) := ⟨_, rfl⟩
                                    replace H : (if 1 ≤ (x1_1.length : Int) then (tree_Between.l0 kj41 y390 (x1_1.drop 1) y387) else (none)) = some (r1, r2) := by first | (rw [hy390]; with_reducible exact H) | (have H2_ := (Option.bind_some _ _).symm.trans H; rw [hy390]; with_reducible exact H2_) | (have H2_ := (Option.bind_some _ _).symm.trans H; with_reducible exact H2_) | with_reducible exact H | (rw [hy390]; exact H) | exact H
                                    have Ny390 := Aside0.mk hy390
                                    clear hy390
                                    by_cases c56 : 1 ≤ (x1_1.length : Int)
                                    · rw [if_pos c56] at H
                                      have c56b0 := eq_true c56
                                      have c56b1 : decide (1 ≤ (x1_1.length : Int)) = true := decide_eq_true c56
                                      clear c56
                                      obtain ⟨y395, hy395⟩ : ∃ y_ : List (S56), y_ = (x1_1.drop 1) := ⟨_, rfl⟩
                                      replace H : (tree_Between.l0 kj41 y390 y395 y387) = some (r1, r2) := by first | (rw [hy395]; with_reducible exact H) | (have H2_ := (Option.bind_some _ _).symm.trans H; rw [hy395]; with_reducible exact H2_) | (have H2_ := (Option.bind_some _ _).symm.trans H; with_reducible exact H2_) | with_reducible exact H | (rw [hy395]; exact H) | exact H
                                      have Ny395 := Aside0.mk hy395
                                      clear hy395
                                      have H' := Aside0.mk H
                                      clear H
                                      obtain ⟨Ao57, co57, eo57⟩ := Kd.V_slice HO_0.out
                                      subst eo57
                                      have p386 : 0 ≤ (0 : Int) := (by omega)
                                      have q386 : 0 < (x0_1.length : Int) := of_decide_eq_true (by first | (with_reducible assumption) | assumption)
                                      obtain ⟨ad386, e386, hx386_0, hx386_1, hx386_2, hx386_3⟩ := at_T56 (Kd.V_reads' HO_0.out).2.2 0 p386 q386
                                      cases e386
                                      have qi386 : (0 < x0_1.length) = True := eq_true (by omega)
                                      (try rw [show ((0 : Int)).toNat = 0 from rfl] at hx386_0)
                                      (try rw [show 0 * 4 = 0 from rfl] at hx386_0)
                                      (try rw [Addr.add_zero'] at hx386_0)
                                      (try rw [show ((0 : Int)).toNat = 0 from rfl] at hx386_1)
                                      (try rw [show 0 * 4 = 0 from rfl] at hx386_1)
                                      (try rw [Addr.add_zero'] at hx386_1)
                                      (try rw [show ((0 : Int)).toNat = 0 from rfl] at hx386_2)
                                      (try rw [show 0 * 4 = 0 from rfl] at hx386_2)
                                      (try rw [Addr.add_zero'] at hx386_2)
                                      (try rw [show ((0 : Int)).toNat = 0 from rfl] at hx386_3)
                                      (try rw [show 0 * 4 = 0 from rfl] at hx386_3)
                                      (try rw [Addr.add_zero'] at hx386_3)
                                      replace p386 := eq_true p386
                                      replace q386 := eq_true q386
                                      try go_wp2_with (first | ((with_reducible refine gate_builtin (b := .append) (xs := #[.tmp 92, .tmp 98]) rfl ?_); (try (refine gate_guard (by rfl) ?_; dsimp only)); at_builtin; refine Kd.R_append k44 (w0 := w) w.heap.size rfl (.tmp 92) (.tmp 98) 40 44 (.agg #[(.int .i64 0), (.string ⟨#[]⟩)]) 24 rfl Tryd.underlying40 info44 rfl (by decide) (by omega) u8 x8_1 (⟨3, (rd_T56 x0_1 0).f0⟩ : S44) [.int .i64 3, .string ((rd_T56 x0_1 0).f0)] (fun k_ => (w.heap.size ≤ k_)) (fun _ => False) rfl rfl ?aP (fun _ hk => hk.elim) ?aF ?aO ?aB ?aS ?aL ?_; (case aP => exact k44_mkM _ _ _ (⟨3, (rd_T56 x0_1 0).f0⟩ : S44)); (case aB => exact (by repeat (first | (with_reducible first | exact HB.out | apply below_alloc | apply pw_below_drewN | apply below_drew1) | exact HB.out))); (case aF => exact (fun k_ hk => (Nat.le_trans (below_size (by repeat (first | (with_reducible first | exact HB.out | apply below_alloc | apply pw_below_drewN | apply below_drew1) | exact HB.out))) hk))); (case aO => exact (by (with_reducible repeat (first | apply Kd.R_alloc | apply Kd.R_drewN | apply Kd.R_drew)); exact HO_8.out)); (case aS => exact (below_size (by repeat (first | (with_reducible first | exact HB.out | apply below_alloc | apply pw_below_drewN | apply below_drew1) | exact HB.out)))); (case aL => have := LMc54.out; omega); intro v388 w58 ho hb hg hat; rw [← Ny387.out] at ho; have n0_ := Aside0.mk (Kd.V_afterv (ok := (fun k_ => ((P0_ k_ ∨ P1_ k_) ∨ w.heap.size ≤ k_))) (by (with_reducible repeat (first | apply Kd.V_alloc | apply Kd.V_drewN | apply Kd.V_drew)); exact HO_0.out) hg hat); have n1_ := Aside0.mk (Kd.V_afterv (ok := (fun k_ => ((P0_ k_ ∨ P1_ k_) ∨ w.heap.size ≤ k_))) (by (with_reducible repeat (first | apply Kd.V_alloc | apply Kd.V_drewN | apply Kd.V_drew)); exact HO_1.out) hg hat); have n2_ := Aside0.mk (hb); have n3_ := Aside0.mk (ho); clear HO_0; clear HO_1; clear HB; clear HO_8; have HO_0 := n0_; have HO_1 := n1_; have HB := n2_; have HO389 := n3_; clear n0_ n1_ n2_ n3_; clear ho hb hg hat))
                                      have n0_ := Aside0.mk (Kd.V_drew HO_0.out)
                                      have n1_ := Aside0.mk (Kd.V_drew HO_1.out)
                                      have n2_ := Aside0.mk (Kd.R_drew HO389.out)
                                      have n3_ := Aside0.mk (below_drew1 HB.out)
                                      clear HO_0
                                      clear HO_1
                                      clear HO389
                                      clear HB
                                      have HO_0 := n0_
                                      have HO_1 := n1_
                                      have HO389 := n2_
                                      have HB := n3_
                                      clear n0_ n1_ n2_ n3_
                                      have q60 : (1 : Int) ≤ ((x0_1.length : Int) : Int) := of_decide_eq_true (by first | (with_reducible assumption) | assumption)
                                      obtain ⟨i060, hi060, _, hsz60, _⟩ := info_parts info56
                                      have hroom60 : x0_1.length ≤ co57 := (Kd.V_reads' HO_0.out).2.1
                                      have hC60 : Kd.F k56 _ _ (some ad386) x0_1.length x0_1 := (Kd.V_at (base := w.heap.size) HO_0.out).2.2
                                      have hcut60 := cut_from (P := Tryd.prog) 39 56 .i64 Tryd.underlying39 hi060 4 hsz60 (some ad386) x0_1.length co57 1 (by omega) q60
                                      have hr60 := Kd.F_cut (m := (1 : Int).toNat) (c := co57) hC60 (by omega) hroom60
                                      obtain ⟨A60, hA60⟩ : ∃ A1, A1 = (if co57 = (1 : Int).toNat then (some ad386) else ((some ad386) : Option Addr).map (·.add ((1 : Int).toNat * 4))) := ⟨_, rfl⟩
                                      obtain ⟨c60, hc60⟩ : ∃ c1, c1 = co57 - (1 : Int).toNat := ⟨_, rfl⟩
                                      have hy60 : y390.length = x0_1.length - (1 : Int).toNat := (by rw [Ny390.out, List.length_drop] <;> omega)
                                      rw [show (x0_1).drop (1 : Int).toNat = y390 from Ny390.out.symm] at hr60
                                      replace hr60 : Kd.F k56 _ _ A60 y390.length y390 := (by rw [hA60]; exact hr60)
                                      rw [← hy60, ← hA60, ← hc60] at hcut60
                                      have HO394 := Aside0.mk (show Kd.V k56 56 _ w.heap.size _ (.slice A60 y390.length c60) y390 from Kd.V_mk (by rw [hy60, hc60]; exact Nat.sub_le_sub_right hroom60 _) hr60)
                                      have HC394 := Aside0.mk (show y390.length ≤ c60 from by rw [hy60, hc60]; exact Nat.sub_le_sub_right hroom60 _)
                                      clear hr60 hC60 hroom60 hi060 hsz60 hc60
                                      have KY60 := Aside0.mk hy60
                                      have KA60 := Aside0.mk hA60
                                      clear hy60 hA60
                                      replace q60 := eq_true q60
                                      obtain ⟨Ao62, co62, eo62⟩ := Kd.V_slice HO_1.out
                                      (first | subst eo62 | (injection eo62 with f1_ f2_ f3_; have f4_ := f1_.symm; have f5_ := f3_.symm; clear f1_ f2_ f3_; subst f4_; subst f5_))
                                      have q61 : (1 : Int) ≤ ((x1_1.length : Int) : Int) := of_decide_eq_true (by first | (with_reducible assumption) | assumption)
                                      obtain ⟨i061, hi061, _, hsz61, _⟩ := info_parts info56
                                      have hroom61 : x1_1.length ≤ co62 := (Kd.V_reads' HO_1.out).2.1
                                      have hC61 : Kd.F k56 _ _ Ao62 x1_1.length x1_1 := (Kd.V_at (base := w.heap.size) HO_1.out).2.2
                                      have hcut61 := cut_from (P := Tryd.prog) 39 56 .i64 Tryd.underlying39 hi061 4 hsz61 Ao62 x1_1.length co62 1 (by omega) q61
                                      have hr61 := Kd.F_cut (m := (1 : Int).toNat) (c := co62) hC61 (by omega) hroom61
                                      obtain ⟨A61, hA61⟩ : ∃ A1, A1 = (if co62 = (1 : Int).toNat then Ao62 else (Ao62 : Option Addr).map (·.add ((1 : Int).toNat * 4))) := ⟨_, rfl⟩
                                      obtain ⟨c61, hc61⟩ : ∃ c1, c1 = co62 - (1 : Int).toNat := ⟨_, rfl⟩
                                      have hy61 : y395.length = x1_1.length - (1 : Int).toNat := (by rw [Ny395.out, List.length_drop] <;> omega)
                                      rw [show (x1_1).drop (1 : Int).toNat = y395 from Ny395.out.symm] at hr61
                                      replace hr61 : Kd.F k56 _ _ A61 y395.length y395 := (by rw [hA61]; exact hr61)
                                      rw [← hy61, ← hA61, ← hc61] at hcut61
                                      have HO399 := Aside0.mk (show Kd.V k56 56 _ w.heap.size _ (.slice A61 y395.length c61) y395 from Kd.V_mk (by rw [hy61, hc61]; exact Nat.sub_le_sub_right hroom61 _) hr61)
                                      have HC399 := Aside0.mk (show y395.length ≤ c61 from by rw [hy61, hc61]; exact Nat.sub_le_sub_right hroom61 _)
                                      clear hr61 hC61 hroom61 hi061 hsz61 hc61
                                      have KY61 := Aside0.mk hy61
                                      have KA61 := Aside0.mk hA61
                                      clear hy61 hA61
                                      replace q61 := eq_true q61
                                      refine start_ (n := 6) (S := fun w' => True) (ds := []) #[false, false, false, false, false, false] (by kernel_rfl) rfl rfl trivial (fun hHeld => ?_)
                                      generalize w58.drew = w59 at HO_0 HO_1 HO389 HB HO394 HO399 hHeld ⊢
                                      refine pure_ (i := 0) (N := some 118) (v := ?_) (a' := ?_) #[true, false, false, false, false, false] rfl rfl (by kernel_rfl) (fun _ _ _ h => h) (Or.inl ⟨by rfl, ?_⟩) ?_ ?_
                                      rotate_left
                                      · intro w'
                                        go_simp
                                        with_reducible rfl
                                      rotate_left
                                      · simp only [Act.put, List.setIfInBounds_toArray, List.set_cons_zero, List.set_cons_succ, i64_w, i32_w]
                                        rfl
                                      refine pure_ (i := 1) (N := some 119) (v := ?_) (a' := ?_) #[true, true, false, false, false, false] rfl rfl (by kernel_rfl) (fun _ _ _ h => h) (Or.inl ⟨by rfl, ?_⟩) ?_ ?_
                                      rotate_left
                                      · intro w'
                                        go_simp
                                        with_reducible rfl
                                      rotate_left
                                      · simp only [Act.put, List.setIfInBounds_toArray, List.set_cons_zero, List.set_cons_succ, i64_w, i32_w]
                                        rfl
                                      refine pure_ (i := 2) (N := some 120) (v := ?_) (a' := ?_) #[true, true, true, false, false, false] rfl rfl (by kernel_rfl) (fun _ _ _ h => h) (Or.inl ⟨by rfl, ?_⟩) ?_ ?_
                                      rotate_left
                                      · intro w'
                                        go_simp
                                        with_reducible rfl
                                      rotate_left
                                      · simp only [Act.put, List.setIfInBounds_toArray, List.set_cons_zero, List.set_cons_succ, i64_w, i32_w]
                                        rfl
                                      refine pure_ (i := 3) (N := some 121) (v := ?_) (a' := ?_) #[true, true, true, true, false, false] rfl rfl (by kernel_rfl) (fun _ _ _ h => h) (Or.inl ⟨by rfl, ?_⟩) ?_ ?_
                                      rotate_left
                                      · intro w'
                                        go_simp
                                        with_reducible rfl
                                      rotate_left
                                      · simp only [Act.put, List.setIfInBounds_toArray, List.set_cons_zero, List.set_cons_succ, i64_w, i32_w]
                                        rfl
                                      refine pure_ (i := 4) (N := some 0) (v := ?_) (a' := ?_) #[true, true, true, true, true, false] rfl rfl (by kernel_rfl) (fun _ _ _ h => h) (Or.inl ⟨by rfl, ?_⟩) ?_ ?_
                                      rotate_left
                                      · intro w'
                                        go_simp
                                        with_reducible rfl
                                      rotate_left
                                      · simp only [Act.put, List.setIfInBounds_toArray, List.set_cons_zero, List.set_cons_succ, i64_w, i32_w]
                                        rfl
                                      refine pure_ (i := 5) (N := some 1) (v := ?_) (a' := ?_) #[true, true, true, true, true, true] rfl rfl (by kernel_rfl) (fun _ _ _ h => h) (Or.inl ⟨by rfl, ?_⟩) ?_ ?_
                                      rotate_left
                                      · intro w'
                                        go_simp
                                        with_reducible rfl
                                      rotate_left
                                      · simp only [Act.put, List.setIfInBounds_toArray, List.set_cons_zero, List.set_cons_succ, i64_w, i32_w]
                                        rfl
                                      refine done_ (by kernel_rfl) ?_
                                      try go_wp2
                                      go_roundg kj41
                                      case measure => have := HK1.out; have := HJ8.out; have := HJ14.out; have := HJ41.out; omega
                                      case rel => exact ⟨(y390), (y395), (y387), H', ⟨by have := HK1.out; have := HJ8.out; have := HJ14.out; have := HJ41.out; omega⟩, ⟨by (with_reducible repeat (first | apply Kd.V_alloc | apply Kd.V_drewN | apply Kd.V_drew)); exact HO394.out⟩, ⟨by (with_reducible repeat (first | apply Kd.V_alloc | apply Kd.V_drewN | apply Kd.V_drew)); exact HO399.out⟩, ⟨by (with_reducible repeat (first | apply Kd.R_alloc | apply Kd.R_drewN | apply Kd.R_drew)); exact HO389.out⟩, ⟨by repeat (first | (with_reducible first | exact HB.out | apply below_alloc | apply pw_below_drewN | apply below_drew1) | exact HB.out)⟩⟩
                                    · rw [if_neg c56] at H
                                      exact absurd H (by simp)
                                  · rw [if_neg c55] at H
                                    exact absurd H (by simp)
                                · rw [if_neg c54] at H
                                  exact absurd H (by simp)
                              · rw [if_neg c53] at H
                                exact absurd H (by simp)
                            · replace c52 := Bool.eq_false_iff.mpr c52
                              subst c52
                              have H1 : (if 0 < (x0_1.length : Int) then (if 0 < (x1_1.length : Int) then (if ((rd_T56 x0_1 0).f1) = ((rd_T56 x1_1 0).f1) then (if 1 ≤ (x0_1.length : Int) then (if 1 ≤ (x1_1.length : Int) then (tree_Between.l0 kj41 (x0_1.drop 1) (x1_1.drop 1) x8_1) else (none)) else (none)) else (if x8_1.length < 5864062014805 then (if 1 ≤ (x0_1.length : Int) then (if 1 ≤ (x1_1.length : Int) then (tree_Between.l0 kj41 (x0_1.drop 1) (x1_1.drop 1) (x8_1 ++ [(⟨4, (rd_T56 x0_1 0).f0⟩ : S44)])) else (none)) else (none)) else (none))) else (none)) else (none)) = some (r1, r2) := by rw [if_neg (show ¬ (false = true) by decide)] at H; exact H
                              clear H
                              have H := H1
                              clear H1
                              by_cases c63 : 0 < (x0_1.length : Int)
                              · rw [if_pos c63] at H
                                have c63b0 : decide (0 < (x0_1.length : Int)) = true := decide_eq_true c63
                                have c63b1 : decide (0 < x0_1.length) = true := decide_eq_true (by omega)
                                clear c63
                                by_cases c64 : 0 < (x1_1.length : Int)
                                · rw [if_pos c64] at H
                                  have c64b0 : decide (0 < (x1_1.length : Int)) = true := decide_eq_true c64
                                  have c64b1 : decide (0 < x1_1.length) = true := decide_eq_true (by omega)
                                  clear c64
                                  by_cases c65 : ((rd_T56 x0_1 0).f1) = ((rd_T56 x1_1 0).f1)
                                  · rw [if_pos c65] at H
                                    have c65b0 : (((rd_T56 x0_1 0).f1) == ((rd_T56 x1_1 0).f1)) = true := beq_iff_eq.mpr c65
                                    have c65b1 : (((rd_T56 x0_1 0).f1) != ((rd_T56 x1_1 0).f1)) = false := bne_eq_false_iff_eq.mpr c65
                                    clear c65
                                    by_cases c66 : 1 ≤ (x0_1.length : Int)
                                    · rw [if_pos c66] at H
                                      have c66b0 := eq_true c66
                                      have c66b1 : decide (1 ≤ (x0_1.length : Int)) = true := decide_eq_true c66
                                      clear c66
                                      obtain ⟨y402, hy402⟩ : ∃ y_ : List (S56), y_ = (x0_1.drop 1) := ⟨_, rfl⟩
                                      replace H : (if 1 ≤ (x1_1.length : Int) then (tree_Between.l0 kj41 y402 (x1_1.drop 1) x8_1) else (none)) = some (r1, r2) := by first | (rw [hy402]; with_reducible exact H) | (have H2_ := (Option.bind_some _ _).symm.trans H; rw [hy402]; with_reducible exact H2_) | (have H2_ := (Option.bind_some _ _).symm.trans H; with_reducible exact H2_) | with_reducible exact H | (rw [hy402]; exact H) | exact H
                                      have Ny402 := Aside0.mk hy402
                                      clear hy402
                                      by_cases c67 : 1 ≤ (x1_1.length : Int)
                                      · rw [if_pos c67] at H
                                        have c67b0 := eq_true c67
                                        have c67b1 : decide (1 ≤ (x1_1.length : Int)) = true := decide_eq_true c67
                                        clear c67
                                        obtain ⟨y407, hy407⟩ : ∃ y_ : List (S56), y_ = (x1_1.drop 1) := ⟨_, rfl⟩
                                        replace H : (tree_Between.l0 kj41 y402 y407 x8_1) = some (r1, r2) := by first | (rw [hy407]; with_reducible exact H) | (have H2_ := (Option.bind_some _ _).symm.trans H; rw [hy407]; with_reducible exact H2_) | (have H2_ := (Option.bind_some _ _).symm.trans H; with_reducible exact H2_) | with_reducible exact H | (rw [hy407]; exact H) | exact H
                                        have Ny407 := Aside0.mk hy407
                                        clear hy407
                                        have H' := Aside0.mk H
                                        clear H
                                        try go_wp2
                                        have n0_ := Aside0.mk (Kd.V_drew HO_0.out)
                                        have n1_ := Aside0.mk (Kd.V_drew HO_1.out)
                                        have n2_ := Aside0.mk (Kd.R_drew HO_8.out)
                                        have n3_ := Aside0.mk (below_drew1 HB.out)
                                        clear HO_0
                                        clear HO_1
                                        clear HO_8
                                        clear HB
                                        have HO_0 := n0_
                                        have HO_1 := n1_
                                        have HO_8 := n2_
                                        have HB := n3_
                                        clear n0_ n1_ n2_ n3_
                                        obtain ⟨Ao69, co69, eo69⟩ := Kd.V_slice HO_0.out
                                        (first | subst eo69 | (injection eo69 with f1_ f2_ f3_; have f4_ := f1_.symm; have f5_ := f3_.symm; clear f1_ f2_ f3_; subst f4_; subst f5_))
                                        have p400 : 0 ≤ (0 : Int) := (by omega)
                                        have q400 : 0 < (x0_1.length : Int) := of_decide_eq_true (by first | (with_reducible assumption) | assumption)
                                        obtain ⟨ad400, e400, hx400_0, hx400_1, hx400_2, hx400_3⟩ := at_T56 (Kd.V_reads' HO_0.out).2.2 0 p400 q400
                                        cases e400
                                        have qi400 : (0 < x0_1.length) = True := eq_true (by omega)
                                        (try rw [show ((0 : Int)).toNat = 0 from rfl] at hx400_0)
                                        (try rw [show 0 * 4 = 0 from rfl] at hx400_0)
                                        (try rw [Addr.add_zero'] at hx400_0)
                                        (try rw [show ((0 : Int)).toNat = 0 from rfl] at hx400_1)
                                        (try rw [show 0 * 4 = 0 from rfl] at hx400_1)
                                        (try rw [Addr.add_zero'] at hx400_1)
                                        (try rw [show ((0 : Int)).toNat = 0 from rfl] at hx400_2)
                                        (try rw [show 0 * 4 = 0 from rfl] at hx400_2)
                                        (try rw [Addr.add_zero'] at hx400_2)
                                        (try rw [show ((0 : Int)).toNat = 0 from rfl] at hx400_3)
                                        (try rw [show 0 * 4 = 0 from rfl] at hx400_3)
                                        (try rw [Addr.add_zero'] at hx400_3)
                                        replace p400 := eq_true p400
                                        replace q400 := eq_true q400
                                        obtain ⟨Ao70, co70, eo70⟩ := Kd.V_slice HO_1.out
                                        (first | subst eo70 | (injection eo70 with f1_ f2_ f3_; have f4_ := f1_.symm; have f5_ := f3_.symm; clear f1_ f2_ f3_; subst f4_; subst f5_))
                                        have p401 : 0 ≤ (0 : Int) := (by omega)
                                        have q401 : 0 < (x1_1.length : Int) := of_decide_eq_true (by first | (with_reducible assumption) | assumption)
                                        obtain ⟨ad401, e401, hx401_0, hx401_1, hx401_2, hx401_3⟩ := at_T56 (Kd.V_reads' HO_1.out).2.2 0 p401 q401
                                        cases e401
                                        have qi401 : (0 < x1_1.length) = True := eq_true (by omega)
                                        (try rw [show ((0 : Int)).toNat = 0 from rfl] at hx401_0)
                                        (try rw [show 0 * 4 = 0 from rfl] at hx401_0)
                                        (try rw [Addr.add_zero'] at hx401_0)
                                        (try rw [show ((0 : Int)).toNat = 0 from rfl] at hx401_1)
                                        (try rw [show 0 * 4 = 0 from rfl] at hx401_1)
                                        (try rw [Addr.add_zero'] at hx401_1)
                                        (try rw [show ((0 : Int)).toNat = 0 from rfl] at hx401_2)
                                        (try rw [show 0 * 4 = 0 from rfl] at hx401_2)
                                        (try rw [Addr.add_zero'] at hx401_2)
                                        (try rw [show ((0 : Int)).toNat = 0 from rfl] at hx401_3)
                                        (try rw [show 0 * 4 = 0 from rfl] at hx401_3)
                                        (try rw [Addr.add_zero'] at hx401_3)
                                        replace p401 := eq_true p401
                                        replace q401 := eq_true q401
                                        refine start_ (n := 10) (S := fun w' => w'.cell? ad400 = some (.string ((rd_T56 x0_1 0).f0)) ∧ w'.cell? ⟨ad400.block, ad400.off + 1, none⟩ = some (.int .i64 ((rd_T56 x0_1 0).f1)) ∧ w'.cell? ⟨ad400.block, ad400.off + 2, none⟩ = some (.int .i64 ((rd_T56 x0_1 0).f2)) ∧ w'.cell? ⟨ad400.block, ad400.off + 3, none⟩ = some (.string ((rd_T56 x0_1 0).f3)) ∧ w'.cell? ad401 = some (.string ((rd_T56 x1_1 0).f0)) ∧ w'.cell? ⟨ad401.block, ad401.off + 1, none⟩ = some (.int .i64 ((rd_T56 x1_1 0).f1)) ∧ w'.cell? ⟨ad401.block, ad401.off + 2, none⟩ = some (.int .i64 ((rd_T56 x1_1 0).f2)) ∧ w'.cell? ⟨ad401.block, ad401.off + 3, none⟩ = some (.string ((rd_T56 x1_1 0).f3))) (ds := []) #[false, false, false, false, false, false, false, false, false, false] (by kernel_rfl) rfl rfl ⟨hx400_0, hx400_1, hx400_2, hx400_3, hx401_0, hx401_1, hx401_2, hx401_3⟩ (fun hHeld => ?_); refine with_tabW tree_Between.tab23 tree_Between.bits23 (fun HT_ HW_ => ?_)
                                        generalize wc.drew = w68 at HO_0 HO_1 HO_8 HB hx400_0 hx400_1 hx400_2 hx400_3 hx401_0 hx401_1 hx401_2 hx401_3 hHeld ⊢
                                        refine pure_ (i := 0) (N := some 101) (v := ?_) (a' := ?_) #[true, false, false, false, false, false, false, false, false, false] rfl rfl (any_of HT_.out (by kernel_rfl)) (fun _ _ _ h => h) (Or.inl ⟨by rfl, ?_⟩) ?_ ?_
                                        rotate_left
                                        · intro w'
                                          go_simp
                                          with_reducible rfl
                                        rotate_left
                                        · simp only [Act.put, List.setIfInBounds_toArray, List.set_cons_zero, List.set_cons_succ, i64_w, i32_w]
                                          rfl
                                        refine pure_ (i := 1) (N := some 102) (v := ?_) (a' := ?_) #[true, true, false, false, false, false, false, false, false, false] rfl rfl (any_of HT_.out (by kernel_rfl)) (fun _ _ _ h => h) (Or.inl ⟨by rfl, ?_⟩) ?_ ?_
                                        rotate_left
                                        · intro w'
                                          go_simp
                                          with_reducible rfl
                                        rotate_left
                                        · simp only [Act.put, List.setIfInBounds_toArray, List.set_cons_zero, List.set_cons_succ, i64_w, i32_w]
                                          rfl
                                        refine pure_ (i := 2) (N := some 103) (v := ?_) (a' := ?_) #[true, true, true, false, false, false, false, false, false, false] rfl rfl (any_of HT_.out (by kernel_rfl)) (fun _ _ _ h => h) (Or.inl ⟨by rfl, ?_⟩) ?_ ?_
                                        rotate_left
                                        · intro w'
                                          go_simp
                                          with_reducible rfl
                                        rotate_left
                                        · simp only [Act.put, List.setIfInBounds_toArray, List.set_cons_zero, List.set_cons_succ, i64_w, i32_w]
                                          rfl
                                        refine pure_ (i := 4) (N := some 105) (v := ?_) (a' := ?_) #[true, true, true, false, true, false, false, false, false, false] rfl rfl (any_of HT_.out (by kernel_rfl)) (fun _ _ _ h => h) (Or.inl ⟨by rfl, ?_⟩) ?_ ?_
                                        rotate_left
                                        · intro w'
                                          go_simp
                                          with_reducible rfl
                                        rotate_left
                                        · simp only [Act.put, List.setIfInBounds_toArray, List.set_cons_zero, List.set_cons_succ, i64_w, i32_w]
                                          rfl
                                        refine pure_ (i := 5) (N := some 106) (v := ?_) (a' := ?_) #[true, true, true, false, true, true, false, false, false, false] rfl rfl (any_of HT_.out (by kernel_rfl)) (fun _ _ _ h => h) (Or.inl ⟨by rfl, ?_⟩) ?_ ?_
                                        rotate_left
                                        · intro w'
                                          go_simp
                                          with_reducible rfl
                                        rotate_left
                                        · simp only [Act.put, List.setIfInBounds_toArray, List.set_cons_zero, List.set_cons_succ, i64_w, i32_w]
                                          rfl
                                        refine pure_ (i := 6) (N := some 107) (v := ?_) (a' := ?_) #[true, true, true, false, true, true, true, false, false, false] rfl rfl (any_of HT_.out (by kernel_rfl)) (fun _ _ _ h => h) (Or.inl ⟨by rfl, ?_⟩) ?_ ?_
                                        rotate_left
                                        · intro w'
                                          go_simp
                                          with_reducible rfl
                                        rotate_left
                                        · simp only [Act.put, List.setIfInBounds_toArray, List.set_cons_zero, List.set_cons_succ, i64_w, i32_w]
                                          rfl
                                        refine take_ (i := 3) (N := some 104) (v := ?_) (a' := ?_) #[true, true, true, true, true, true, true, false, false, false] rfl rfl (take_ofW HT_.out HW_.out (by kernel_rfl)) (fun _ _ _ h => h) (Or.inl ⟨by rfl, ?_⟩) hHeld ?_ ?_
                                        rotate_left
                                        · rintro w' ⟨s0, s1, s2, s3, s4, s5, s6, s7⟩
                                          go_simp
                                          with_reducible rfl
                                        rotate_left
                                        · simp only [Act.put, List.setIfInBounds_toArray, List.set_cons_zero, List.set_cons_succ, i64_w, i32_w]
                                          rfl
                                        refine take_ (i := 7) (N := some 108) (v := ?_) (a' := ?_) #[true, true, true, true, true, true, true, true, false, false] rfl rfl (take_ofW HT_.out HW_.out (by kernel_rfl)) (fun _ _ _ h => h) (Or.inl ⟨by rfl, ?_⟩) hHeld ?_ ?_
                                        rotate_left
                                        · rintro w' ⟨s0, s1, s2, s3, s4, s5, s6, s7⟩
                                          go_simp
                                          with_reducible rfl
                                        rotate_left
                                        · simp only [Act.put, List.setIfInBounds_toArray, List.set_cons_zero, List.set_cons_succ, i64_w, i32_w]
                                          rfl
                                        refine pure_ (i := 8) (N := some 109) (v := ?_) (a' := ?_) #[true, true, true, true, true, true, true, true, true, false] rfl rfl (any_of HT_.out (by kernel_rfl)) (fun _ _ _ h => h) (Or.inl ⟨by rfl, ?_⟩) ?_ ?_
                                        rotate_left
                                        · intro w'
                                          go_simp
                                          with_reducible rfl
                                        rotate_left
                                        · simp only [Act.put, List.setIfInBounds_toArray, List.set_cons_zero, List.set_cons_succ, i64_w, i32_w]
                                          rfl
                                        refine pure_ (i := 9) (N := some 100) (v := ?_) (a' := ?_) #[true, true, true, true, true, true, true, true, true, true] rfl rfl (any_of HT_.out (by kernel_rfl)) (fun _ _ _ h => h) (Or.inl ⟨by rfl, ?_⟩) ?_ ?_
                                        rotate_left
                                        · intro w'
                                          go_simp
                                          with_reducible rfl
                                        rotate_left
                                        · simp only [Act.put, List.setIfInBounds_toArray, List.set_cons_zero, List.set_cons_succ, i64_w, i32_w]
                                          rfl
                                        refine done_ (done_of HT_.out (by kernel_rfl)) ?_
                                        try go_wp2
                                        have n0_ := Aside0.mk (Kd.V_drew HO_0.out)
                                        have n1_ := Aside0.mk (Kd.V_drew HO_1.out)
                                        have n2_ := Aside0.mk (Kd.R_drew HO_8.out)
                                        have n3_ := Aside0.mk (below_drew1 HB.out)
                                        clear HO_0
                                        clear HO_1
                                        clear HO_8
                                        clear HB
                                        have HO_0 := n0_
                                        have HO_1 := n1_
                                        have HO_8 := n2_
                                        have HB := n3_
                                        clear n0_ n1_ n2_ n3_
                                        have q72 : (1 : Int) ≤ ((x0_1.length : Int) : Int) := of_decide_eq_true (by first | (with_reducible assumption) | assumption)
                                        obtain ⟨i072, hi072, _, hsz72, _⟩ := info_parts info56
                                        have hroom72 : x0_1.length ≤ co69 := (Kd.V_reads' HO_0.out).2.1
                                        have hC72 : Kd.F k56 _ _ (some ad400) x0_1.length x0_1 := (Kd.V_at (base := w.heap.size) HO_0.out).2.2
                                        have hcut72 := cut_from (P := Tryd.prog) 39 56 .i64 Tryd.underlying39 hi072 4 hsz72 (some ad400) x0_1.length co69 1 (by omega) q72
                                        have hr72 := Kd.F_cut (m := (1 : Int).toNat) (c := co69) hC72 (by omega) hroom72
                                        obtain ⟨A72, hA72⟩ : ∃ A1, A1 = (if co69 = (1 : Int).toNat then (some ad400) else ((some ad400) : Option Addr).map (·.add ((1 : Int).toNat * 4))) := ⟨_, rfl⟩
                                        obtain ⟨c72, hc72⟩ : ∃ c1, c1 = co69 - (1 : Int).toNat := ⟨_, rfl⟩
                                        have hy72 : y402.length = x0_1.length - (1 : Int).toNat := (by rw [Ny402.out, List.length_drop] <;> omega)
                                        rw [show (x0_1).drop (1 : Int).toNat = y402 from Ny402.out.symm] at hr72
                                        replace hr72 : Kd.F k56 _ _ A72 y402.length y402 := (by rw [hA72]; exact hr72)
                                        rw [← hy72, ← hA72, ← hc72] at hcut72
                                        have HO406 := Aside0.mk (show Kd.V k56 56 _ w.heap.size _ (.slice A72 y402.length c72) y402 from Kd.V_mk (by rw [hy72, hc72]; exact Nat.sub_le_sub_right hroom72 _) hr72)
                                        have HC406 := Aside0.mk (show y402.length ≤ c72 from by rw [hy72, hc72]; exact Nat.sub_le_sub_right hroom72 _)
                                        clear hr72 hC72 hroom72 hi072 hsz72 hc72
                                        have KY72 := Aside0.mk hy72
                                        have KA72 := Aside0.mk hA72
                                        clear hy72 hA72
                                        replace q72 := eq_true q72
                                        have q73 : (1 : Int) ≤ ((x1_1.length : Int) : Int) := of_decide_eq_true (by first | (with_reducible assumption) | assumption)
                                        obtain ⟨i073, hi073, _, hsz73, _⟩ := info_parts info56
                                        have hroom73 : x1_1.length ≤ co70 := (Kd.V_reads' HO_1.out).2.1
                                        have hC73 : Kd.F k56 _ _ (some ad401) x1_1.length x1_1 := (Kd.V_at (base := w.heap.size) HO_1.out).2.2
                                        have hcut73 := cut_from (P := Tryd.prog) 39 56 .i64 Tryd.underlying39 hi073 4 hsz73 (some ad401) x1_1.length co70 1 (by omega) q73
                                        have hr73 := Kd.F_cut (m := (1 : Int).toNat) (c := co70) hC73 (by omega) hroom73
                                        obtain ⟨A73, hA73⟩ : ∃ A1, A1 = (if co70 = (1 : Int).toNat then (some ad401) else ((some ad401) : Option Addr).map (·.add ((1 : Int).toNat * 4))) := ⟨_, rfl⟩
                                        obtain ⟨c73, hc73⟩ : ∃ c1, c1 = co70 - (1 : Int).toNat := ⟨_, rfl⟩
                                        have hy73 : y407.length = x1_1.length - (1 : Int).toNat := (by rw [Ny407.out, List.length_drop] <;> omega)
                                        rw [show (x1_1).drop (1 : Int).toNat = y407 from Ny407.out.symm] at hr73
                                        replace hr73 : Kd.F k56 _ _ A73 y407.length y407 := (by rw [hA73]; exact hr73)
                                        rw [← hy73, ← hA73, ← hc73] at hcut73
                                        have HO411 := Aside0.mk (show Kd.V k56 56 _ w.heap.size _ (.slice A73 y407.length c73) y407 from Kd.V_mk (by rw [hy73, hc73]; exact Nat.sub_le_sub_right hroom73 _) hr73)
                                        have HC411 := Aside0.mk (show y407.length ≤ c73 from by rw [hy73, hc73]; exact Nat.sub_le_sub_right hroom73 _)
                                        clear hr73 hC73 hroom73 hi073 hsz73 hc73
                                        have KY73 := Aside0.mk hy73
                                        have KA73 := Aside0.mk hA73
                                        clear hy73 hA73
                                        replace q73 := eq_true q73
                                        refine start_ (n := 6) (S := fun w' => True) (ds := []) #[false, false, false, false, false, false] (by kernel_rfl) rfl rfl trivial (fun hHeld => ?_)
                                        generalize w68.drew = w71 at HO_0 HO_1 HO_8 HB HO406 HO411 hHeld ⊢
                                        refine pure_ (i := 0) (N := some 118) (v := ?_) (a' := ?_) #[true, false, false, false, false, false] rfl rfl (by kernel_rfl) (fun _ _ _ h => h) (Or.inl ⟨by rfl, ?_⟩) ?_ ?_
                                        rotate_left
                                        · intro w'
                                          go_simp
                                          with_reducible rfl
                                        rotate_left
                                        · simp only [Act.put, List.setIfInBounds_toArray, List.set_cons_zero, List.set_cons_succ, i64_w, i32_w]
                                          rfl
                                        refine pure_ (i := 1) (N := some 119) (v := ?_) (a' := ?_) #[true, true, false, false, false, false] rfl rfl (by kernel_rfl) (fun _ _ _ h => h) (Or.inl ⟨by rfl, ?_⟩) ?_ ?_
                                        rotate_left
                                        · intro w'
                                          go_simp
                                          with_reducible rfl
                                        rotate_left
                                        · simp only [Act.put, List.setIfInBounds_toArray, List.set_cons_zero, List.set_cons_succ, i64_w, i32_w]
                                          rfl
                                        refine pure_ (i := 2) (N := some 120) (v := ?_) (a' := ?_) #[true, true, true, false, false, false] rfl rfl (by kernel_rfl) (fun _ _ _ h => h) (Or.inl ⟨by rfl, ?_⟩) ?_ ?_
                                        rotate_left
                                        · intro w'
                                          go_simp
                                          with_reducible rfl
                                        rotate_left
                                        · simp only [Act.put, List.setIfInBounds_toArray, List.set_cons_zero, List.set_cons_succ, i64_w, i32_w]
                                          rfl
                                        refine pure_ (i := 3) (N := some 121) (v := ?_) (a' := ?_) #[true, true, true, true, false, false] rfl rfl (by kernel_rfl) (fun _ _ _ h => h) (Or.inl ⟨by rfl, ?_⟩) ?_ ?_
                                        rotate_left
                                        · intro w'
                                          go_simp
                                          with_reducible rfl
                                        rotate_left
                                        · simp only [Act.put, List.setIfInBounds_toArray, List.set_cons_zero, List.set_cons_succ, i64_w, i32_w]
                                          rfl
                                        refine pure_ (i := 4) (N := some 0) (v := ?_) (a' := ?_) #[true, true, true, true, true, false] rfl rfl (by kernel_rfl) (fun _ _ _ h => h) (Or.inl ⟨by rfl, ?_⟩) ?_ ?_
                                        rotate_left
                                        · intro w'
                                          go_simp
                                          with_reducible rfl
                                        rotate_left
                                        · simp only [Act.put, List.setIfInBounds_toArray, List.set_cons_zero, List.set_cons_succ, i64_w, i32_w]
                                          rfl
                                        refine pure_ (i := 5) (N := some 1) (v := ?_) (a' := ?_) #[true, true, true, true, true, true] rfl rfl (by kernel_rfl) (fun _ _ _ h => h) (Or.inl ⟨by rfl, ?_⟩) ?_ ?_
                                        rotate_left
                                        · intro w'
                                          go_simp
                                          with_reducible rfl
                                        rotate_left
                                        · simp only [Act.put, List.setIfInBounds_toArray, List.set_cons_zero, List.set_cons_succ, i64_w, i32_w]
                                          rfl
                                        refine done_ (by kernel_rfl) ?_
                                        try go_wp2
                                        go_roundg kj41
                                        case measure => have := HK1.out; have := HJ8.out; have := HJ14.out; have := HJ41.out; omega
                                        case rel => exact ⟨(y402), (y407), (x8_1), H', ⟨by have := HK1.out; have := HJ8.out; have := HJ14.out; have := HJ41.out; omega⟩, ⟨by (with_reducible repeat (first | apply Kd.V_alloc | apply Kd.V_drewN | apply Kd.V_drew)); exact HO406.out⟩, ⟨by (with_reducible repeat (first | apply Kd.V_alloc | apply Kd.V_drewN | apply Kd.V_drew)); exact HO411.out⟩, ⟨by (with_reducible repeat (first | apply Kd.R_alloc | apply Kd.R_drewN | apply Kd.R_drew)); exact HO_8.out⟩, ⟨by repeat (first | (with_reducible first | exact HB.out | apply below_alloc | apply pw_below_drewN | apply below_drew1) | exact HB.out)⟩⟩
                                      · rw [if_neg c67] at H
                                        exact absurd H (by simp)
                                    · rw [if_neg c66] at H
                                      exact absurd H (by simp)
                                  · rw [if_neg c65] at H
                                    have c65b0 : (((rd_T56 x0_1 0).f1) == ((rd_T56 x1_1 0).f1)) = false := beq_eq_false_iff_ne.mpr c65
                                    have c65b1 : (((rd_T56 x0_1 0).f1) != ((rd_T56 x1_1 0).f1)) = true := bne_iff_ne.mpr c65
                                    by_cases c74 : x8_1.length < 5864062014805
                                    · rw [if_pos c74] at H
                                      have LMc74 := Aside0.mk c74
                                      clear c74
                                      obtain ⟨y413, hy413⟩ : ∃ y_ : List (S44), y_ = (x8_1 ++ [(⟨4, (rd_T56 x0_1 0).f0⟩ : S44)]) := ⟨_, rfl⟩
                                      replace H : (if 1 ≤ (x0_1.length : Int) then (if 1 ≤ (x1_1.length : Int) then (tree_Between.l0 kj41 (x0_1.drop 1) (x1_1.drop 1) y413) else (none)) else (none)) = some (r1, r2) := by first | (rw [hy413]; with_reducible exact H) | (have H2_ := (Option.bind_some _ _).symm.trans H; rw [hy413]; with_reducible exact H2_) | (have H2_ := (Option.bind_some _ _).symm.trans H; with_reducible exact H2_) | with_reducible exact H | (rw [hy413]; exact H) | exact H
                                      have Ny413 := Aside0.mk hy413
                                      clear hy413
                                      by_cases c75 : 1 ≤ (x0_1.length : Int)
                                      · rw [if_pos c75] at H
                                        have c75b0 := eq_true c75
                                        have c75b1 : decide (1 ≤ (x0_1.length : Int)) = true := decide_eq_true c75
                                        clear c75
                                        obtain ⟨y416, hy416⟩ : ∃ y_ : List (S56), y_ = (x0_1.drop 1) := ⟨_, rfl⟩
                                        replace H : (if 1 ≤ (x1_1.length : Int) then (tree_Between.l0 kj41 y416 (x1_1.drop 1) y413) else (none)) = some (r1, r2) := by first | (rw [hy416]; with_reducible exact H) | (have H2_ := (Option.bind_some _ _).symm.trans H; rw [hy416]; with_reducible exact H2_) | (have H2_ := (Option.bind_some _ _).symm.trans H; with_reducible exact H2_) | with_reducible exact H | (rw [hy416]; exact H) | exact H
                                        have Ny416 := Aside0.mk hy416
                                        clear hy416
                                        by_cases c76 : 1 ≤ (x1_1.length : Int)
                                        · rw [if_pos c76] at H
                                          have c76b0 := eq_true c76
                                          have c76b1 : decide (1 ≤ (x1_1.length : Int)) = true := decide_eq_true c76
                                          clear c76
                                          obtain ⟨y421, hy421⟩ : ∃ y_ : List (S56), y_ = (x1_1.drop 1) := ⟨_, rfl⟩
                                          replace H : (tree_Between.l0 kj41 y416 y421 y413) = some (r1, r2) := by first | (rw [hy421]; with_reducible exact H) | (have H2_ := (Option.bind_some _ _).symm.trans H; rw [hy421]; with_reducible exact H2_) | (have H2_ := (Option.bind_some _ _).symm.trans H; with_reducible exact H2_) | with_reducible exact H | (rw [hy421]; exact H) | exact H
                                          have Ny421 := Aside0.mk hy421
                                          clear hy421
                                          have H' := Aside0.mk H
                                          clear H
                                          try go_wp2
                                          have n0_ := Aside0.mk (Kd.V_drew HO_0.out)
                                          have n1_ := Aside0.mk (Kd.V_drew HO_1.out)
                                          have n2_ := Aside0.mk (Kd.R_drew HO_8.out)
                                          have n3_ := Aside0.mk (below_drew1 HB.out)
                                          clear HO_0
                                          clear HO_1
                                          clear HO_8
                                          clear HB
                                          have HO_0 := n0_
                                          have HO_1 := n1_
                                          have HO_8 := n2_
                                          have HB := n3_
                                          clear n0_ n1_ n2_ n3_
                                          obtain ⟨Ao78, co78, eo78⟩ := Kd.V_slice HO_0.out
                                          (first | subst eo78 | (injection eo78 with f1_ f2_ f3_; have f4_ := f1_.symm; have f5_ := f3_.symm; clear f1_ f2_ f3_; subst f4_; subst f5_))
                                          have p400 : 0 ≤ (0 : Int) := (by omega)
                                          have q400 : 0 < (x0_1.length : Int) := of_decide_eq_true (by first | (with_reducible assumption) | assumption)
                                          obtain ⟨ad400, e400, hx400_0, hx400_1, hx400_2, hx400_3⟩ := at_T56 (Kd.V_reads' HO_0.out).2.2 0 p400 q400
                                          cases e400
                                          have qi400 : (0 < x0_1.length) = True := eq_true (by omega)
                                          (try rw [show ((0 : Int)).toNat = 0 from rfl] at hx400_0)
                                          (try rw [show 0 * 4 = 0 from rfl] at hx400_0)
                                          (try rw [Addr.add_zero'] at hx400_0)
                                          (try rw [show ((0 : Int)).toNat = 0 from rfl] at hx400_1)
                                          (try rw [show 0 * 4 = 0 from rfl] at hx400_1)
                                          (try rw [Addr.add_zero'] at hx400_1)
                                          (try rw [show ((0 : Int)).toNat = 0 from rfl] at hx400_2)
                                          (try rw [show 0 * 4 = 0 from rfl] at hx400_2)
                                          (try rw [Addr.add_zero'] at hx400_2)
                                          (try rw [show ((0 : Int)).toNat = 0 from rfl] at hx400_3)
                                          (try rw [show 0 * 4 = 0 from rfl] at hx400_3)
                                          (try rw [Addr.add_zero'] at hx400_3)
                                          replace p400 := eq_true p400
                                          replace q400 := eq_true q400
                                          obtain ⟨Ao79, co79, eo79⟩ := Kd.V_slice HO_1.out
                                          (first | subst eo79 | (injection eo79 with f1_ f2_ f3_; have f4_ := f1_.symm; have f5_ := f3_.symm; clear f1_ f2_ f3_; subst f4_; subst f5_))
                                          have p401 : 0 ≤ (0 : Int) := (by omega)
                                          have q401 : 0 < (x1_1.length : Int) := of_decide_eq_true (by first | (with_reducible assumption) | assumption)
                                          obtain ⟨ad401, e401, hx401_0, hx401_1, hx401_2, hx401_3⟩ := at_T56 (Kd.V_reads' HO_1.out).2.2 0 p401 q401
                                          cases e401
                                          have qi401 : (0 < x1_1.length) = True := eq_true (by omega)
                                          (try rw [show ((0 : Int)).toNat = 0 from rfl] at hx401_0)
                                          (try rw [show 0 * 4 = 0 from rfl] at hx401_0)
                                          (try rw [Addr.add_zero'] at hx401_0)
                                          (try rw [show ((0 : Int)).toNat = 0 from rfl] at hx401_1)
                                          (try rw [show 0 * 4 = 0 from rfl] at hx401_1)
                                          (try rw [Addr.add_zero'] at hx401_1)
                                          (try rw [show ((0 : Int)).toNat = 0 from rfl] at hx401_2)
                                          (try rw [show 0 * 4 = 0 from rfl] at hx401_2)
                                          (try rw [Addr.add_zero'] at hx401_2)
                                          (try rw [show ((0 : Int)).toNat = 0 from rfl] at hx401_3)
                                          (try rw [show 0 * 4 = 0 from rfl] at hx401_3)
                                          (try rw [Addr.add_zero'] at hx401_3)
                                          replace p401 := eq_true p401
                                          replace q401 := eq_true q401
                                          refine start_ (n := 10) (S := fun w' => w'.cell? ad400 = some (.string ((rd_T56 x0_1 0).f0)) ∧ w'.cell? ⟨ad400.block, ad400.off + 1, none⟩ = some (.int .i64 ((rd_T56 x0_1 0).f1)) ∧ w'.cell? ⟨ad400.block, ad400.off + 2, none⟩ = some (.int .i64 ((rd_T56 x0_1 0).f2)) ∧ w'.cell? ⟨ad400.block, ad400.off + 3, none⟩ = some (.string ((rd_T56 x0_1 0).f3)) ∧ w'.cell? ad401 = some (.string ((rd_T56 x1_1 0).f0)) ∧ w'.cell? ⟨ad401.block, ad401.off + 1, none⟩ = some (.int .i64 ((rd_T56 x1_1 0).f1)) ∧ w'.cell? ⟨ad401.block, ad401.off + 2, none⟩ = some (.int .i64 ((rd_T56 x1_1 0).f2)) ∧ w'.cell? ⟨ad401.block, ad401.off + 3, none⟩ = some (.string ((rd_T56 x1_1 0).f3))) (ds := []) #[false, false, false, false, false, false, false, false, false, false] (by kernel_rfl) rfl rfl ⟨hx400_0, hx400_1, hx400_2, hx400_3, hx401_0, hx401_1, hx401_2, hx401_3⟩ (fun hHeld => ?_); refine with_tabW tree_Between.tab23 tree_Between.bits23 (fun HT_ HW_ => ?_)
                                          generalize wc.drew = w77 at HO_0 HO_1 HO_8 HB hx400_0 hx400_1 hx400_2 hx400_3 hx401_0 hx401_1 hx401_2 hx401_3 hHeld ⊢
                                          refine pure_ (i := 0) (N := some 101) (v := ?_) (a' := ?_) #[true, false, false, false, false, false, false, false, false, false] rfl rfl (any_of HT_.out (by kernel_rfl)) (fun _ _ _ h => h) (Or.inl ⟨by rfl, ?_⟩) ?_ ?_
                                          rotate_left
                                          · intro w'
                                            go_simp
                                            with_reducible rfl
                                          rotate_left
                                          · simp only [Act.put, List.setIfInBounds_toArray, List.set_cons_zero, List.set_cons_succ, i64_w, i32_w]
                                            rfl
                                          refine pure_ (i := 1) (N := some 102) (v := ?_) (a' := ?_) #[true, true, false, false, false, false, false, false, false, false] rfl rfl (any_of HT_.out (by kernel_rfl)) (fun _ _ _ h => h) (Or.inl ⟨by rfl, ?_⟩) ?_ ?_
                                          rotate_left
                                          · intro w'
                                            go_simp
                                            with_reducible rfl
                                          rotate_left
                                          · simp only [Act.put, List.setIfInBounds_toArray, List.set_cons_zero, List.set_cons_succ, i64_w, i32_w]
                                            rfl
                                          refine pure_ (i := 2) (N := some 103) (v := ?_) (a' := ?_) #[true, true, true, false, false, false, false, false, false, false] rfl rfl (any_of HT_.out (by kernel_rfl)) (fun _ _ _ h => h) (Or.inl ⟨by rfl, ?_⟩) ?_ ?_
                                          rotate_left
                                          · intro w'
                                            go_simp
                                            with_reducible rfl
                                          rotate_left
                                          · simp only [Act.put, List.setIfInBounds_toArray, List.set_cons_zero, List.set_cons_succ, i64_w, i32_w]
                                            rfl
                                          refine pure_ (i := 4) (N := some 105) (v := ?_) (a' := ?_) #[true, true, true, false, true, false, false, false, false, false] rfl rfl (any_of HT_.out (by kernel_rfl)) (fun _ _ _ h => h) (Or.inl ⟨by rfl, ?_⟩) ?_ ?_
                                          rotate_left
                                          · intro w'
                                            go_simp
                                            with_reducible rfl
                                          rotate_left
                                          · simp only [Act.put, List.setIfInBounds_toArray, List.set_cons_zero, List.set_cons_succ, i64_w, i32_w]
                                            rfl
                                          refine pure_ (i := 5) (N := some 106) (v := ?_) (a' := ?_) #[true, true, true, false, true, true, false, false, false, false] rfl rfl (any_of HT_.out (by kernel_rfl)) (fun _ _ _ h => h) (Or.inl ⟨by rfl, ?_⟩) ?_ ?_
                                          rotate_left
                                          · intro w'
                                            go_simp
                                            with_reducible rfl
                                          rotate_left
                                          · simp only [Act.put, List.setIfInBounds_toArray, List.set_cons_zero, List.set_cons_succ, i64_w, i32_w]
                                            rfl
                                          refine pure_ (i := 6) (N := some 107) (v := ?_) (a' := ?_) #[true, true, true, false, true, true, true, false, false, false] rfl rfl (any_of HT_.out (by kernel_rfl)) (fun _ _ _ h => h) (Or.inl ⟨by rfl, ?_⟩) ?_ ?_
                                          rotate_left
                                          · intro w'
                                            go_simp
                                            with_reducible rfl
                                          rotate_left
                                          · simp only [Act.put, List.setIfInBounds_toArray, List.set_cons_zero, List.set_cons_succ, i64_w, i32_w]
                                            rfl
                                          refine take_ (i := 3) (N := some 104) (v := ?_) (a' := ?_) #[true, true, true, true, true, true, true, false, false, false] rfl rfl (take_ofW HT_.out HW_.out (by kernel_rfl)) (fun _ _ _ h => h) (Or.inl ⟨by rfl, ?_⟩) hHeld ?_ ?_
                                          rotate_left
                                          · rintro w' ⟨s0, s1, s2, s3, s4, s5, s6, s7⟩
                                            go_simp
                                            with_reducible rfl
                                          rotate_left
                                          · simp only [Act.put, List.setIfInBounds_toArray, List.set_cons_zero, List.set_cons_succ, i64_w, i32_w]
                                            rfl
                                          refine take_ (i := 7) (N := some 108) (v := ?_) (a' := ?_) #[true, true, true, true, true, true, true, true, false, false] rfl rfl (take_ofW HT_.out HW_.out (by kernel_rfl)) (fun _ _ _ h => h) (Or.inl ⟨by rfl, ?_⟩) hHeld ?_ ?_
                                          rotate_left
                                          · rintro w' ⟨s0, s1, s2, s3, s4, s5, s6, s7⟩
                                            go_simp
                                            with_reducible rfl
                                          rotate_left
                                          · simp only [Act.put, List.setIfInBounds_toArray, List.set_cons_zero, List.set_cons_succ, i64_w, i32_w]
                                            rfl
                                          refine pure_ (i := 8) (N := some 109) (v := ?_) (a' := ?_) #[true, true, true, true, true, true, true, true, true, false] rfl rfl (any_of HT_.out (by kernel_rfl)) (fun _ _ _ h => h) (Or.inl ⟨by rfl, ?_⟩) ?_ ?_
                                          rotate_left
                                          · intro w'
                                            go_simp
                                            with_reducible rfl
                                          rotate_left
                                          · simp only [Act.put, List.setIfInBounds_toArray, List.set_cons_zero, List.set_cons_succ, i64_w, i32_w]
                                            rfl
                                          refine pure_ (i := 9) (N := some 100) (v := ?_) (a' := ?_) #[true, true, true, true, true, true, true, true, true, true] rfl rfl (any_of HT_.out (by kernel_rfl)) (fun _ _ _ h => h) (Or.inl ⟨by rfl, ?_⟩) ?_ ?_
                                          rotate_left
                                          · intro w'
                                            go_simp
                                            with_reducible rfl
                                          rotate_left
                                          · simp only [Act.put, List.setIfInBounds_toArray, List.set_cons_zero, List.set_cons_succ, i64_w, i32_w]
                                            rfl
                                          refine done_ (done_of HT_.out (by kernel_rfl)) ?_
                                          have p412 : 0 ≤ (0 : Int) := (by omega)
                                          have q412 : 0 < (x0_1.length : Int) := of_decide_eq_true (by first | (with_reducible assumption) | assumption)
                                          obtain ⟨ad412, e412, hx412_0, hx412_1, hx412_2, hx412_3⟩ := at_T56 (Kd.V_reads' HO_0.out).2.2 0 p412 q412
                                          obtain rfl : ad400 = ad412 := (by injection e412)
                                          have qi412 : (0 < x0_1.length) = True := eq_true (by omega)
                                          (try rw [show ((0 : Int)).toNat = 0 from rfl] at hx412_0)
                                          (try rw [show 0 * 4 = 0 from rfl] at hx412_0)
                                          (try rw [Addr.add_zero'] at hx412_0)
                                          (try rw [show ((0 : Int)).toNat = 0 from rfl] at hx412_1)
                                          (try rw [show 0 * 4 = 0 from rfl] at hx412_1)
                                          (try rw [Addr.add_zero'] at hx412_1)
                                          (try rw [show ((0 : Int)).toNat = 0 from rfl] at hx412_2)
                                          (try rw [show 0 * 4 = 0 from rfl] at hx412_2)
                                          (try rw [Addr.add_zero'] at hx412_2)
                                          (try rw [show ((0 : Int)).toNat = 0 from rfl] at hx412_3)
                                          (try rw [show 0 * 4 = 0 from rfl] at hx412_3)
                                          (try rw [Addr.add_zero'] at hx412_3)
                                          replace p412 := eq_true p412
                                          replace q412 := eq_true q412
                                          try go_wp2_with (first | ((with_reducible refine gate_builtin (b := .append) (xs := #[.tmp 110, .tmp 116]) rfl ?_); (try (refine gate_guard (by rfl) ?_; dsimp only)); at_builtin; refine Kd.R_append k44 (w0 := w) w.heap.size rfl (.tmp 110) (.tmp 116) 40 44 (.agg #[(.int .i64 0), (.string ⟨#[]⟩)]) 24 rfl Tryd.underlying40 info44 rfl (by decide) (by omega) u8 x8_1 (⟨4, (rd_T56 x0_1 0).f0⟩ : S44) [.int .i64 4, .string ((rd_T56 x0_1 0).f0)] (fun k_ => (w.heap.size ≤ k_)) (fun _ => False) rfl rfl ?aP (fun _ hk => hk.elim) ?aF ?aO ?aB ?aS ?aL ?_; (case aP => exact k44_mkM _ _ _ (⟨4, (rd_T56 x0_1 0).f0⟩ : S44)); (case aB => exact (by repeat (first | (with_reducible first | exact HB.out | apply below_alloc | apply pw_below_drewN | apply below_drew1) | exact HB.out))); (case aF => exact (fun k_ hk => (Nat.le_trans (below_size (by repeat (first | (with_reducible first | exact HB.out | apply below_alloc | apply pw_below_drewN | apply below_drew1) | exact HB.out))) hk))); (case aO => exact (by (with_reducible repeat (first | apply Kd.R_alloc | apply Kd.R_drewN | apply Kd.R_drew)); exact HO_8.out)); (case aS => exact (below_size (by repeat (first | (with_reducible first | exact HB.out | apply below_alloc | apply pw_below_drewN | apply below_drew1) | exact HB.out)))); (case aL => have := LMc74.out; omega); intro v414 w80 ho hb hg hat; rw [← Ny413.out] at ho; have n0_ := Aside0.mk (Kd.V_afterv (ok := (fun k_ => ((P0_ k_ ∨ P1_ k_) ∨ w.heap.size ≤ k_))) (by (with_reducible repeat (first | apply Kd.V_alloc | apply Kd.V_drewN | apply Kd.V_drew)); exact HO_0.out) hg hat); have n1_ := Aside0.mk (Kd.V_afterv (ok := (fun k_ => ((P0_ k_ ∨ P1_ k_) ∨ w.heap.size ≤ k_))) (by (with_reducible repeat (first | apply Kd.V_alloc | apply Kd.V_drewN | apply Kd.V_drew)); exact HO_1.out) hg hat); have n2_ := Aside0.mk (hb); have n3_ := Aside0.mk (ho); clear HO_0; clear HO_1; clear HB; clear HO_8; have HO_0 := n0_; have HO_1 := n1_; have HB := n2_; have HO415 := n3_; clear n0_ n1_ n2_ n3_; clear ho hb hg hat))
                                          have n0_ := Aside0.mk (Kd.V_drew HO_0.out)
                                          have n1_ := Aside0.mk (Kd.V_drew HO_1.out)
                                          have n2_ := Aside0.mk (Kd.R_drew HO415.out)
                                          have n3_ := Aside0.mk (below_drew1 HB.out)
                                          clear HO_0
                                          clear HO_1
                                          clear HO415
                                          clear HB
                                          have HO_0 := n0_
                                          have HO_1 := n1_
                                          have HO415 := n2_
                                          have HB := n3_
                                          clear n0_ n1_ n2_ n3_
                                          have q82 : (1 : Int) ≤ ((x0_1.length : Int) : Int) := of_decide_eq_true (by first | (with_reducible assumption) | assumption)
                                          obtain ⟨i082, hi082, _, hsz82, _⟩ := info_parts info56
                                          have hroom82 : x0_1.length ≤ co78 := (Kd.V_reads' HO_0.out).2.1
                                          have hC82 : Kd.F k56 _ _ (some ad400) x0_1.length x0_1 := (Kd.V_at (base := w.heap.size) HO_0.out).2.2
                                          have hcut82 := cut_from (P := Tryd.prog) 39 56 .i64 Tryd.underlying39 hi082 4 hsz82 (some ad400) x0_1.length co78 1 (by omega) q82
                                          have hr82 := Kd.F_cut (m := (1 : Int).toNat) (c := co78) hC82 (by omega) hroom82
                                          obtain ⟨A82, hA82⟩ : ∃ A1, A1 = (if co78 = (1 : Int).toNat then (some ad400) else ((some ad400) : Option Addr).map (·.add ((1 : Int).toNat * 4))) := ⟨_, rfl⟩
                                          obtain ⟨c82, hc82⟩ : ∃ c1, c1 = co78 - (1 : Int).toNat := ⟨_, rfl⟩
                                          have hy82 : y416.length = x0_1.length - (1 : Int).toNat := (by rw [Ny416.out, List.length_drop] <;> omega)
                                          rw [show (x0_1).drop (1 : Int).toNat = y416 from Ny416.out.symm] at hr82
                                          replace hr82 : Kd.F k56 _ _ A82 y416.length y416 := (by rw [hA82]; exact hr82)
                                          rw [← hy82, ← hA82, ← hc82] at hcut82
                                          have HO420 := Aside0.mk (show Kd.V k56 56 _ w.heap.size _ (.slice A82 y416.length c82) y416 from Kd.V_mk (by rw [hy82, hc82]; exact Nat.sub_le_sub_right hroom82 _) hr82)
                                          have HC420 := Aside0.mk (show y416.length ≤ c82 from by rw [hy82, hc82]; exact Nat.sub_le_sub_right hroom82 _)
                                          clear hr82 hC82 hroom82 hi082 hsz82 hc82
                                          have KY82 := Aside0.mk hy82
                                          have KA82 := Aside0.mk hA82
                                          clear hy82 hA82
                                          replace q82 := eq_true q82
                                          have q83 : (1 : Int) ≤ ((x1_1.length : Int) : Int) := of_decide_eq_true (by first | (with_reducible assumption) | assumption)
                                          obtain ⟨i083, hi083, _, hsz83, _⟩ := info_parts info56
                                          have hroom83 : x1_1.length ≤ co79 := (Kd.V_reads' HO_1.out).2.1
                                          have hC83 : Kd.F k56 _ _ (some ad401) x1_1.length x1_1 := (Kd.V_at (base := w.heap.size) HO_1.out).2.2
                                          have hcut83 := cut_from (P := Tryd.prog) 39 56 .i64 Tryd.underlying39 hi083 4 hsz83 (some ad401) x1_1.length co79 1 (by omega) q83
                                          have hr83 := Kd.F_cut (m := (1 : Int).toNat) (c := co79) hC83 (by omega) hroom83
                                          obtain ⟨A83, hA83⟩ : ∃ A1, A1 = (if co79 = (1 : Int).toNat then (some ad401) else ((some ad401) : Option Addr).map (·.add ((1 : Int).toNat * 4))) := ⟨_, rfl⟩
                                          obtain ⟨c83, hc83⟩ : ∃ c1, c1 = co79 - (1 : Int).toNat := ⟨_, rfl⟩
                                          have hy83 : y421.length = x1_1.length - (1 : Int).toNat := (by rw [Ny421.out, List.length_drop] <;> omega)
                                          rw [show (x1_1).drop (1 : Int).toNat = y421 from Ny421.out.symm] at hr83
                                          replace hr83 : Kd.F k56 _ _ A83 y421.length y421 := (by rw [hA83]; exact hr83)
                                          rw [← hy83, ← hA83, ← hc83] at hcut83
                                          have HO425 := Aside0.mk (show Kd.V k56 56 _ w.heap.size _ (.slice A83 y421.length c83) y421 from Kd.V_mk (by rw [hy83, hc83]; exact Nat.sub_le_sub_right hroom83 _) hr83)
                                          have HC425 := Aside0.mk (show y421.length ≤ c83 from by rw [hy83, hc83]; exact Nat.sub_le_sub_right hroom83 _)
                                          clear hr83 hC83 hroom83 hi083 hsz83 hc83
                                          have KY83 := Aside0.mk hy83
                                          have KA83 := Aside0.mk hA83
                                          clear hy83 hA83
                                          replace q83 := eq_true q83
                                          refine start_ (n := 6) (S := fun w' => True) (ds := []) #[false, false, false, false, false, false] (by kernel_rfl) rfl rfl trivial (fun hHeld => ?_)
                                          generalize w80.drew = w81 at HO_0 HO_1 HO415 HB HO420 HO425 hHeld ⊢
                                          refine pure_ (i := 0) (N := some 118) (v := ?_) (a' := ?_) #[true, false, false, false, false, false] rfl rfl (by kernel_rfl) (fun _ _ _ h => h) (Or.inl ⟨by rfl, ?_⟩) ?_ ?_
                                          rotate_left
                                          · intro w'
                                            go_simp
                                            with_reducible rfl
                                          rotate_left
                                          · simp only [Act.put, List.setIfInBounds_toArray, List.set_cons_zero, List.set_cons_succ, i64_w, i32_w]
                                            rfl
                                          refine pure_ (i := 1) (N := some 119) (v := ?_) (a' := ?_) #[true, true, false, false, false, false] rfl rfl (by kernel_rfl) (fun _ _ _ h => h) (Or.inl ⟨by rfl, ?_⟩) ?_ ?_
                                          rotate_left
                                          · intro w'
                                            go_simp
                                            with_reducible rfl
                                          rotate_left
                                          · simp only [Act.put, List.setIfInBounds_toArray, List.set_cons_zero, List.set_cons_succ, i64_w, i32_w]
                                            rfl
                                          refine pure_ (i := 2) (N := some 120) (v := ?_) (a' := ?_) #[true, true, true, false, false, false] rfl rfl (by kernel_rfl) (fun _ _ _ h => h) (Or.inl ⟨by rfl, ?_⟩) ?_ ?_
                                          rotate_left
                                          · intro w'
                                            go_simp
                                            with_reducible rfl
                                          rotate_left
                                          · simp only [Act.put, List.setIfInBounds_toArray, List.set_cons_zero, List.set_cons_succ, i64_w, i32_w]
                                            rfl
                                          refine pure_ (i := 3) (N := some 121) (v := ?_) (a' := ?_) #[true, true, true, true, false, false] rfl rfl (by kernel_rfl) (fun _ _ _ h => h) (Or.inl ⟨by rfl, ?_⟩) ?_ ?_
                                          rotate_left
                                          · intro w'
                                            go_simp
                                            with_reducible rfl
                                          rotate_left
                                          · simp only [Act.put, List.setIfInBounds_toArray, List.set_cons_zero, List.set_cons_succ, i64_w, i32_w]
                                            rfl
                                          refine pure_ (i := 4) (N := some 0) (v := ?_) (a' := ?_) #[true, true, true, true, true, false] rfl rfl (by kernel_rfl) (fun _ _ _ h => h) (Or.inl ⟨by rfl, ?_⟩) ?_ ?_
                                          rotate_left
                                          · intro w'
                                            go_simp
                                            with_reducible rfl
                                          rotate_left
                                          · simp only [Act.put, List.setIfInBounds_toArray, List.set_cons_zero, List.set_cons_succ, i64_w, i32_w]
                                            rfl
                                          refine pure_ (i := 5) (N := some 1) (v := ?_) (a' := ?_) #[true, true, true, true, true, true] rfl rfl (by kernel_rfl) (fun _ _ _ h => h) (Or.inl ⟨by rfl, ?_⟩) ?_ ?_
                                          rotate_left
                                          · intro w'
                                            go_simp
                                            with_reducible rfl
                                          rotate_left
                                          · simp only [Act.put, List.setIfInBounds_toArray, List.set_cons_zero, List.set_cons_succ, i64_w, i32_w]
                                            rfl
                                          refine done_ (by kernel_rfl) ?_
                                          try go_wp2
                                          go_roundg kj41
                                          case measure => have := HK1.out; have := HJ8.out; have := HJ14.out; have := HJ41.out; omega
                                          case rel => exact ⟨(y416), (y421), (y413), H', ⟨by have := HK1.out; have := HJ8.out; have := HJ14.out; have := HJ41.out; omega⟩, ⟨by (with_reducible repeat (first | apply Kd.V_alloc | apply Kd.V_drewN | apply Kd.V_drew)); exact HO420.out⟩, ⟨by (with_reducible repeat (first | apply Kd.V_alloc | apply Kd.V_drewN | apply Kd.V_drew)); exact HO425.out⟩, ⟨by (with_reducible repeat (first | apply Kd.R_alloc | apply Kd.R_drewN | apply Kd.R_drew)); exact HO415.out⟩, ⟨by repeat (first | (with_reducible first | exact HB.out | apply below_alloc | apply pw_below_drewN | apply below_drew1) | exact HB.out)⟩⟩
                                        · rw [if_neg c76] at H
                                          exact absurd H (by simp)
                                      · rw [if_neg c75] at H
                                        exact absurd H (by simp)
                                    · rw [if_neg c74] at H
                                      exact absurd H (by simp)
                                · rw [if_neg c64] at H
                                  exact absurd H (by simp)
                              · rw [if_neg c63] at H
                                exact absurd H (by simp)
              · replace c14 := Bool.eq_false_iff.mpr c14
                subst c14
                have H1 : (some (x8_1, 0)) = some (r1, r2) := by rw [if_neg (show ¬ (false = true) by decide)] at H; exact H
                clear H
                have H := H1
                clear H1
                simp only [Option.some.injEq, Prod.mk.injEq] at H
                obtain ⟨rfl, rfl⟩ := H
                go_wp2
                go_ret2
                exact ⟨_, by first | rfl | (simp [errW_none, errW_some] <;> rfl) | (simp [*, errW_none, errW_some] <;> rfl), by (with_reducible repeat (first | apply Kd.R_alloc | apply Kd.R_drewN | apply Kd.R_drew)); exact HO_8.out, by repeat (first | (with_reducible first | exact HB.out | apply below_alloc | apply pw_below_drewN | apply below_drew1) | exact HB.out)⟩
    · rw [if_neg c6] at H
      have c6b0 : (t360 == 0) = false := beq_eq_false_iff_ne.mpr c6
      have c6b1 : (t360 != 0) = true := bne_iff_ne.mpr c6
      simp only [Option.some.injEq, Prod.mk.injEq] at H
      obtain ⟨rfl, rfl⟩ := H
      go_enter Tryd.func29, Tryd.ntmps29
      go_wp2_with (first | ((with_reducible refine gate_callee (f := 34) rfl ?_); refine goesL_ (some 11) rfl rfl Tryd.func34 (by kernel_rfl) rfl #[.slice A0 l0.length c0] rfl (by (try simp only [List.map_toArray, List.map_cons, List.map_nil]); first | done | rfl | (simp only [List.length_drop, List.length_take]; rfl)) ?_; (with_reducible refine (tree_Right.calls k _ _ l0 t359 _ ?side1 ?side2 A3.out).mono ?_); (case side1 => repeat (first | exact (Kd.V_reads' HO0.out).2.2 | (with_reducible refine Kd.C_alloc ?_ _) | (with_reducible refine Kd.C_drewN ?_ _) | (with_reducible refine Kd.C_drew ?_))); (case side2 => exact (Kd.V_reads' HO0.out).2.1); rintro e w84 ⟨rfl, hb⟩; refine ⟨_, rfl, ?_⟩; have n0_ := Aside0.mk (Kd.V_below (by (with_reducible repeat (first | apply Kd.V_alloc | apply Kd.V_drewN | apply Kd.V_drew)); exact HO0.out) hb); have n1_ := Aside0.mk (Kd.V_below (by (with_reducible repeat (first | apply Kd.V_alloc | apply Kd.V_drewN | apply Kd.V_drew)); exact HO1.out) hb); have n2_ := Aside0.mk (below_step (by repeat (first | (with_reducible first | exact HB.out | apply below_alloc | apply pw_below_drewN | apply below_drew1) | exact HB.out)) hb); clear HO0; clear HO1; clear HB; have HO0 := n0_; have HO1 := n1_; have HB := n2_; clear n0_ n1_ n2_; (try clear hb); (try clear hb2); (try clear hk); (try clear hi)) | ((with_reducible refine gate_callee (f := 34) rfl ?_); refine goesL_ (some 16) rfl rfl Tryd.func34 (by kernel_rfl) rfl #[.slice A1 l1.length c1] rfl (by (try simp only [List.map_toArray, List.map_cons, List.map_nil]); first | done | rfl | (simp only [List.length_drop, List.length_take]; rfl)) ?_; (with_reducible refine (tree_Right.calls k _ _ l1 t360 _ ?side1 ?side2 A5.out).mono ?_); (case side1 => repeat (first | exact (Kd.V_reads' HO1.out).2.2 | (with_reducible refine Kd.C_alloc ?_ _) | (with_reducible refine Kd.C_drewN ?_ _) | (with_reducible refine Kd.C_drew ?_))); (case side2 => exact (Kd.V_reads' HO1.out).2.1); rintro e w85 ⟨rfl, hb⟩; refine ⟨_, rfl, ?_⟩; have n0_ := Aside0.mk (Kd.V_below (by (with_reducible repeat (first | apply Kd.V_alloc | apply Kd.V_drewN | apply Kd.V_drew)); exact HO0.out) hb); have n1_ := Aside0.mk (Kd.V_below (by (with_reducible repeat (first | apply Kd.V_alloc | apply Kd.V_drewN | apply Kd.V_drew)); exact HO1.out) hb); have n2_ := Aside0.mk (below_step (by repeat (first | (with_reducible first | exact HB.out | apply below_alloc | apply pw_below_drewN | apply below_drew1) | exact HB.out)) hb); clear HO0; clear HO1; clear HB; have HO0 := n0_; have HO1 := n1_; have HB := n2_; clear n0_ n1_ n2_; (try clear hb); (try clear hb2); (try clear hk); (try clear hi)))
      go_ret2
      exact ⟨_, by first | rfl | (simp [errW_none, errW_some] <;> rfl) | (simp [*, errW_none, errW_some] <;> rfl), by first | exact Kd.R_nil _ _ _ _ _ | exact Kd.N_nil _ _ _ _ _ | exact Kd.V_nil _ _ _ _ _ | exact Kd.Q_nil _ _ _ _ _ | exact Kd.S_nil _ _ _ _ _, by repeat (first | (with_reducible first | exact HB.out | apply below_alloc | apply pw_below_drewN | apply below_drew1) | exact HB.out)⟩
  · rw [if_neg c4] at H
    have c4b0 : (t359 == 0) = false := beq_eq_false_iff_ne.mpr c4
    have c4b1 : (t359 != 0) = true := bne_iff_ne.mpr c4
    simp only [Option.some.injEq, Prod.mk.injEq] at H
    obtain ⟨rfl, rfl⟩ := H
    go_enter Tryd.func29, Tryd.ntmps29
    go_wp2_with (first | ((with_reducible refine gate_callee (f := 34) rfl ?_); refine goesL_ (some 11) rfl rfl Tryd.func34 (by kernel_rfl) rfl #[.slice A0 l0.length c0] rfl (by (try simp only [List.map_toArray, List.map_cons, List.map_nil]); first | done | rfl | (simp only [List.length_drop, List.length_take]; rfl)) ?_; (with_reducible refine (tree_Right.calls k _ _ l0 t359 _ ?side1 ?side2 A3.out).mono ?_); (case side1 => repeat (first | exact (Kd.V_reads' HO0.out).2.2 | (with_reducible refine Kd.C_alloc ?_ _) | (with_reducible refine Kd.C_drewN ?_ _) | (with_reducible refine Kd.C_drew ?_))); (case side2 => exact (Kd.V_reads' HO0.out).2.1); rintro e w86 ⟨rfl, hb⟩; refine ⟨_, rfl, ?_⟩; have n0_ := Aside0.mk (Kd.V_below (by (with_reducible repeat (first | apply Kd.V_alloc | apply Kd.V_drewN | apply Kd.V_drew)); exact HO0.out) hb); have n1_ := Aside0.mk (Kd.V_below (by (with_reducible repeat (first | apply Kd.V_alloc | apply Kd.V_drewN | apply Kd.V_drew)); exact HO1.out) hb); have n2_ := Aside0.mk (below_step (by repeat (first | (with_reducible first | exact HB.out | apply below_alloc | apply pw_below_drewN | apply below_drew1) | exact HB.out)) hb); clear HO0; clear HO1; clear HB; have HO0 := n0_; have HO1 := n1_; have HB := n2_; clear n0_ n1_ n2_; (try clear hb); (try clear hb2); (try clear hk); (try clear hi)))
    go_ret2
    exact ⟨_, by first | rfl | (simp [errW_none, errW_some] <;> rfl) | (simp [*, errW_none, errW_some] <;> rfl), by first | exact Kd.R_nil _ _ _ _ _ | exact Kd.N_nil _ _ _ _ _ | exact Kd.V_nil _ _ _ _ _ | exact Kd.Q_nil _ _ _ _ _ | exact Kd.S_nil _ _ _ _ _, by repeat (first | (with_reducible first | exact HB.out | apply below_alloc | apply pw_below_drewN | apply below_drew1) | exact HB.out)⟩
end Go.Proofs.YtafjlibcdlihcaaDoor.G
end
