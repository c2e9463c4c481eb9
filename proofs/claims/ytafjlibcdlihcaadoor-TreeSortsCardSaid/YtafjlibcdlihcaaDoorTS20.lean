/- Texts of this session's claim of TreeSorts, less what its theorem does not reach. No condition. -/
import Derived.Test.YtafjlibcdlihcaaDoorTS13
import Derived.Test.YtafjlibcdlihcaaDoorTS14
import Derived.Test.YtafjlibcdlihcaaDoorTS18
import Derived.Test.YtafjlibcdlihcaaDoorTS19
section
namespace Go.Proofs.YtafjlibcdlihcaaDoor.G
open Go.RowKit Go.Proofs.YtafjlibcdlihcaaDoorW.PrintWords Go.Proofs.YtafjlibcdlihcaaDoorW.PrintLast Go.Proofs.YtafjlibcdlihcaaDoorW.PrintMore
attribute [local go_sem] max2_int min2_int max_two min_two max_three min_three max_four min_four   -- for this text's walks alone
set_option linter.unusedVariables false
set_option linter.unusedSimpArgs false
mutual
def tree_Match.j0 : Nat → ByteArray → ByteArray → Bool → Option (Bool)
  | 0, _, _, _ => none
  | k + 1, x0, x1, x18 => if x18 = true then (some false) else ((strings_Split.f x1 (⟨#[47]⟩ : ByteArray)).bind fun t161 => (if 0 ≤ (wrap64 ((t161.length : Int) + 1)) then (if (wrap64 ((t161.length : Int) + 1) : Int).toNat ≤ 281474976710656 then ((some (List.replicate (wrap64 ((t161.length : Int) + 1) : Int).toNat false : List Bool)).bind fun y164 => (if 0 < (y164.length : Int) then ((strings_Split.f x0 (⟨#[47]⟩ : ByteArray)).bind fun t168 => (tree_Match.l0 k t161 (y164.set (0 : Int).toNat true) t168 (t168.length : Int) 0)) else (none))) else (none)) else (none)))
def tree_Match.l0 : Nat → List ByteArray → List Bool → List ByteArray → Int → Int → Option (Bool)
  | 0, _, _, _, _, _ => none
  | k + 1, x5, x6, x28, x29, x30 => if x30 < x29 then (if 0 ≤ x30 then (if x30 < (x28.length : Int) then (if 0 ≤ (wrap64 ((x5.length : Int) + 1)) then (if (wrap64 ((x5.length : Int) + 1) : Int).toNat ≤ 281474976710656 then ((some (List.replicate (wrap64 ((x5.length : Int) + 1) : Int).toNat false : List Bool)).bind fun y173 => (tree_Match.l1 k x5 x6 (rdOf ByteArray.empty x28 x30) y173 x28 x29 x30 (y173.length : Int) 0)) else (none)) else (none)) else (none)) else (none)) else (if 0 ≤ (x5.length : Int) then (if (x5.length : Int) < (x6.length : Int) then (some (rdOf false x6 (x5.length : Int))) else (none)) else (none))
def tree_Match.l1 : Nat → List ByteArray → List Bool → ByteArray → List Bool → List ByteArray → Int → Int → Int → Int → Option (Bool)
  | 0, _, _, _, _, _, _, _, _, _ => none
  | k + 1, x5, x6, x8, x9, x28, x29, x30, x39, x40 => if x40 < x39 then (if x8.toList = ([42, 42] : List UInt8) then (if 0 ≤ x40 then (if x40 < (x6.length : Int) then (if rdOf false x6 x40 = true then (if x40 < (x9.length : Int) then (tree_Match.l1 k x5 x6 x8 (x9.set (x40 : Int).toNat true) x28 x29 x30 x39 (wrap64 (x40 + 1))) else (none)) else (if x40 > 0 then (if 0 ≤ (wrap64 (x40 - 1)) then (if (wrap64 (x40 - 1)) < (x9.length : Int) then (if x40 < (x9.length : Int) then (tree_Match.l1 k x5 x6 x8 (x9.set (x40 : Int).toNat (rdOf false x9 (wrap64 (x40 - 1)))) x28 x29 x30 x39 (wrap64 (x40 + 1))) else (none)) else (none)) else (none)) else (if x40 < (x9.length : Int) then (tree_Match.l1 k x5 x6 x8 (x9.set (x40 : Int).toNat false) x28 x29 x30 x39 (wrap64 (x40 + 1))) else (none)))) else (none)) else (none)) else (if x40 > 0 then (if 0 ≤ (wrap64 (x40 - 1)) then (if (wrap64 (x40 - 1)) < (x6.length : Int) then (if rdOf false x6 (wrap64 (x40 - 1)) = true then (if (wrap64 (x40 - 1)) < (x5.length : Int) then ((tree_inName.f k x8 (rdOf ByteArray.empty x5 (wrap64 (x40 - 1)))).bind fun t183 => (if 0 ≤ x40 then (if x40 < (x9.length : Int) then (tree_Match.l1 k x5 x6 x8 (x9.set (x40 : Int).toNat t183) x28 x29 x30 x39 (wrap64 (x40 + 1))) else (none)) else (none))) else (none)) else (if 0 ≤ x40 then (if x40 < (x9.length : Int) then (tree_Match.l1 k x5 x6 x8 (x9.set (x40 : Int).toNat false) x28 x29 x30 x39 (wrap64 (x40 + 1))) else (none)) else (none))) else (none)) else (none)) else (tree_Match.l1 k x5 x6 x8 x9 x28 x29 x30 x39 (wrap64 (x40 + 1))))) else (tree_Match.l0 k x5 x9 x28 x29 (wrap64 (x30 + 1)))
end
def tree_Match.f (k : Nat) (a0 : ByteArray) (a1 : ByteArray) : Option (Bool) := (tree_Pattern.f k a0).bind fun t159 => (if t159 = 0 then ((tree_Path.f k a1).bind fun t160 => (tree_Match.j0 k a0 a1 (t160 != 0))) else (tree_Match.j0 k a0 a1 true))
theorem tree_Match.mono_l : ∀ k, (∀ y0 y1 y2, LeO (tree_Match.j0 k y0 y1 y2) (tree_Match.j0 (k + 1) y0 y1 y2)) ∧ (∀ y0 y1 y2 y3 y4, LeO (tree_Match.l0 k y0 y1 y2 y3 y4) (tree_Match.l0 (k + 1) y0 y1 y2 y3 y4)) ∧ (∀ y0 y1 y2 y3 y4 y5 y6 y7 y8, LeO (tree_Match.l1 k y0 y1 y2 y3 y4 y5 y6 y7 y8) (tree_Match.l1 (k + 1) y0 y1 y2 y3 y4 y5 y6 y7 y8))
  | 0 => ⟨fun _ _ _ r h => by simp [tree_Match.j0] at h, fun _ _ _ _ _ r h => by simp [tree_Match.l0] at h, fun _ _ _ _ _ _ _ _ _ r h => by simp [tree_Match.l1] at h⟩
  | k + 1 => by
    obtain ⟨ih0, ih1, ih2⟩ := tree_Match.mono_l k
    refine ⟨?_, ?_, ?_⟩
    · intro y0 y1 y2
      unfold tree_Match.j0
      repeat' first
      | (with_reducible exact ih0 _ _ _)
      | (with_reducible exact ih1 _ _ _ _ _)
      | (with_reducible exact ih2 _ _ _ _ _ _ _ _ _)
      | (with_reducible exact tree_Path.mono _ _)
      | (with_reducible exact tree_Pattern.mono _ _)
      | (with_reducible exact tree_inName.mono _ _ _)
      | (with_reducible exact LeO.refl _)
      | (with_reducible exact LeO.none _)
      | (with_reducible refine LeO.ite ?_ ?_)
      | (with_reducible refine LeO.bind ?_ (fun _ => ?_))
      | exact ih0 _ _ _
      | exact ih1 _ _ _ _ _
      | exact ih2 _ _ _ _ _ _ _ _ _
      | exact tree_Path.mono _ _
      | exact tree_Pattern.mono _ _
      | exact tree_inName.mono _ _ _
      | exact LeO.none _
      | refine LeO.ite ?_ ?_
      | refine LeO.bind ?_ (fun _ => ?_)
    · intro y0 y1 y2 y3 y4
      unfold tree_Match.l0
      repeat' first
      | (with_reducible exact ih0 _ _ _)
      | (with_reducible exact ih1 _ _ _ _ _)
      | (with_reducible exact ih2 _ _ _ _ _ _ _ _ _)
      | (with_reducible exact tree_Path.mono _ _)
      | (with_reducible exact tree_Pattern.mono _ _)
      | (with_reducible exact tree_inName.mono _ _ _)
      | (with_reducible exact LeO.refl _)
      | (with_reducible exact LeO.none _)
      | (with_reducible refine LeO.ite ?_ ?_)
      | (with_reducible refine LeO.bind ?_ (fun _ => ?_))
      | exact ih0 _ _ _
      | exact ih1 _ _ _ _ _
      | exact ih2 _ _ _ _ _ _ _ _ _
      | exact tree_Path.mono _ _
      | exact tree_Pattern.mono _ _
      | exact tree_inName.mono _ _ _
      | exact LeO.none _
      | refine LeO.ite ?_ ?_
      | refine LeO.bind ?_ (fun _ => ?_)
    · intro y0 y1 y2 y3 y4 y5 y6 y7 y8
      unfold tree_Match.l1
      repeat' first
      | (with_reducible exact ih0 _ _ _)
      | (with_reducible exact ih1 _ _ _ _ _)
      | (with_reducible exact ih2 _ _ _ _ _ _ _ _ _)
      | (with_reducible exact tree_Path.mono _ _)
      | (with_reducible exact tree_Pattern.mono _ _)
      | (with_reducible exact tree_inName.mono _ _ _)
      | (with_reducible exact LeO.refl _)
      | (with_reducible exact LeO.none _)
      | (with_reducible refine LeO.ite ?_ ?_)
      | (with_reducible refine LeO.bind ?_ (fun _ => ?_))
      | exact ih0 _ _ _
      | exact ih1 _ _ _ _ _
      | exact ih2 _ _ _ _ _ _ _ _ _
      | exact tree_Path.mono _ _
      | exact tree_Pattern.mono _ _
      | exact tree_inName.mono _ _ _
      | exact LeO.none _
      | refine LeO.ite ?_ ?_
      | refine LeO.bind ?_ (fun _ => ?_)
theorem tree_Match.mono : ∀ a0 a1 k, LeO (tree_Match.f k a0 a1) (tree_Match.f (k + 1) a0 a1) := by
  intro a0 a1 k
  obtain ⟨ih0, ih1, ih2⟩ := tree_Match.mono_l k
  unfold tree_Match.f
  repeat' first
      | (with_reducible exact ih0 _ _ _)
      | (with_reducible exact ih1 _ _ _ _ _)
      | (with_reducible exact ih2 _ _ _ _ _ _ _ _ _)
      | (with_reducible exact tree_Path.mono _ _)
      | (with_reducible exact tree_Pattern.mono _ _)
      | (with_reducible exact tree_inName.mono _ _ _)
      | (with_reducible exact LeO.refl _)
      | (with_reducible exact LeO.none _)
      | (with_reducible refine LeO.ite ?_ ?_)
      | (with_reducible refine LeO.bind ?_ (fun _ => ?_))
      | exact ih0 _ _ _
      | exact ih1 _ _ _ _ _
      | exact ih2 _ _ _ _ _ _ _ _ _
      | exact tree_Path.mono _ _
      | exact tree_Pattern.mono _ _
      | exact tree_inName.mono _ _ _
      | exact LeO.none _
      | refine LeO.ite ?_ ?_
      | refine LeO.bind ?_ (fun _ => ?_)
set_option maxHeartbeats 8000000 in
set_option maxRecDepth 100000 in
theorem tree_Match.calls (k : Nat) (a0 : ByteArray) (a1 : ByteArray) (r : Bool) (w : World) (h : tree_Match.f k a0 a1 = some r) :
    Calls Tryd.prog 23 #[.string a0, .string a1] w fun e w' => e = .returned (.bool r) ∧ Below w.heap.size w w' := by
  have HB := Aside0.mk (Below.refl w.heap.size w)
  have H : ((tree_Pattern.f k a0).bind fun t159 => (if t159 = 0 then ((tree_Path.f k a1).bind fun t160 => (tree_Match.j0 k a0 a1 (t160 != 0))) else (tree_Match.j0 k a0 a1 true))) = some r := h
  clear h
  have HC3 := Aside0.mk H
  clear H
  go_enter Tryd.func23, Tryd.ntmps23
  go_upto_region 1 with (fail)
  go_cut [18] (fun v18 wc => ∃ (kq : Nat) (x18_2 : Bool), v18 = .bool x18_2 ∧ Aside0 (tree_Match.j0 kq a0 a1 x18_2 = some r) ∧ Aside0 (kq ≤ k) ∧ Aside0 (Below w.heap.size w wc))
  case first =>
    have H := HC3.out
    clear HC3
    replace H := Option.bind_eq_some_iff.mp H
    obtain ⟨t159, A40, H⟩ := H
    replace H : (if t159 = 0 then ((tree_Path.f k a1).bind fun t160 => (tree_Match.j0 k a0 a1 (t160 != 0))) else (tree_Match.j0 k a0 a1 true)) = some r := H
    have A4 := Aside0.mk A40
    clear A40
    by_cases c5 : t159 = 0
    · rw [if_pos c5] at H
      have c5b0 : (t159 == 0) = true := beq_iff_eq.mpr c5
      have c5b1 : (t159 != 0) = false := bne_eq_false_iff_eq.mpr c5
      clear c5
      (first | rw [c5b0] | (simp only [i64_w, i32_w]; rw [c5b0]) | skip)
      replace H := Option.bind_eq_some_iff.mp H
      obtain ⟨t160, A60, H⟩ := H
      replace H : (tree_Match.j0 k a0 a1 (t160 != 0)) = some r := H
      have A6 := Aside0.mk A60
      clear A60
      have H' := Aside0.mk H
      clear H
      go_wp2_with (first | ((with_reducible refine gate_callee (f := 21) rfl ?_); refine goesL_ (some 12) rfl rfl Tryd.func21 (by kernel_rfl) rfl #[.string a0] rfl (by (try simp only [List.map_toArray, List.map_cons, List.map_nil]); first | done | rfl | (simp only [List.length_drop, List.length_take]; rfl)) ?_; (with_reducible refine (tree_Pattern.calls k a0 t159 _ A4.out).mono ?_); rintro e w7 ⟨rfl, hb⟩; refine ⟨_, rfl, ?_⟩; have n0_ := Aside0.mk (below_step (by repeat (first | (with_reducible first | exact HB.out | apply below_alloc | apply pw_below_drewN | apply below_drew1) | exact HB.out)) hb); clear HB; have HB := n0_; clear n0_; (try clear hb); (try clear hb2); (try clear hk); (try clear hi)) | (go_at_call 14; (with_reducible refine (tree_Path.calls k a1 t160 _ A6.out).mono ?_); rintro e w8 ⟨rfl, hb⟩; have n0_ := Aside0.mk (below_step (by repeat (first | (with_reducible first | exact HB.out | apply below_alloc | apply pw_below_drewN | apply below_drew1) | exact HB.out)) hb); clear HB; have HB := n0_; clear n0_; (try clear hb); (try clear hb2); (try clear hk); (try clear hi)))
      go_meet
      case rel => exact ⟨_, ((t160 != 0)), (by first | rfl | (simp; done) | (simp [*]; done)), H', ⟨by first | omega | exact Nat.le_refl _⟩, ⟨by repeat (first | (with_reducible first | exact HB.out | apply below_alloc | apply pw_below_drewN | apply below_drew1) | exact HB.out)⟩⟩
    · rw [if_neg c5] at H
      have c5b0 : (t159 == 0) = false := beq_eq_false_iff_ne.mpr c5
      have c5b1 : (t159 != 0) = true := bne_iff_ne.mpr c5
      (first | rw [c5b0] | (simp only [i64_w, i32_w]; rw [c5b0]) | skip)
      have H' := Aside0.mk H
      clear H
      go_wp2_with (first | ((with_reducible refine gate_callee (f := 21) rfl ?_); refine goesL_ (some 12) rfl rfl Tryd.func21 (by kernel_rfl) rfl #[.string a0] rfl (by (try simp only [List.map_toArray, List.map_cons, List.map_nil]); first | done | rfl | (simp only [List.length_drop, List.length_take]; rfl)) ?_; (with_reducible refine (tree_Pattern.calls k a0 t159 _ A4.out).mono ?_); rintro e w9 ⟨rfl, hb⟩; refine ⟨_, rfl, ?_⟩; have n0_ := Aside0.mk (below_step (by repeat (first | (with_reducible first | exact HB.out | apply below_alloc | apply pw_below_drewN | apply below_drew1) | exact HB.out)) hb); clear HB; have HB := n0_; clear n0_; (try clear hb); (try clear hb2); (try clear hk); (try clear hi)))
      go_meet
      case rel => exact ⟨_, (true), (by first | rfl | (simp; done) | (simp [*]; done)), H', ⟨by first | omega | exact Nat.le_refl _⟩, ⟨by repeat (first | (with_reducible first | exact HB.out | apply below_alloc | apply pw_below_drewN | apply below_drew1) | exact HB.out)⟩⟩
  case rest =>
    clear HC3
    try clear c2
    try clear p2
    try clear c5
    try clear c5b0
    try clear c5b1
    obtain ⟨kq, x18_2, rfl, HA, HJ2, HB⟩ := hcut
    cases kq with
    | zero => exact absurd HA.out (by simp [tree_Match.j0])
    | succ kj2 =>
      have H := HA.out
      clear HA
      simp only [tree_Match.j0] at H
      by_cases c10 : x18_2 = true
      · subst c10
        have H1 : (some false) = some r := by rw [if_pos rfl] at H; exact H
        clear H
        have H := H1
        clear H1
        obtain rfl := Option.some.inj H
        go_wp2
        go_ret
        exact ⟨by first | rfl | (simp [errW_none, errW_some] <;> rfl) | (simp [*, errW_none, errW_some] <;> rfl), by repeat (first | (with_reducible first | exact HB.out | apply below_alloc | apply pw_below_drewN | apply below_drew1) | exact HB.out)⟩
      · replace c10 := Bool.eq_false_iff.mpr c10
        subst c10
        have H1 : ((strings_Split.f a1 (⟨#[47]⟩ : ByteArray)).bind fun t161 => (if 0 ≤ (wrap64 ((t161.length : Int) + 1)) then (if (wrap64 ((t161.length : Int) + 1) : Int).toNat ≤ 281474976710656 then ((some (List.replicate (wrap64 ((t161.length : Int) + 1) : Int).toNat false : List Bool)).bind fun y164 => (if 0 < (y164.length : Int) then ((strings_Split.f a0 (⟨#[47]⟩ : ByteArray)).bind fun t168 => (tree_Match.l0 kj2 t161 (y164.set (0 : Int).toNat true) t168 (t168.length : Int) 0)) else (none))) else (none)) else (none))) = some r := by rw [if_neg (show ¬ (false = true) by decide)] at H; exact H
        clear H
        have H := H1
        clear H1
        replace H := Option.bind_eq_some_iff.mp H
        obtain ⟨t161, A110, H⟩ := H
        replace H : (if 0 ≤ (wrap64 ((t161.length : Int) + 1)) then (if (wrap64 ((t161.length : Int) + 1) : Int).toNat ≤ 281474976710656 then ((some (List.replicate (wrap64 ((t161.length : Int) + 1) : Int).toNat false : List Bool)).bind fun y164 => (if 0 < (y164.length : Int) then ((strings_Split.f a0 (⟨#[47]⟩ : ByteArray)).bind fun t168 => (tree_Match.l0 kj2 t161 (y164.set (0 : Int).toNat true) t168 (t168.length : Int) 0)) else (none))) else (none)) else (none)) = some r := H
        have A11 := Aside0.mk A110
        clear A110
        obtain ⟨ji12, hji12⟩ : ∃ j_ : Int, (wrap64 ((t161.length : Int) + 1)) = j_ := ⟨_, rfl⟩
        replace H : (if 0 ≤ (ji12) then (if (ji12 : Int).toNat ≤ 281474976710656 then ((some (List.replicate (ji12 : Int).toNat false : List Bool)).bind fun y164 => (if 0 < (y164.length : Int) then ((strings_Split.f a0 (⟨#[47]⟩ : ByteArray)).bind fun t168 => (tree_Match.l0 kj2 t161 (y164.set (0 : Int).toNat true) t168 (t168.length : Int) 0)) else (none))) else (none)) else (none)) = some r := by first | (rw [hji12] at H; exact H) | (simp only [hji12] at H ⊢; exact H)
        (try rw [hji12] at A11)
        have hji12w : (IntKind.i64.wrap ((t161.length : Int) + 1)) = ji12 := (i64_w _).trans hji12
        by_cases c13 : 0 ≤ (ji12)
        · rw [if_pos c13] at H
          have c13b0 := eq_true c13
          have c13b1 : decide (0 ≤ (ji12)) = true := decide_eq_true c13
          clear c13
          by_cases c14 : (ji12 : Int).toNat ≤ 281474976710656
          · rw [if_pos c14] at H
            have c14b0 := eq_true c14
            have c14b1 : decide ((ji12 : Int).toNat ≤ 281474976710656) = true := decide_eq_true c14
            clear c14
            obtain ⟨y164, hy164⟩ : ∃ y_ : List Bool, y_ = (List.replicate (ji12 : Int).toNat false) := ⟨_, rfl⟩
            replace H : (if 0 < (y164.length : Int) then ((strings_Split.f a0 (⟨#[47]⟩ : ByteArray)).bind fun t168 => (tree_Match.l0 kj2 t161 (y164.set (0 : Int).toNat true) t168 (t168.length : Int) 0)) else (none)) = some r := by first | (rw [hy164]; with_reducible exact H) | (have H2_ := (Option.bind_some _ _).symm.trans H; rw [hy164]; with_reducible exact H2_) | (have H2_ := (Option.bind_some _ _).symm.trans H; with_reducible exact H2_) | with_reducible exact H | (rw [hy164]; exact H) | exact H
            have Ny164 := Aside0.mk hy164
            clear hy164
            by_cases c15 : 0 < (y164.length : Int)
            · rw [if_pos c15] at H
              have c15b0 : decide (0 < (y164.length : Int)) = true := decide_eq_true c15
              have c15b1 : decide (0 < y164.length) = true := decide_eq_true (by omega)
              clear c15
              obtain ⟨y167, hy167⟩ : ∃ y_ : List Bool, y_ = (y164.set (0 : Int).toNat true) := ⟨_, rfl⟩
              replace H : ((strings_Split.f a0 (⟨#[47]⟩ : ByteArray)).bind fun t168 => (tree_Match.l0 kj2 t161 y167 t168 (t168.length : Int) 0)) = some r := by first | (rw [hy167]; with_reducible exact H) | (have H2_ := (Option.bind_some _ _).symm.trans H; rw [hy167]; with_reducible exact H2_) | (have H2_ := (Option.bind_some _ _).symm.trans H; with_reducible exact H2_) | with_reducible exact H | (rw [hy167]; exact H) | exact H
              have Ny167 := Aside0.mk hy167
              clear hy167
              replace H := Option.bind_eq_some_iff.mp H
              obtain ⟨t168, A170, H⟩ := H
              replace H : (tree_Match.l0 kj2 t161 y167 t168 (t168.length : Int) 0) = some r := H
              have A17 := Aside0.mk A170
              clear A170
              have H' := Aside0.mk H
              clear H
              go_wp2_with (first | ((with_reducible refine gate_callee (f := 44) rfl ?_); refine goesL_ (some 20) rfl rfl Tryd.func44 (by kernel_rfl) rfl #[.string a1, .string (⟨#[47]⟩ : ByteArray)] rfl (by (try simp only [List.map_toArray, List.map_cons, List.map_nil]); first | done | rfl | (simp only [List.length_drop, List.length_take]; rfl)) ?_; (with_reducible refine (strings_Split.calls a1 (⟨#[47]⟩ : ByteArray) t161 _ A11.out).mono ?_); rintro e w18 ⟨v162, rfl, ho0, hb⟩; refine ⟨_, rfl, ?_⟩; have n0_ := Aside0.mk (Kd.R_lower ho0 (below_size (by repeat (first | (with_reducible first | exact HB.out | apply below_alloc | apply pw_below_drewN | apply below_drew1) | exact HB.out)))); have n1_ := Aside0.mk (below_step (by repeat (first | (with_reducible first | exact HB.out | apply below_alloc | apply pw_below_drewN | apply below_drew1) | exact HB.out)) hb); clear HB; have HO163 := n0_; have HB := n1_; clear n0_ n1_; (try clear hb); (try clear hb2); (try clear hk); (try clear hi); (try clear ho0); obtain ⟨Ao19, co19, eo19⟩ := Kd.R_slice HO163.out; subst eo19) | ((with_reducible refine gate_dst (N := 24) rfl ?_); refine Kd.R_make Kd.bool _ 4 rfl (N := 24) rfl 67 _ _ rfl ji12 rfl rfl Tryd.underlying67 (.bool false) 1 info4 rfl (by decide) (by omega) false (ok := fun _ => True) (okp := fun _ => True) rfl (fun _ hk => hk) trivial (of_decide_eq_true (by first | (with_reducible assumption) | assumption)) (Nat.le_trans (Nat.mul_le_mul_right _ (of_decide_eq_true (by first | (with_reducible assumption) | assumption) : ji12.toNat ≤ 281474976710656)) (by omega)) (Below.refl _ _) (Nat.le_refl _) ?_; intro v165 w20 ho21 hb hg_ hnew_; clear hg_ hnew_; (first | rw [← Ny164.out] at ho21 | (simp only [Int.reduceToNat] at ho21; rw [← Ny164.out] at ho21)); have n0_ := Aside0.mk (Kd.R_below (by (with_reducible repeat (first | apply Kd.R_alloc | apply Kd.R_drewN | apply Kd.R_drew)); exact HO163.out) hb); have n1_ := Aside0.mk (Kd.R_lower ho21 (below_size (by repeat (first | (with_reducible first | exact HB.out | apply below_alloc | apply pw_below_drewN | apply below_drew1) | exact HB.out)))); have n2_ := Aside0.mk (below_step (by repeat (first | (with_reducible first | exact HB.out | apply below_alloc | apply pw_below_drewN | apply below_drew1) | exact HB.out)) hb); clear HO163; clear HB; have HO163 := n0_; have HO166 := n1_; have HB := n2_; clear n0_ n1_ n2_; clear hb ho21; have p16 : 0 ≤ (0 : Int) := (by omega); have q16 : (0 : Int) < ((y164.length : Int) : Int) := of_decide_eq_true (by first | (with_reducible assumption) | assumption); have qi16 : (0 < y164.length) = True := eq_true (by omega); obtain ⟨go16, co16, eo16, gb16, gl16, cl16, HG16⟩ := Kd.R_form HO166.out (by omega); (first | cases eo16 | (injection eo16 with ea_ en_ ec_; (first | subst ea_ | (injection ea_ with ea_; subst ea_)); subst ec_; clear en_)); have GB16 := Aside0.mk gb16; have GG16 := Aside0.mk HG16; clear gb16 gl16 HG16; obtain ⟨hx16_0, hf16_0⟩ := Kd.R_celln false HO166.out (0 : Int) p16 q16; (try rw [show ((0 : Int)).toNat = 0 from rfl] at hx16_0); (try simp only [Nat.reduceMul, Nat.zero_mul, Nat.zero_add, Nat.reduceAdd] at hx16_0); (try rw [show ((0 : Int)).toNat = 0 from rfl] at hf16_0); (try simp only [Nat.reduceMul, Nat.zero_mul, Nat.zero_add, Nat.reduceAdd] at hf16_0); replace p16 := eq_true p16; replace q16 := eq_true q16; obtain ⟨hy22_, hz22_⟩ := Kd.R_celln false HO166.out (0 : Int) (by omega) (of_decide_eq_true (by first | (with_reducible assumption) | assumption)); (try simp only [Int.reduceToNat, Int.toNat_zero, Int.toNat_ofNat, Nat.reduceMul, Nat.zero_mul, Nat.zero_add] at hy22_ hz22_); (try rw [show ((0 : Int)).toNat = 0 from rfl] at hy22_); (try rw [show ((0 : Int)).toNat = 0 from rfl] at hz22_); have HP22 := Kd.R_putg HO166.out (0 : Int) true) | ((with_reducible refine gate_store (t := 4) (p := 26) rfl ?_); refine store_event (t := 4) (p := 26) (v := ?vo_w23) (w1 := (w20.setCell ⟨go16, (0 : Int).toNat, none⟩ (.bool true))) ?hg ?ho ?hn ?hr ?_; (case ho => rfl); (case hg => rfl); (case hn => rfl); (case hr => first | (go_simp; done) | (go_simp; rfl)); intro w23 hw; have hg : w20.grownBy w23 (some go16) := (by rw [hw]; exact HP22.2); have hp_ : Kd.R Kd.bool 4 w23 w.heap.size (fun _ => True) (.slice (some ⟨go16, 0, none⟩) y164.length co16) y167 := (by rw [hw, Ny167.out]; exact HP22.1); clear HP22; have n0_ := Aside0.mk (Kd.R_over' (v := (.slice (some ⟨go16, 0, none⟩) y164.length co16)) (by (with_reducible repeat (first | apply Kd.R_alloc | apply Kd.R_drewN | apply Kd.R_drew)); exact HO163.out) (Kd.R_typed HO166.out) (by decide) hg); have n1_ := Aside0.mk (hp_); have n2_ := Aside0.mk ((by rw [hw]; exact below_set (HB.out) GB16.out : Below w.heap.size w w23)); clear HO163; clear HO166; clear HB; have HO163 := n0_; have HO166 := n1_; have HB := n2_; clear n0_ n1_ n2_; clear hg hw hp_) | ((with_reducible refine gate_callee (f := 44) rfl ?_); refine goesL_ (some 28) rfl rfl Tryd.func44 (by kernel_rfl) rfl #[.string a0, .string (⟨#[47]⟩ : ByteArray)] rfl (by (try simp only [List.map_toArray, List.map_cons, List.map_nil]); first | done | rfl | (simp only [List.length_drop, List.length_take]; rfl)) ?_; (with_reducible refine (strings_Split.calls a0 (⟨#[47]⟩ : ByteArray) t168 _ A17.out).mono ?_); rintro e w24 ⟨v169, rfl, ho0, hb⟩; refine ⟨_, rfl, ?_⟩; have n0_ := Aside0.mk (Kd.R_elder' (by (with_reducible repeat (first | apply Kd.R_alloc | apply Kd.R_drewN | apply Kd.R_drew)); exact HO163.out) (Kd.R_base ho0) hb); have n1_ := Aside0.mk (Kd.R_below (by (with_reducible repeat (first | apply Kd.R_alloc | apply Kd.R_drewN | apply Kd.R_drew)); exact HO166.out) hb); have n2_ := Aside0.mk (Kd.R_lower (Kd.R_new' ho0 (Kd.R_lt (by (with_reducible repeat (first | apply Kd.R_alloc | apply Kd.R_drewN | apply Kd.R_drew)); exact HO163.out))) (below_size (by repeat (first | (with_reducible first | exact HB.out | apply below_alloc | apply pw_below_drewN | apply below_drew1) | exact HB.out)))); have n3_ := Aside0.mk (below_step (by repeat (first | (with_reducible first | exact HB.out | apply below_alloc | apply pw_below_drewN | apply below_drew1) | exact HB.out)) hb); clear HO163; clear HO166; clear HB; have HO163 := n0_; have HO166 := n1_; have HO170 := n2_; have HB := n3_; clear n0_ n1_ n2_ n3_; (try clear hb); (try clear hb2); (try clear hk); (try clear hi); (try clear ho0); obtain ⟨Ao25, co25, eo25⟩ := Kd.R_slice HO170.out; subst eo25))
              go_loopg [6, 30] kj2 (fun kq v6 v30 w' => ∃ (x6_2 : List Bool) (x30_2 : Int), v30 = .int .i64 x30_2 ∧ Aside0 (tree_Match.l0 kq t161 x6_2 t168 (t168.length : Int) x30_2 = some r) ∧ Aside0 (kq ≤ kj2) ∧ Aside0 (Kd.R Kd.string 9 w' w.heap.size (fun k_ => some k_ ≠ ((.slice Ao25 t168.length co25) : Value).ownBlock) (.slice Ao19 t161.length co19) t161) ∧ Aside0 (Kd.R Kd.bool 4 w' w.heap.size (fun _ => True) v6 x6_2) ∧ Aside0 (Kd.R Kd.string 9 w' w.heap.size (fun k_ => some k_ ≠ ((.slice Ao19 t161.length co19) : Value).ownBlock) (.slice Ao25 t168.length co25) t168) ∧ Aside0 (Below w.heap.size w w'))
              case atStart => exact ⟨(y167), (0), (by first | rfl | (simp; done) | (simp [*]; done)), H', ⟨Nat.le_refl _⟩, ⟨by (with_reducible repeat (first | apply Kd.R_alloc | apply Kd.R_drewN | apply Kd.R_drew)); exact Kd.R_mono HO163.out (fun _ hk => hk.2)⟩, ⟨by (with_reducible repeat (first | apply Kd.R_alloc | apply Kd.R_drewN | apply Kd.R_drew)); exact HO166.out⟩, ⟨by (with_reducible repeat (first | apply Kd.R_alloc | apply Kd.R_drewN | apply Kd.R_drew)); exact Kd.R_mono HO170.out (fun _ hk => hk.2)⟩, ⟨by repeat (first | (with_reducible first | exact HB.out | apply below_alloc | apply pw_below_drewN | apply below_drew1) | exact HB.out)⟩⟩
              case round =>
                clear H'
                try clear c1
                try clear p1
                try clear q1
                try clear hx1
                try clear qi1
                try clear c2
                try clear p2
                try clear c4
                try clear c5
                try clear c5b0
                try clear c5b1
                try clear p6
                try clear c10
                try clear c13
                try clear c13b0
                try clear c13b1
                try clear c14
                try clear c14b0
                try clear c14b1
                try clear c15
                try clear c15b0
                try clear c15b1
                try clear p16
                try clear q16
                try clear hx16
                try clear qi16
                try clear hf16
                try clear c21
                try clear c23
                try clear hx16_0
                try clear p16
                try clear p2
                try clear q16
                obtain ⟨x6_2, x30_2, rfl, HA, HK2, HO_5, HO_6, HO_28, HB⟩ := hrel
                cases gk with
                | zero => exact absurd HA.out (by simp [tree_Match.l0])
                | succ k2 =>
                  have H := HA.out
                  clear HA
                  simp only [tree_Match.l0] at H
                  by_cases c26 : x30_2 < (t168.length : Int)
                  · rw [if_pos c26] at H
                    have c26b0 : decide (x30_2 < (t168.length : Int)) = true := decide_eq_true c26
                    clear c26
                    by_cases c27 : 0 ≤ x30_2
                    · rw [if_pos c27] at H
                      have c27b0 : decide (0 ≤ x30_2) = true := decide_eq_true c27
                      clear c27
                      by_cases c28 : x30_2 < (t168.length : Int)
                      · rw [if_pos c28] at H
                        have c28b0 : decide (x30_2 < (t168.length : Int)) = true := decide_eq_true c28
                        clear c28
                        obtain ⟨ji29, hji29⟩ : ∃ j_ : Int, (wrap64 ((t161.length : Int) + 1)) = j_ := ⟨_, rfl⟩
                        (try (have hjq_ : ji29 = ji12 := hji29.symm.trans hji12; subst hjq_))
                        replace H : (if 0 ≤ (ji29) then (if (ji29 : Int).toNat ≤ 281474976710656 then ((some (List.replicate (ji29 : Int).toNat false : List Bool)).bind fun y173 => (tree_Match.l1 k2 t161 x6_2 (rdOf ByteArray.empty t168 x30_2) y173 t168 (t168.length : Int) x30_2 (y173.length : Int) 0)) else (none)) else (none)) = some r := by first | (rw [hji29] at H; exact H) | (simp only [hji29] at H ⊢; exact H)
                        have hji29w : (IntKind.i64.wrap ((t161.length : Int) + 1)) = ji29 := (i64_w _).trans hji29
                        by_cases c30 : 0 ≤ (ji29)
                        · rw [if_pos c30] at H
                          have c30b0 := eq_true c30
                          have c30b1 : decide (0 ≤ (ji29)) = true := decide_eq_true c30
                          clear c30
                          by_cases c31 : (ji29 : Int).toNat ≤ 281474976710656
                          · rw [if_pos c31] at H
                            have c31b0 := eq_true c31
                            have c31b1 : decide ((ji29 : Int).toNat ≤ 281474976710656) = true := decide_eq_true c31
                            clear c31
                            obtain ⟨y173, hy173⟩ : ∃ y_ : List Bool, y_ = (List.replicate (ji29 : Int).toNat false) := ⟨_, rfl⟩
                            replace H : (tree_Match.l1 k2 t161 x6_2 (rdOf ByteArray.empty t168 x30_2) y173 t168 (t168.length : Int) x30_2 (y173.length : Int) 0) = some r := by first | (rw [hy173]; with_reducible exact H) | (have H2_ := (Option.bind_some _ _).symm.trans H; rw [hy173]; with_reducible exact H2_) | (have H2_ := (Option.bind_some _ _).symm.trans H; with_reducible exact H2_) | with_reducible exact H | (rw [hy173]; exact H) | exact H
                            have Ny173 := Aside0.mk hy173
                            clear hy173
                            have H' := Aside0.mk H
                            clear H
                            have p172 : 0 ≤ (x30_2 : Int) := of_decide_eq_true (by first | (with_reducible assumption) | assumption)
                            have q172 : x30_2 < (t168.length : Int) := of_decide_eq_true (by first | (with_reducible assumption) | assumption)
                            obtain ⟨ad172, e172, hx172_0⟩ := Kd.at_string (Kd.R_reads' HO_28.out).2.2 x30_2 p172 q172
                            cases e172
                            replace p172 := eq_true p172
                            replace q172 := eq_true q172
                            go_wp2_with (first | ((with_reducible refine gate_dst (N := 37) rfl ?_); refine Kd.R_make Kd.bool _ 4 rfl (N := 37) rfl 67 _ _ rfl ji29 rfl rfl Tryd.underlying67 (.bool false) 1 info4 rfl (by decide) (by omega) false (ok := fun _ => True) (okp := fun _ => True) rfl (fun _ hk => hk) trivial (of_decide_eq_true (by first | (with_reducible assumption) | assumption)) (Nat.le_trans (Nat.mul_le_mul_right _ (of_decide_eq_true (by first | (with_reducible assumption) | assumption) : ji29.toNat ≤ 281474976710656)) (by omega)) (Below.refl _ _) (Nat.le_refl _) ?_; intro v174 w32 ho33 hb hg_ hnew_; clear hg_ hnew_; (first | rw [← Ny173.out] at ho33 | (simp only [Int.reduceToNat] at ho33; rw [← Ny173.out] at ho33)); have n0_ := Aside0.mk (Kd.R_below (by (with_reducible repeat (first | apply Kd.R_alloc | apply Kd.R_drewN | apply Kd.R_drew)); exact HO_5.out) hb); have n1_ := Aside0.mk (Kd.R_elder' (by (with_reducible repeat (first | apply Kd.R_alloc | apply Kd.R_drewN | apply Kd.R_drew)); exact HO_6.out) (Kd.R_base ho33) hb); have n2_ := Aside0.mk (Kd.R_below (by (with_reducible repeat (first | apply Kd.R_alloc | apply Kd.R_drewN | apply Kd.R_drew)); exact HO_28.out) hb); have n3_ := Aside0.mk (Kd.R_lower (Kd.R_new' ho33 (Kd.R_lt (by (with_reducible repeat (first | apply Kd.R_alloc | apply Kd.R_drewN | apply Kd.R_drew)); exact HO_6.out))) (below_size (by repeat (first | (with_reducible first | exact HB.out | apply below_alloc | apply pw_below_drewN | apply below_drew1) | exact HB.out)))); have n4_ := Aside0.mk (below_step (by repeat (first | (with_reducible first | exact HB.out | apply below_alloc | apply pw_below_drewN | apply below_drew1) | exact HB.out)) hb); clear HO_5; clear HO_6; clear HO_28; clear HB; have HO_5 := n0_; have HO_6 := n1_; have HO_28 := n2_; have HO175 := n3_; have HB := n4_; clear n0_ n1_ n2_ n3_ n4_; clear hb ho33; obtain ⟨Ao34, co34, eo34⟩ := Kd.R_slice HO175.out; subst eo34))
                            go_loopg [40] k2 (fun kq v40 w' => ∃ (x9_3 : List Bool) (x40_3 : Int), v40 = .int .i64 x40_3 ∧ Aside0 (tree_Match.l1 kq t161 x6_2 (rdOf ByteArray.empty t168 x30_2) x9_3 t168 (t168.length : Int) x30_2 (y173.length : Int) x40_3 = some r) ∧ Aside0 (kq ≤ k2) ∧ Aside0 (Kd.R Kd.string 9 w' w.heap.size (fun k_ => some k_ ≠ ((.slice (some ad172) t168.length co25) : Value).ownBlock) (.slice Ao19 t161.length co19) t161) ∧ Aside0 (Kd.R Kd.bool 4 w' w.heap.size (fun k_ => some k_ ≠ ((.slice Ao34 y173.length co34) : Value).ownBlock) u6 x6_2) ∧ Aside0 (Kd.R Kd.bool 4 w' w.heap.size (fun k_ => some k_ ≠ (u6 : Value).ownBlock) (.slice Ao34 y173.length co34) x9_3) ∧ Aside0 (Kd.R Kd.string 9 w' w.heap.size (fun k_ => some k_ ≠ ((.slice Ao19 t161.length co19) : Value).ownBlock) (.slice (some ad172) t168.length co25) t168) ∧ Aside0 (Below w.heap.size w w'))
                            case atStart => exact ⟨(y173), (0), (by first | rfl | (simp; done) | (simp [*]; done)), H', ⟨Nat.le_refl _⟩, ⟨by (with_reducible repeat (first | apply Kd.R_alloc | apply Kd.R_drewN | apply Kd.R_drew)); exact HO_5.out⟩, ⟨by (with_reducible repeat (first | apply Kd.R_alloc | apply Kd.R_drewN | apply Kd.R_drew)); exact Kd.R_mono HO_6.out (fun _ hk => hk.2)⟩, ⟨by (with_reducible repeat (first | apply Kd.R_alloc | apply Kd.R_drewN | apply Kd.R_drew)); exact Kd.R_mono HO175.out (fun _ hk => hk.2)⟩, ⟨by (with_reducible repeat (first | apply Kd.R_alloc | apply Kd.R_drewN | apply Kd.R_drew)); exact HO_28.out⟩, ⟨by repeat (first | (with_reducible first | exact HB.out | apply below_alloc | apply pw_below_drewN | apply below_drew1) | exact HB.out)⟩⟩
                            case round =>
                              clear H'
                              try clear c1
                              try clear p1
                              try clear q1
                              try clear hx1
                              try clear qi1
                              try clear c2
                              try clear p2
                              try clear c3
                              try clear c4
                              try clear c5
                              try clear c5b0
                              try clear c5b1
                              try clear p6
                              try clear c10
                              try clear c13
                              try clear c13b0
                              try clear c13b1
                              try clear c14
                              try clear c14b0
                              try clear c14b1
                              try clear c15
                              try clear c15b0
                              try clear c15b1
                              try clear p16
                              try clear q16
                              try clear hx16
                              try clear qi16
                              try clear hf16
                              try clear p17
                              try clear q17
                              try clear hx17
                              try clear c21
                              try clear c23
                              try clear c26
                              try clear c26b0
                              try clear c27
                              try clear c27b0
                              try clear c28
                              try clear c28b0
                              try clear c30
                              try clear c30b0
                              try clear c30b1
                              try clear c31
                              try clear c31b0
                              try clear c31b1
                              try clear hx16_0
                              try clear hx172_0
                              try clear p1
                              try clear p16
                              try clear p172
                              try clear p2
                              try clear p6
                              try clear q1
                              try clear q16
                              try clear q172
                              obtain ⟨x9_3, x40_3, rfl, HA, HK3, HO_5, HO_6, HO_9, HO_28, HB⟩ := hrel
                              have hl9_3 := (Kd.R_reads' HO_9.out).1
                              rw [hl9_3] at HO_9
                              (try simp only [hl9_3])
                              (try simp only [hl9_3] at HO_5)
                              (try simp only [hl9_3] at HO_6)
                              (try simp only [hl9_3] at HO_28)
                              cases gk with
                              | zero => exact absurd HA.out (by simp [tree_Match.l1])
                              | succ k3 =>
                                have H := HA.out
                                clear HA
                                simp only [tree_Match.l1] at H
                                by_cases c35 : x40_3 < (y173.length : Int)
                                · rw [if_pos c35] at H
                                  have c35b0 : decide (x40_3 < (y173.length : Int)) = true := decide_eq_true c35
                                  (try simp only [hl9_3] at c35b0)
                                  clear c35
                                  by_cases c36 : (rdOf ByteArray.empty t168 x30_2).toList = ([42, 42] : List UInt8)
                                  · rw [if_pos c36] at H
                                    have c36b0 : ((rdOf ByteArray.empty t168 x30_2).toList == ([42, 42] : List UInt8)) = true := beq_iff_eq.mpr c36
                                    have c36b1 : ((rdOf ByteArray.empty t168 x30_2).toList != ([42, 42] : List UInt8)) = false := bne_eq_false_iff_eq.mpr c36
                                    clear c36
                                    by_cases c37 : 0 ≤ x40_3
                                    · rw [if_pos c37] at H
                                      have c37b0 : decide (0 ≤ x40_3) = true := decide_eq_true c37
                                      clear c37
                                      by_cases c38 : x40_3 < (x6_2.length : Int)
                                      · rw [if_pos c38] at H
                                        have c38b0 : decide (x40_3 < (x6_2.length : Int)) = true := decide_eq_true c38
                                        (try simp only [hl9_3] at c38b0)
                                        clear c38
                                        obtain ⟨bq39, hbq39⟩ : ∃ b_ : Bool, b_ = (rdOf false x6_2 x40_3) := ⟨_, rfl⟩
                                        replace H : (if bq39 = true then (if x40_3 < (x9_3.length : Int) then (tree_Match.l1 k3 t161 x6_2 (rdOf ByteArray.empty t168 x30_2) (x9_3.set (x40_3 : Int).toNat true) t168 (t168.length : Int) x30_2 (y173.length : Int) (wrap64 (x40_3 + 1))) else (none)) else (if x40_3 > 0 then (if 0 ≤ (wrap64 (x40_3 - 1)) then (if (wrap64 (x40_3 - 1)) < (x9_3.length : Int) then (if x40_3 < (x9_3.length : Int) then (tree_Match.l1 k3 t161 x6_2 (rdOf ByteArray.empty t168 x30_2) (x9_3.set (x40_3 : Int).toNat (rdOf false x9_3 (wrap64 (x40_3 - 1)))) t168 (t168.length : Int) x30_2 (y173.length : Int) (wrap64 (x40_3 + 1))) else (none)) else (none)) else (none)) else (if x40_3 < (x9_3.length : Int) then (tree_Match.l1 k3 t161 x6_2 (rdOf ByteArray.empty t168 x30_2) (x9_3.set (x40_3 : Int).toNat false) t168 (t168.length : Int) x30_2 (y173.length : Int) (wrap64 (x40_3 + 1))) else (none)))) = some r := by rw [← hbq39] at H; exact H
                                        have Nbq39 := Aside0.mk hbq39
                                        clear hbq39
                                        by_cases c40 : bq39 = true
                                        · subst c40
                                          have H1 : (if x40_3 < (x9_3.length : Int) then (tree_Match.l1 k3 t161 x6_2 (rdOf ByteArray.empty t168 x30_2) (x9_3.set (x40_3 : Int).toNat true) t168 (t168.length : Int) x30_2 (y173.length : Int) (wrap64 (x40_3 + 1))) else (none)) = some r := by rw [if_pos rfl] at H; exact H
                                          clear H
                                          have H := H1
                                          clear H1
                                          by_cases c41 : x40_3 < (x9_3.length : Int)
                                          · rw [if_pos c41] at H
                                            have c41b0 : decide (x40_3 < (x9_3.length : Int)) = true := decide_eq_true c41
                                            (try simp only [hl9_3] at c41b0)
                                            clear c41
                                            obtain ⟨y177, hy177⟩ : ∃ y_ : List Bool, y_ = (x9_3.set (x40_3 : Int).toNat true) := ⟨_, rfl⟩
                                            replace H : (tree_Match.l1 k3 t161 x6_2 (rdOf ByteArray.empty t168 x30_2) y177 t168 (t168.length : Int) x30_2 (y173.length : Int) (wrap64 (x40_3 + 1))) = some r := by first | (rw [hy177]; with_reducible exact H) | (have H2_ := (Option.bind_some _ _).symm.trans H; rw [hy177]; with_reducible exact H2_) | (have H2_ := (Option.bind_some _ _).symm.trans H; with_reducible exact H2_) | with_reducible exact H | (rw [hy177]; exact H) | exact H
                                            have Ny177 := Aside0.mk hy177
                                            clear hy177
                                            have H' := Aside0.mk H
                                            clear H
                                            obtain ⟨Ao43, co43, eo43⟩ := Kd.R_slice HO_6.out
                                            subst eo43
                                            have p176 : 0 ≤ (x40_3 : Int) := of_decide_eq_true (by first | (with_reducible assumption) | assumption)
                                            have q176 : x40_3 < (x6_2.length : Int) := of_decide_eq_true (by first | (with_reducible assumption) | assumption)
                                            obtain ⟨ad176, e176, hx176_0⟩ := Kd.at_bool (Kd.R_reads' HO_6.out).2.2 x40_3 p176 q176
                                            (try rw [← Nbq39.out] at hx176_0)
                                            cases e176
                                            replace p176 := eq_true p176
                                            replace q176 := eq_true q176
                                            have p42 : 0 ≤ (x40_3 : Int) := of_decide_eq_true (by first | (with_reducible assumption) | assumption)
                                            have q42 : (x40_3 : Int) < ((x9_3.length : Int) : Int) := of_decide_eq_true (by first | (with_reducible assumption) | assumption)
                                            obtain ⟨go42, co42, eo42, gb42, gl42, cl42, HG42⟩ := Kd.R_form HO_9.out (by omega)
                                            (first | cases eo42 | (injection eo42 with ea_ en_ ec_; (first | subst ea_ | (injection ea_ with ea_; subst ea_)); subst ec_; clear en_))
                                            have GB42 := Aside0.mk gb42
                                            have GG42 := Aside0.mk HG42
                                            clear gb42 gl42 HG42
                                            obtain ⟨hx42_0, hf42_0⟩ := Kd.R_celln false HO_9.out (x40_3 : Int) p42 q42
                                            replace p42 := eq_true p42
                                            replace q42 := eq_true q42
                                            have HP44 := Kd.R_putg HO_9.out (x40_3 : Int) true
                                            go_wp2_with (first | ((with_reducible refine gate_store (t := 4) (p := 63) rfl ?_); refine store_event (t := 4) (p := 63) (v := ?vo_w45) (w1 := (wr.setCell ⟨go42, (x40_3 : Int).toNat, none⟩ (.bool true))) ?hg ?ho ?hn ?hr ?_; (case ho => rfl); (case hg => rfl); (case hn => rfl); (case hr => first | (go_simp; done) | (go_simp; rfl)); intro w45 hw; have hg : wr.grownBy w45 (some go42) := (by rw [hw]; exact HP44.2); have hp_ : Kd.R Kd.bool 4 w45 w.heap.size (fun k_ => some k_ ≠ (.slice (some ad176) x6_2.length co43 : Value).ownBlock) (.slice (some ⟨go42, 0, none⟩) x9_3.length co34) y177 := (by rw [hw, Ny177.out]; exact HP44.1); clear HP44; have n0_ := Aside0.mk (Kd.R_over' (v := (.slice (some ⟨go42, 0, none⟩) x9_3.length co34)) (by (with_reducible repeat (first | apply Kd.R_alloc | apply Kd.R_drewN | apply Kd.R_drew)); exact HO_5.out) (Kd.R_typed HO_9.out) (by decide) hg); have n1_ := Aside0.mk (Kd.R_after (v := (.slice (some ⟨go42, 0, none⟩) x9_3.length co34)) (v1 := (.slice (some ⟨go42, 0, none⟩) x9_3.length co34)) (ok := (fun _ => True)) (by (with_reducible repeat (first | apply Kd.R_alloc | apply Kd.R_drewN | apply Kd.R_drew)); exact Kd.R_mono HO_6.out (fun _ hk => ⟨trivial, hk⟩)) hg (.inl rfl)); have n2_ := Aside0.mk (hp_); have n3_ := Aside0.mk (Kd.R_over' (v := (.slice (some ⟨go42, 0, none⟩) x9_3.length co34)) (by (with_reducible repeat (first | apply Kd.R_alloc | apply Kd.R_drewN | apply Kd.R_drew)); exact HO_28.out) (Kd.R_typed HO_9.out) (by decide) hg); have n4_ := Aside0.mk ((by rw [hw]; exact below_set (HB.out) GB42.out : Below w.heap.size w w45)); clear HO_5; clear HO_6; clear HO_9; clear HO_28; clear HB; have HO_5 := n0_; have HO_6 := n1_; have HO_9 := n2_; have HO_28 := n3_; have HB := n4_; clear n0_ n1_ n2_ n3_ n4_; clear hg hw hp_))
                                            (try simp only [← hl9_3])
                                            go_roundg k3
                                            case measure => have := HJ2.out; have := HK2.out; have := HK3.out; omega
                                            case rel => exact ⟨(y177), (wrap64 (x40_3 + 1)), (by first | rfl | (simp; done) | (simp [*]; done)), H', ⟨by have := HJ2.out; have := HK2.out; have := HK3.out; omega⟩, ⟨by (try simp only [hl9_3]); (with_reducible repeat (first | apply Kd.R_alloc | apply Kd.R_drewN | apply Kd.R_drew)); exact HO_5.out⟩, ⟨by (try simp only [hl9_3]); (with_reducible repeat (first | apply Kd.R_alloc | apply Kd.R_drewN | apply Kd.R_drew)); exact Kd.R_mono HO_6.out (fun _ hk => hk.2)⟩, ⟨by (try simp only [hl9_3]); (with_reducible repeat (first | apply Kd.R_alloc | apply Kd.R_drewN | apply Kd.R_drew)); exact HO_9.out⟩, ⟨by (try simp only [hl9_3]); (with_reducible repeat (first | apply Kd.R_alloc | apply Kd.R_drewN | apply Kd.R_drew)); exact HO_28.out⟩, ⟨by repeat (first | (with_reducible first | exact HB.out | apply below_alloc | apply pw_below_drewN | apply below_drew1) | exact HB.out)⟩⟩
                                          · rw [if_neg c41] at H
                                            exact absurd H (by simp)
                                        · replace c40 := Bool.eq_false_iff.mpr c40
                                          subst c40
                                          have H1 : (if x40_3 > 0 then (if 0 ≤ (wrap64 (x40_3 - 1)) then (if (wrap64 (x40_3 - 1)) < (x9_3.length : Int) then (if x40_3 < (x9_3.length : Int) then (tree_Match.l1 k3 t161 x6_2 (rdOf ByteArray.empty t168 x30_2) (x9_3.set (x40_3 : Int).toNat (rdOf false x9_3 (wrap64 (x40_3 - 1)))) t168 (t168.length : Int) x30_2 (y173.length : Int) (wrap64 (x40_3 + 1))) else (none)) else (none)) else (none)) else (if x40_3 < (x9_3.length : Int) then (tree_Match.l1 k3 t161 x6_2 (rdOf ByteArray.empty t168 x30_2) (x9_3.set (x40_3 : Int).toNat false) t168 (t168.length : Int) x30_2 (y173.length : Int) (wrap64 (x40_3 + 1))) else (none))) = some r := by rw [if_neg (show ¬ (false = true) by decide)] at H; exact H
                                          clear H
                                          have H := H1
                                          clear H1
                                          by_cases c46 : x40_3 > 0
                                          · rw [if_pos c46] at H
                                            have c46b0 : decide (0 < x40_3) = true := decide_eq_true c46
                                            clear c46
                                            obtain ⟨ji47, hji47⟩ : ∃ j_ : Int, (wrap64 (x40_3 - 1)) = j_ := ⟨_, rfl⟩
                                            replace H : (if 0 ≤ (ji47) then (if (ji47) < (x9_3.length : Int) then (if x40_3 < (x9_3.length : Int) then (tree_Match.l1 k3 t161 x6_2 (rdOf ByteArray.empty t168 x30_2) (x9_3.set (x40_3 : Int).toNat (rdOf false x9_3 (ji47))) t168 (t168.length : Int) x30_2 (y173.length : Int) (wrap64 (x40_3 + 1))) else (none)) else (none)) else (none)) = some r := by first | (rw [hji47] at H; exact H) | (simp only [hji47] at H ⊢; exact H)
                                            have hji47w : (IntKind.i64.wrap (x40_3 - 1)) = ji47 := (i64_w _).trans hji47
                                            by_cases c48 : 0 ≤ (ji47)
                                            · rw [if_pos c48] at H
                                              have c48b0 : decide (0 ≤ (ji47)) = true := decide_eq_true c48
                                              clear c48
                                              by_cases c49 : (ji47) < (x9_3.length : Int)
                                              · rw [if_pos c49] at H
                                                have c49b0 : decide ((ji47) < (x9_3.length : Int)) = true := decide_eq_true c49
                                                (try simp only [hl9_3] at c49b0)
                                                clear c49
                                                by_cases c50 : x40_3 < (x9_3.length : Int)
                                                · rw [if_pos c50] at H
                                                  have c50b0 : decide (x40_3 < (x9_3.length : Int)) = true := decide_eq_true c50
                                                  (try simp only [hl9_3] at c50b0)
                                                  clear c50
                                                  obtain ⟨y179, hy179⟩ : ∃ y_ : List Bool, y_ = (x9_3.set (x40_3 : Int).toNat (rdOf false x9_3 (ji47))) := ⟨_, rfl⟩
                                                  replace H : (tree_Match.l1 k3 t161 x6_2 (rdOf ByteArray.empty t168 x30_2) y179 t168 (t168.length : Int) x30_2 (y173.length : Int) (wrap64 (x40_3 + 1))) = some r := by first | (rw [hy179]; with_reducible exact H) | (have H2_ := (Option.bind_some _ _).symm.trans H; rw [hy179]; with_reducible exact H2_) | (have H2_ := (Option.bind_some _ _).symm.trans H; with_reducible exact H2_) | with_reducible exact H | (rw [hy179]; exact H) | exact H
                                                  have Ny179 := Aside0.mk hy179
                                                  clear hy179
                                                  have H' := Aside0.mk H
                                                  clear H
                                                  obtain ⟨Ao52, co52, eo52⟩ := Kd.R_slice HO_6.out
                                                  subst eo52
                                                  have p176 : 0 ≤ (x40_3 : Int) := of_decide_eq_true (by first | (with_reducible assumption) | assumption)
                                                  have q176 : x40_3 < (x6_2.length : Int) := of_decide_eq_true (by first | (with_reducible assumption) | assumption)
                                                  obtain ⟨ad176, e176, hx176_0⟩ := Kd.at_bool (Kd.R_reads' HO_6.out).2.2 x40_3 p176 q176
                                                  (try rw [← Nbq39.out] at hx176_0)
                                                  cases e176
                                                  replace p176 := eq_true p176
                                                  replace q176 := eq_true q176
                                                  have p178 : 0 ≤ ((ji47) : Int) := of_decide_eq_true (by first | (with_reducible assumption) | assumption)
                                                  have q178 : (ji47) < (x9_3.length : Int) := of_decide_eq_true (by first | (with_reducible assumption) | assumption)
                                                  obtain ⟨ad178, e178, hx178_0⟩ := Kd.at_bool (Kd.R_reads' HO_9.out).2.2 (ji47) p178 q178
                                                  (try rw [← Nbq39.out] at hx178_0)
                                                  cases e178
                                                  replace p178 := eq_true p178
                                                  replace q178 := eq_true q178
                                                  have p51 : 0 ≤ (x40_3 : Int) := of_decide_eq_true (by first | (with_reducible assumption) | assumption)
                                                  have q51 : (x40_3 : Int) < ((x9_3.length : Int) : Int) := of_decide_eq_true (by first | (with_reducible assumption) | assumption)
                                                  obtain ⟨go51, co51, eo51, gb51, gl51, cl51, HG51⟩ := Kd.R_form HO_9.out (by omega)
                                                  (first | cases eo51 | (injection eo51 with ea_ en_ ec_; (first | subst ea_ | (injection ea_ with ea_; subst ea_)); subst ec_; clear en_))
                                                  have GB51 := Aside0.mk gb51
                                                  have GG51 := Aside0.mk HG51
                                                  clear gb51 gl51 HG51
                                                  (first | simp only [add_plain] at hx178_0 | skip)
                                                  obtain ⟨hx51_0, hf51_0⟩ := Kd.R_celln false HO_9.out (x40_3 : Int) p51 q51
                                                  replace p51 := eq_true p51
                                                  replace q51 := eq_true q51
                                                  have HP53 := Kd.R_putg HO_9.out (x40_3 : Int) (rdOf false x9_3 (ji47))
                                                  go_wp2_with (first | ((with_reducible refine gate_store (t := 4) (p := 63) rfl ?_); refine store_event (t := 4) (p := 63) (v := ?vo_w54) (w1 := (wr.setCell ⟨go51, (x40_3 : Int).toNat, none⟩ (.bool (rdOf false x9_3 (ji47))))) ?hg ?ho ?hn ?hr ?_; (case ho => rfl); (case hg => rfl); (case hn => rfl); (case hr => first | (go_simp; done) | (go_simp; rfl)); intro w54 hw; have hg : wr.grownBy w54 (some go51) := (by rw [hw]; exact HP53.2); have hp_ : Kd.R Kd.bool 4 w54 w.heap.size (fun k_ => some k_ ≠ (.slice (some ad176) x6_2.length co52 : Value).ownBlock) (.slice (some ⟨go51, 0, none⟩) x9_3.length co34) y179 := (by rw [hw, Ny179.out]; exact HP53.1); clear HP53; have n0_ := Aside0.mk (Kd.R_over' (v := (.slice (some ⟨go51, 0, none⟩) x9_3.length co34)) (by (with_reducible repeat (first | apply Kd.R_alloc | apply Kd.R_drewN | apply Kd.R_drew)); exact HO_5.out) (Kd.R_typed HO_9.out) (by decide) hg); have n1_ := Aside0.mk (Kd.R_after (v := (.slice (some ⟨go51, 0, none⟩) x9_3.length co34)) (v1 := (.slice (some ⟨go51, 0, none⟩) x9_3.length co34)) (ok := (fun _ => True)) (by (with_reducible repeat (first | apply Kd.R_alloc | apply Kd.R_drewN | apply Kd.R_drew)); exact Kd.R_mono HO_6.out (fun _ hk => ⟨trivial, hk⟩)) hg (.inl rfl)); have n2_ := Aside0.mk (hp_); have n3_ := Aside0.mk (Kd.R_over' (v := (.slice (some ⟨go51, 0, none⟩) x9_3.length co34)) (by (with_reducible repeat (first | apply Kd.R_alloc | apply Kd.R_drewN | apply Kd.R_drew)); exact HO_28.out) (Kd.R_typed HO_9.out) (by decide) hg); have n4_ := Aside0.mk ((by rw [hw]; exact below_set (HB.out) GB51.out : Below w.heap.size w w54)); clear HO_5; clear HO_6; clear HO_9; clear HO_28; clear HB; have HO_5 := n0_; have HO_6 := n1_; have HO_9 := n2_; have HO_28 := n3_; have HB := n4_; clear n0_ n1_ n2_ n3_ n4_; clear hg hw hp_))
                                                  (try simp only [← hl9_3])
                                                  go_roundg k3
                                                  case measure => have := HJ2.out; have := HK2.out; have := HK3.out; omega
                                                  case rel => exact ⟨(y179), (wrap64 (x40_3 + 1)), (by first | rfl | (simp; done) | (simp [*]; done)), H', ⟨by have := HJ2.out; have := HK2.out; have := HK3.out; omega⟩, ⟨by (try simp only [hl9_3]); (with_reducible repeat (first | apply Kd.R_alloc | apply Kd.R_drewN | apply Kd.R_drew)); exact HO_5.out⟩, ⟨by (try simp only [hl9_3]); (with_reducible repeat (first | apply Kd.R_alloc | apply Kd.R_drewN | apply Kd.R_drew)); exact Kd.R_mono HO_6.out (fun _ hk => hk.2)⟩, ⟨by (try simp only [hl9_3]); (with_reducible repeat (first | apply Kd.R_alloc | apply Kd.R_drewN | apply Kd.R_drew)); exact HO_9.out⟩, ⟨by (try simp only [hl9_3]); (with_reducible repeat (first | apply Kd.R_alloc | apply Kd.R_drewN | apply Kd.R_drew)); exact HO_28.out⟩, ⟨by repeat (first | (with_reducible first | exact HB.out | apply below_alloc | apply pw_below_drewN | apply below_drew1) | exact HB.out)⟩⟩
                                                · rw [if_neg c50] at H
                                                  exact absurd H (by simp)
                                              · rw [if_neg c49] at H
                                                exact absurd H (by simp)
                                            · rw [if_neg c48] at H
                                              exact absurd H (by simp)
                                          · rw [if_neg c46] at H
                                            have c46b0 : decide (0 < x40_3) = false := decide_eq_false c46
                                            clear c46
                                            by_cases c55 : x40_3 < (x9_3.length : Int)
                                            · rw [if_pos c55] at H
                                              have c55b0 : decide (x40_3 < (x9_3.length : Int)) = true := decide_eq_true c55
                                              (try simp only [hl9_3] at c55b0)
                                              clear c55
                                              obtain ⟨y180, hy180⟩ : ∃ y_ : List Bool, y_ = (x9_3.set (x40_3 : Int).toNat false) := ⟨_, rfl⟩
                                              replace H : (tree_Match.l1 k3 t161 x6_2 (rdOf ByteArray.empty t168 x30_2) y180 t168 (t168.length : Int) x30_2 (y173.length : Int) (wrap64 (x40_3 + 1))) = some r := by first | (rw [hy180]; with_reducible exact H) | (have H2_ := (Option.bind_some _ _).symm.trans H; rw [hy180]; with_reducible exact H2_) | (have H2_ := (Option.bind_some _ _).symm.trans H; with_reducible exact H2_) | with_reducible exact H | (rw [hy180]; exact H) | exact H
                                              have Ny180 := Aside0.mk hy180
                                              clear hy180
                                              have H' := Aside0.mk H
                                              clear H
                                              obtain ⟨Ao57, co57, eo57⟩ := Kd.R_slice HO_6.out
                                              subst eo57
                                              have p176 : 0 ≤ (x40_3 : Int) := of_decide_eq_true (by first | (with_reducible assumption) | assumption)
                                              have q176 : x40_3 < (x6_2.length : Int) := of_decide_eq_true (by first | (with_reducible assumption) | assumption)
                                              obtain ⟨ad176, e176, hx176_0⟩ := Kd.at_bool (Kd.R_reads' HO_6.out).2.2 x40_3 p176 q176
                                              (try rw [← Nbq39.out] at hx176_0)
                                              cases e176
                                              replace p176 := eq_true p176
                                              replace q176 := eq_true q176
                                              have p56 : 0 ≤ (x40_3 : Int) := of_decide_eq_true (by first | (with_reducible assumption) | assumption)
                                              have q56 : (x40_3 : Int) < ((x9_3.length : Int) : Int) := of_decide_eq_true (by first | (with_reducible assumption) | assumption)
                                              obtain ⟨go56, co56, eo56, gb56, gl56, cl56, HG56⟩ := Kd.R_form HO_9.out (by omega)
                                              (first | cases eo56 | (injection eo56 with ea_ en_ ec_; (first | subst ea_ | (injection ea_ with ea_; subst ea_)); subst ec_; clear en_))
                                              have GB56 := Aside0.mk gb56
                                              have GG56 := Aside0.mk HG56
                                              clear gb56 gl56 HG56
                                              obtain ⟨hx56_0, hf56_0⟩ := Kd.R_celln false HO_9.out (x40_3 : Int) p56 q56
                                              replace p56 := eq_true p56
                                              replace q56 := eq_true q56
                                              have HP58 := Kd.R_putg HO_9.out (x40_3 : Int) false
                                              go_wp2_with (first | ((with_reducible refine gate_store (t := 4) (p := 63) rfl ?_); refine store_event (t := 4) (p := 63) (v := ?vo_w59) (w1 := (wr.setCell ⟨go56, (x40_3 : Int).toNat, none⟩ (.bool false))) ?hg ?ho ?hn ?hr ?_; (case ho => rfl); (case hg => rfl); (case hn => rfl); (case hr => first | (go_simp; done) | (go_simp; rfl)); intro w59 hw; have hg : wr.grownBy w59 (some go56) := (by rw [hw]; exact HP58.2); have hp_ : Kd.R Kd.bool 4 w59 w.heap.size (fun k_ => some k_ ≠ (.slice (some ad176) x6_2.length co57 : Value).ownBlock) (.slice (some ⟨go56, 0, none⟩) x9_3.length co34) y180 := (by rw [hw, Ny180.out]; exact HP58.1); clear HP58; have n0_ := Aside0.mk (Kd.R_over' (v := (.slice (some ⟨go56, 0, none⟩) x9_3.length co34)) (by (with_reducible repeat (first | apply Kd.R_alloc | apply Kd.R_drewN | apply Kd.R_drew)); exact HO_5.out) (Kd.R_typed HO_9.out) (by decide) hg); have n1_ := Aside0.mk (Kd.R_after (v := (.slice (some ⟨go56, 0, none⟩) x9_3.length co34)) (v1 := (.slice (some ⟨go56, 0, none⟩) x9_3.length co34)) (ok := (fun _ => True)) (by (with_reducible repeat (first | apply Kd.R_alloc | apply Kd.R_drewN | apply Kd.R_drew)); exact Kd.R_mono HO_6.out (fun _ hk => ⟨trivial, hk⟩)) hg (.inl rfl)); have n2_ := Aside0.mk (hp_); have n3_ := Aside0.mk (Kd.R_over' (v := (.slice (some ⟨go56, 0, none⟩) x9_3.length co34)) (by (with_reducible repeat (first | apply Kd.R_alloc | apply Kd.R_drewN | apply Kd.R_drew)); exact HO_28.out) (Kd.R_typed HO_9.out) (by decide) hg); have n4_ := Aside0.mk ((by rw [hw]; exact below_set (HB.out) GB56.out : Below w.heap.size w w59)); clear HO_5; clear HO_6; clear HO_9; clear HO_28; clear HB; have HO_5 := n0_; have HO_6 := n1_; have HO_9 := n2_; have HO_28 := n3_; have HB := n4_; clear n0_ n1_ n2_ n3_ n4_; clear hg hw hp_))
                                              (try simp only [← hl9_3])
                                              go_roundg k3
                                              case measure => have := HJ2.out; have := HK2.out; have := HK3.out; omega
                                              case rel => exact ⟨(y180), (wrap64 (x40_3 + 1)), (by first | rfl | (simp; done) | (simp [*]; done)), H', ⟨by have := HJ2.out; have := HK2.out; have := HK3.out; omega⟩, ⟨by (try simp only [hl9_3]); (with_reducible repeat (first | apply Kd.R_alloc | apply Kd.R_drewN | apply Kd.R_drew)); exact HO_5.out⟩, ⟨by (try simp only [hl9_3]); (with_reducible repeat (first | apply Kd.R_alloc | apply Kd.R_drewN | apply Kd.R_drew)); exact Kd.R_mono HO_6.out (fun _ hk => hk.2)⟩, ⟨by (try simp only [hl9_3]); (with_reducible repeat (first | apply Kd.R_alloc | apply Kd.R_drewN | apply Kd.R_drew)); exact HO_9.out⟩, ⟨by (try simp only [hl9_3]); (with_reducible repeat (first | apply Kd.R_alloc | apply Kd.R_drewN | apply Kd.R_drew)); exact HO_28.out⟩, ⟨by repeat (first | (with_reducible first | exact HB.out | apply below_alloc | apply pw_below_drewN | apply below_drew1) | exact HB.out)⟩⟩
                                            · rw [if_neg c55] at H
                                              exact absurd H (by simp)
                                      · rw [if_neg c38] at H
                                        exact absurd H (by simp)
                                    · rw [if_neg c37] at H
                                      exact absurd H (by simp)
                                  · rw [if_neg c36] at H
                                    have c36b0 : ((rdOf ByteArray.empty t168 x30_2).toList == ([42, 42] : List UInt8)) = false := beq_eq_false_iff_ne.mpr c36
                                    have c36b1 : ((rdOf ByteArray.empty t168 x30_2).toList != ([42, 42] : List UInt8)) = true := bne_iff_ne.mpr c36
                                    by_cases c60 : x40_3 > 0
                                    · rw [if_pos c60] at H
                                      have c60b0 : decide (0 < x40_3) = true := decide_eq_true c60
                                      clear c60
                                      obtain ⟨ji61, hji61⟩ : ∃ j_ : Int, (wrap64 (x40_3 - 1)) = j_ := ⟨_, rfl⟩
                                      replace H : (if 0 ≤ (ji61) then (if (ji61) < (x6_2.length : Int) then (if rdOf false x6_2 (ji61) = true then (if (ji61) < (t161.length : Int) then ((tree_inName.f k3 (rdOf ByteArray.empty t168 x30_2) (rdOf ByteArray.empty t161 (ji61))).bind fun t183 => (if 0 ≤ x40_3 then (if x40_3 < (x9_3.length : Int) then (tree_Match.l1 k3 t161 x6_2 (rdOf ByteArray.empty t168 x30_2) (x9_3.set (x40_3 : Int).toNat t183) t168 (t168.length : Int) x30_2 (y173.length : Int) (wrap64 (x40_3 + 1))) else (none)) else (none))) else (none)) else (if 0 ≤ x40_3 then (if x40_3 < (x9_3.length : Int) then (tree_Match.l1 k3 t161 x6_2 (rdOf ByteArray.empty t168 x30_2) (x9_3.set (x40_3 : Int).toNat false) t168 (t168.length : Int) x30_2 (y173.length : Int) (wrap64 (x40_3 + 1))) else (none)) else (none))) else (none)) else (none)) = some r := by first | (rw [hji61] at H; exact H) | (simp only [hji61] at H ⊢; exact H)
                                      have hji61w : (IntKind.i64.wrap (x40_3 - 1)) = ji61 := (i64_w _).trans hji61
                                      by_cases c62 : 0 ≤ (ji61)
                                      · rw [if_pos c62] at H
                                        have c62b0 : decide (0 ≤ (ji61)) = true := decide_eq_true c62
                                        clear c62
                                        by_cases c63 : (ji61) < (x6_2.length : Int)
                                        · rw [if_pos c63] at H
                                          have c63b0 : decide ((ji61) < (x6_2.length : Int)) = true := decide_eq_true c63
                                          (try simp only [hl9_3] at c63b0)
                                          clear c63
                                          obtain ⟨bq64, hbq64⟩ : ∃ b_ : Bool, b_ = (rdOf false x6_2 (ji61)) := ⟨_, rfl⟩
                                          replace H : (if bq64 = true then (if (ji61) < (t161.length : Int) then ((tree_inName.f k3 (rdOf ByteArray.empty t168 x30_2) (rdOf ByteArray.empty t161 (ji61))).bind fun t183 => (if 0 ≤ x40_3 then (if x40_3 < (x9_3.length : Int) then (tree_Match.l1 k3 t161 x6_2 (rdOf ByteArray.empty t168 x30_2) (x9_3.set (x40_3 : Int).toNat t183) t168 (t168.length : Int) x30_2 (y173.length : Int) (wrap64 (x40_3 + 1))) else (none)) else (none))) else (none)) else (if 0 ≤ x40_3 then (if x40_3 < (x9_3.length : Int) then (tree_Match.l1 k3 t161 x6_2 (rdOf ByteArray.empty t168 x30_2) (x9_3.set (x40_3 : Int).toNat false) t168 (t168.length : Int) x30_2 (y173.length : Int) (wrap64 (x40_3 + 1))) else (none)) else (none))) = some r := by rw [← hbq64] at H; exact H
                                          have Nbq64 := Aside0.mk hbq64
                                          clear hbq64
                                          by_cases c65 : bq64 = true
                                          · subst c65
                                            have H1 : (if (ji61) < (t161.length : Int) then ((tree_inName.f k3 (rdOf ByteArray.empty t168 x30_2) (rdOf ByteArray.empty t161 (ji61))).bind fun t183 => (if 0 ≤ x40_3 then (if x40_3 < (x9_3.length : Int) then (tree_Match.l1 k3 t161 x6_2 (rdOf ByteArray.empty t168 x30_2) (x9_3.set (x40_3 : Int).toNat t183) t168 (t168.length : Int) x30_2 (y173.length : Int) (wrap64 (x40_3 + 1))) else (none)) else (none))) else (none)) = some r := by rw [if_pos rfl] at H; exact H
                                            clear H
                                            have H := H1
                                            clear H1
                                            by_cases c66 : (ji61) < (t161.length : Int)
                                            · rw [if_pos c66] at H
                                              have c66b0 : decide ((ji61) < (t161.length : Int)) = true := decide_eq_true c66
                                              (try simp only [hl9_3] at c66b0)
                                              clear c66
                                              replace H := Option.bind_eq_some_iff.mp H
                                              obtain ⟨t183, A670, H⟩ := H
                                              replace H : (if 0 ≤ x40_3 then (if x40_3 < (x9_3.length : Int) then (tree_Match.l1 k3 t161 x6_2 (rdOf ByteArray.empty t168 x30_2) (x9_3.set (x40_3 : Int).toNat t183) t168 (t168.length : Int) x30_2 (y173.length : Int) (wrap64 (x40_3 + 1))) else (none)) else (none)) = some r := H
                                              have A67 := Aside0.mk A670
                                              clear A670
                                              by_cases c68 : 0 ≤ x40_3
                                              · rw [if_pos c68] at H
                                                have c68b0 : decide (0 ≤ x40_3) = true := decide_eq_true c68
                                                clear c68
                                                by_cases c69 : x40_3 < (x9_3.length : Int)
                                                · rw [if_pos c69] at H
                                                  have c69b0 : decide (x40_3 < (x9_3.length : Int)) = true := decide_eq_true c69
                                                  (try simp only [hl9_3] at c69b0)
                                                  clear c69
                                                  obtain ⟨y184, hy184⟩ : ∃ y_ : List Bool, y_ = (x9_3.set (x40_3 : Int).toNat t183) := ⟨_, rfl⟩
                                                  replace H : (tree_Match.l1 k3 t161 x6_2 (rdOf ByteArray.empty t168 x30_2) y184 t168 (t168.length : Int) x30_2 (y173.length : Int) (wrap64 (x40_3 + 1))) = some r := by first | (rw [hy184]; with_reducible exact H) | (have H2_ := (Option.bind_some _ _).symm.trans H; rw [hy184]; with_reducible exact H2_) | (have H2_ := (Option.bind_some _ _).symm.trans H; with_reducible exact H2_) | with_reducible exact H | (rw [hy184]; exact H) | exact H
                                                  have Ny184 := Aside0.mk hy184
                                                  clear hy184
                                                  have H' := Aside0.mk H
                                                  clear H
                                                  obtain ⟨Ao71, co71, eo71⟩ := Kd.R_slice HO_6.out
                                                  subst eo71
                                                  have p181 : 0 ≤ ((ji61) : Int) := of_decide_eq_true (by first | (with_reducible assumption) | assumption)
                                                  have q181 : (ji61) < (x6_2.length : Int) := of_decide_eq_true (by first | (with_reducible assumption) | assumption)
                                                  obtain ⟨ad181, e181, hx181_0⟩ := Kd.at_bool (Kd.R_reads' HO_6.out).2.2 (ji61) p181 q181
                                                  (try rw [← Nbq64.out] at hx181_0)
                                                  cases e181
                                                  replace p181 := eq_true p181
                                                  replace q181 := eq_true q181
                                                  have p182 : 0 ≤ ((ji61) : Int) := of_decide_eq_true (by first | (with_reducible assumption) | assumption)
                                                  have q182 : (ji61) < (t161.length : Int) := of_decide_eq_true (by first | (with_reducible assumption) | assumption)
                                                  obtain ⟨ad182, e182, hx182_0⟩ := Kd.at_string (Kd.R_reads' HO_5.out).2.2 (ji61) p182 q182
                                                  cases e182
                                                  replace p182 := eq_true p182
                                                  replace q182 := eq_true q182
                                                  go_wp2_with (first | (go_at_call 52; (with_reducible refine (tree_inName.calls k3 (rdOf ByteArray.empty t168 x30_2) (rdOf ByteArray.empty t161 (ji61)) t183 _ A67.out).mono ?_); rintro e w72 ⟨rfl, hb⟩; have n0_ := Aside0.mk (Kd.R_below (by (with_reducible repeat (first | apply Kd.R_alloc | apply Kd.R_drewN | apply Kd.R_drew)); exact HO_5.out) hb); have n1_ := Aside0.mk (Kd.R_below (by (with_reducible repeat (first | apply Kd.R_alloc | apply Kd.R_drewN | apply Kd.R_drew)); exact HO_6.out) hb); have n2_ := Aside0.mk (Kd.R_below (by (with_reducible repeat (first | apply Kd.R_alloc | apply Kd.R_drewN | apply Kd.R_drew)); exact HO_9.out) hb); have n3_ := Aside0.mk (Kd.R_below (by (with_reducible repeat (first | apply Kd.R_alloc | apply Kd.R_drewN | apply Kd.R_drew)); exact HO_28.out) hb); have n4_ := Aside0.mk (below_step (by repeat (first | (with_reducible first | exact HB.out | apply below_alloc | apply pw_below_drewN | apply below_drew1) | exact HB.out)) hb); clear HO_5; clear HO_6; clear HO_9; clear HO_28; clear HB; have HO_5 := n0_; have HO_6 := n1_; have HO_9 := n2_; have HO_28 := n3_; have HB := n4_; clear n0_ n1_ n2_ n3_ n4_; (try clear hb); (try clear hb2); (try clear hk); (try clear hi); have p70 : 0 ≤ (x40_3 : Int) := of_decide_eq_true (by first | (with_reducible assumption) | assumption); have q70 : (x40_3 : Int) < ((x9_3.length : Int) : Int) := of_decide_eq_true (by first | (with_reducible assumption) | assumption); obtain ⟨go70, co70, eo70, gb70, gl70, cl70, HG70⟩ := Kd.R_form HO_9.out (by omega); (first | cases eo70 | (injection eo70 with ea_ en_ ec_; (first | subst ea_ | (injection ea_ with ea_; subst ea_)); subst ec_; clear en_)); have GB70 := Aside0.mk gb70; have GG70 := Aside0.mk HG70; clear gb70 gl70 HG70; obtain ⟨hx70_0, hf70_0⟩ := Kd.R_celln false HO_9.out (x40_3 : Int) p70 q70; replace p70 := eq_true p70; replace q70 := eq_true q70; obtain ⟨hy73_, hz73_⟩ := Kd.R_celln false HO_9.out (x40_3 : Int) (of_decide_eq_true (by first | (with_reducible assumption) | assumption)) (of_decide_eq_true (by first | (with_reducible assumption) | assumption)); have HP73 := Kd.R_putg HO_9.out (x40_3 : Int) t183) | ((with_reducible refine gate_store (t := 4) (p := 83) rfl ?_); refine store_event (t := 4) (p := 83) (v := ?vo_w74) (w1 := (w72.setCell ⟨go70, (x40_3 : Int).toNat, none⟩ (.bool t183))) ?hg ?ho ?hn ?hr ?_; (case ho => rfl); (case hg => rfl); (case hn => rfl); (case hr => first | (go_simp; done) | (go_simp; rfl)); intro w74 hw; have hg : w72.grownBy w74 (some go70) := (by rw [hw]; exact HP73.2); have hp_ : Kd.R Kd.bool 4 w74 w.heap.size (fun k_ => some k_ ≠ (.slice (some ad181) x6_2.length co71 : Value).ownBlock) (.slice (some ⟨go70, 0, none⟩) x9_3.length co34) y184 := (by rw [hw, Ny184.out]; exact HP73.1); clear HP73; have n0_ := Aside0.mk (Kd.R_over' (v := (.slice (some ⟨go70, 0, none⟩) x9_3.length co34)) (by (with_reducible repeat (first | apply Kd.R_alloc | apply Kd.R_drewN | apply Kd.R_drew)); exact HO_5.out) (Kd.R_typed HO_9.out) (by decide) hg); have n1_ := Aside0.mk (Kd.R_after (v := (.slice (some ⟨go70, 0, none⟩) x9_3.length co34)) (v1 := (.slice (some ⟨go70, 0, none⟩) x9_3.length co34)) (ok := (fun _ => True)) (by (with_reducible repeat (first | apply Kd.R_alloc | apply Kd.R_drewN | apply Kd.R_drew)); exact Kd.R_mono HO_6.out (fun _ hk => ⟨trivial, hk⟩)) hg (.inl rfl)); have n2_ := Aside0.mk (hp_); have n3_ := Aside0.mk (Kd.R_over' (v := (.slice (some ⟨go70, 0, none⟩) x9_3.length co34)) (by (with_reducible repeat (first | apply Kd.R_alloc | apply Kd.R_drewN | apply Kd.R_drew)); exact HO_28.out) (Kd.R_typed HO_9.out) (by decide) hg); have n4_ := Aside0.mk ((by rw [hw]; exact below_set (HB.out) GB70.out : Below w.heap.size w w74)); clear HO_5; clear HO_6; clear HO_9; clear HO_28; clear HB; have HO_5 := n0_; have HO_6 := n1_; have HO_9 := n2_; have HO_28 := n3_; have HB := n4_; clear n0_ n1_ n2_ n3_ n4_; clear hg hw hp_))
                                                  (try simp only [← hl9_3])
                                                  go_roundg k3
                                                  case measure => have := HJ2.out; have := HK2.out; have := HK3.out; omega
                                                  case rel => exact ⟨(y184), (wrap64 (x40_3 + 1)), (by first | rfl | (simp; done) | (simp [*]; done)), H', ⟨by have := HJ2.out; have := HK2.out; have := HK3.out; omega⟩, ⟨by (try simp only [hl9_3]); (with_reducible repeat (first | apply Kd.R_alloc | apply Kd.R_drewN | apply Kd.R_drew)); exact HO_5.out⟩, ⟨by (try simp only [hl9_3]); (with_reducible repeat (first | apply Kd.R_alloc | apply Kd.R_drewN | apply Kd.R_drew)); exact Kd.R_mono HO_6.out (fun _ hk => hk.2)⟩, ⟨by (try simp only [hl9_3]); (with_reducible repeat (first | apply Kd.R_alloc | apply Kd.R_drewN | apply Kd.R_drew)); exact HO_9.out⟩, ⟨by (try simp only [hl9_3]); (with_reducible repeat (first | apply Kd.R_alloc | apply Kd.R_drewN | apply Kd.R_drew)); exact HO_28.out⟩, ⟨by repeat (first | (with_reducible first | exact HB.out | apply below_alloc | apply pw_below_drewN | apply below_drew1) | exact HB.out)⟩⟩
                                                · rw [if_neg c69] at H
                                                  exact absurd H (by simp)
                                              · rw [if_neg c68] at H
                                                exact absurd H (by simp)
                                            · rw [if_neg c66] at H
                                              exact absurd H (by simp)
                                          · replace c65 := Bool.eq_false_iff.mpr c65
                                            subst c65
                                            have H1 : (if 0 ≤ x40_3 then (if x40_3 < (x9_3.length : Int) then (tree_Match.l1 k3 t161 x6_2 (rdOf ByteArray.empty t168 x30_2) (x9_3.set (x40_3 : Int).toNat false) t168 (t168.length : Int) x30_2 (y173.length : Int) (wrap64 (x40_3 + 1))) else (none)) else (none)) = some r := by rw [if_neg (show ¬ (false = true) by decide)] at H; exact H
                                            clear H
                                            have H := H1
                                            clear H1
                                            by_cases c75 : 0 ≤ x40_3
                                            · rw [if_pos c75] at H
                                              have c75b0 : decide (0 ≤ x40_3) = true := decide_eq_true c75
                                              clear c75
                                              by_cases c76 : x40_3 < (x9_3.length : Int)
                                              · rw [if_pos c76] at H
                                                have c76b0 : decide (x40_3 < (x9_3.length : Int)) = true := decide_eq_true c76
                                                (try simp only [hl9_3] at c76b0)
                                                clear c76
                                                obtain ⟨y185, hy185⟩ : ∃ y_ : List Bool, y_ = (x9_3.set (x40_3 : Int).toNat false) := ⟨_, rfl⟩
                                                replace H : (tree_Match.l1 k3 t161 x6_2 (rdOf ByteArray.empty t168 x30_2) y185 t168 (t168.length : Int) x30_2 (y173.length : Int) (wrap64 (x40_3 + 1))) = some r := by first | (rw [hy185]; with_reducible exact H) | (have H2_ := (Option.bind_some _ _).symm.trans H; rw [hy185]; with_reducible exact H2_) | (have H2_ := (Option.bind_some _ _).symm.trans H; with_reducible exact H2_) | with_reducible exact H | (rw [hy185]; exact H) | exact H
                                                have Ny185 := Aside0.mk hy185
                                                clear hy185
                                                have H' := Aside0.mk H
                                                clear H
                                                obtain ⟨Ao78, co78, eo78⟩ := Kd.R_slice HO_6.out
                                                subst eo78
                                                have p181 : 0 ≤ ((ji61) : Int) := of_decide_eq_true (by first | (with_reducible assumption) | assumption)
                                                have q181 : (ji61) < (x6_2.length : Int) := of_decide_eq_true (by first | (with_reducible assumption) | assumption)
                                                obtain ⟨ad181, e181, hx181_0⟩ := Kd.at_bool (Kd.R_reads' HO_6.out).2.2 (ji61) p181 q181
                                                (try rw [← Nbq64.out] at hx181_0)
                                                cases e181
                                                replace p181 := eq_true p181
                                                replace q181 := eq_true q181
                                                have p77 : 0 ≤ (x40_3 : Int) := of_decide_eq_true (by first | (with_reducible assumption) | assumption)
                                                have q77 : (x40_3 : Int) < ((x9_3.length : Int) : Int) := of_decide_eq_true (by first | (with_reducible assumption) | assumption)
                                                obtain ⟨go77, co77, eo77, gb77, gl77, cl77, HG77⟩ := Kd.R_form HO_9.out (by omega)
                                                (first | cases eo77 | (injection eo77 with ea_ en_ ec_; (first | subst ea_ | (injection ea_ with ea_; subst ea_)); subst ec_; clear en_))
                                                have GB77 := Aside0.mk gb77
                                                have GG77 := Aside0.mk HG77
                                                clear gb77 gl77 HG77
                                                obtain ⟨hx77_0, hf77_0⟩ := Kd.R_celln false HO_9.out (x40_3 : Int) p77 q77
                                                replace p77 := eq_true p77
                                                replace q77 := eq_true q77
                                                have HP79 := Kd.R_putg HO_9.out (x40_3 : Int) false
                                                go_wp2_with (first | ((with_reducible refine gate_store (t := 4) (p := 83) rfl ?_); refine store_event (t := 4) (p := 83) (v := ?vo_w80) (w1 := (wr.setCell ⟨go77, (x40_3 : Int).toNat, none⟩ (.bool false))) ?hg ?ho ?hn ?hr ?_; (case ho => rfl); (case hg => rfl); (case hn => rfl); (case hr => first | (go_simp; done) | (go_simp; rfl)); intro w80 hw; have hg : wr.grownBy w80 (some go77) := (by rw [hw]; exact HP79.2); have hp_ : Kd.R Kd.bool 4 w80 w.heap.size (fun k_ => some k_ ≠ (.slice (some ad181) x6_2.length co78 : Value).ownBlock) (.slice (some ⟨go77, 0, none⟩) x9_3.length co34) y185 := (by rw [hw, Ny185.out]; exact HP79.1); clear HP79; have n0_ := Aside0.mk (Kd.R_over' (v := (.slice (some ⟨go77, 0, none⟩) x9_3.length co34)) (by (with_reducible repeat (first | apply Kd.R_alloc | apply Kd.R_drewN | apply Kd.R_drew)); exact HO_5.out) (Kd.R_typed HO_9.out) (by decide) hg); have n1_ := Aside0.mk (Kd.R_after (v := (.slice (some ⟨go77, 0, none⟩) x9_3.length co34)) (v1 := (.slice (some ⟨go77, 0, none⟩) x9_3.length co34)) (ok := (fun _ => True)) (by (with_reducible repeat (first | apply Kd.R_alloc | apply Kd.R_drewN | apply Kd.R_drew)); exact Kd.R_mono HO_6.out (fun _ hk => ⟨trivial, hk⟩)) hg (.inl rfl)); have n2_ := Aside0.mk (hp_); have n3_ := Aside0.mk (Kd.R_over' (v := (.slice (some ⟨go77, 0, none⟩) x9_3.length co34)) (by (with_reducible repeat (first | apply Kd.R_alloc | apply Kd.R_drewN | apply Kd.R_drew)); exact HO_28.out) (Kd.R_typed HO_9.out) (by decide) hg); have n4_ := Aside0.mk ((by rw [hw]; exact below_set (HB.out) GB77.out : Below w.heap.size w w80)); clear HO_5; clear HO_6; clear HO_9; clear HO_28; clear HB; have HO_5 := n0_; have HO_6 := n1_; have HO_9 := n2_; have HO_28 := n3_; have HB := n4_; clear n0_ n1_ n2_ n3_ n4_; clear hg hw hp_))
                                                (try simp only [← hl9_3])
                                                go_roundg k3
                                                case measure => have := HJ2.out; have := HK2.out; have := HK3.out; omega
                                                case rel => exact ⟨(y185), (wrap64 (x40_3 + 1)), (by first | rfl | (simp; done) | (simp [*]; done)), H', ⟨by have := HJ2.out; have := HK2.out; have := HK3.out; omega⟩, ⟨by (try simp only [hl9_3]); (with_reducible repeat (first | apply Kd.R_alloc | apply Kd.R_drewN | apply Kd.R_drew)); exact HO_5.out⟩, ⟨by (try simp only [hl9_3]); (with_reducible repeat (first | apply Kd.R_alloc | apply Kd.R_drewN | apply Kd.R_drew)); exact Kd.R_mono HO_6.out (fun _ hk => hk.2)⟩, ⟨by (try simp only [hl9_3]); (with_reducible repeat (first | apply Kd.R_alloc | apply Kd.R_drewN | apply Kd.R_drew)); exact HO_9.out⟩, ⟨by (try simp only [hl9_3]); (with_reducible repeat (first | apply Kd.R_alloc | apply Kd.R_drewN | apply Kd.R_drew)); exact HO_28.out⟩, ⟨by repeat (first | (with_reducible first | exact HB.out | apply below_alloc | apply pw_below_drewN | apply below_drew1) | exact HB.out)⟩⟩
                                              · rw [if_neg c76] at H
                                                exact absurd H (by simp)
                                            · rw [if_neg c75] at H
                                              exact absurd H (by simp)
                                        · rw [if_neg c63] at H
                                          exact absurd H (by simp)
                                      · rw [if_neg c62] at H
                                        exact absurd H (by simp)
                                    · rw [if_neg c60] at H
                                      have c60b0 : decide (0 < x40_3) = false := decide_eq_false c60
                                      clear c60
                                      have H' := Aside0.mk H
                                      clear H
                                      go_wp2
                                      (try simp only [← hl9_3])
                                      go_roundg k3
                                      case measure => have := HJ2.out; have := HK2.out; have := HK3.out; omega
                                      case rel => exact ⟨(x9_3), (wrap64 (x40_3 + 1)), (by first | rfl | (simp; done) | (simp [*]; done)), H', ⟨by have := HJ2.out; have := HK2.out; have := HK3.out; omega⟩, ⟨by (try simp only [hl9_3]); (with_reducible repeat (first | apply Kd.R_alloc | apply Kd.R_drewN | apply Kd.R_drew)); exact HO_5.out⟩, ⟨by (try simp only [hl9_3]); (with_reducible repeat (first | apply Kd.R_alloc | apply Kd.R_drewN | apply Kd.R_drew)); exact HO_6.out⟩, ⟨by (try simp only [hl9_3]); (with_reducible repeat (first | apply Kd.R_alloc | apply Kd.R_drewN | apply Kd.R_drew)); exact HO_9.out⟩, ⟨by (try simp only [hl9_3]); (with_reducible repeat (first | apply Kd.R_alloc | apply Kd.R_drewN | apply Kd.R_drew)); exact HO_28.out⟩, ⟨by repeat (first | (with_reducible first | exact HB.out | apply below_alloc | apply pw_below_drewN | apply below_drew1) | exact HB.out)⟩⟩
                                · rw [if_neg c35] at H
                                  have c35b0 : decide (x40_3 < (y173.length : Int)) = false := decide_eq_false c35
                                  (try simp only [hl9_3] at c35b0)
                                  clear c35
                                  have H' := Aside0.mk H
                                  clear H
                                  go_wp2
                                  (try simp only [← hl9_3])
                                  go_roundg k3
                                  case measure => have := HJ2.out; have := HK2.out; have := HK3.out; omega
                                  case rel => exact ⟨(x9_3), (wrap64 (x30_2 + 1)), (by first | rfl | (simp; done) | (simp [*]; done)), H', ⟨by have := HJ2.out; have := HK2.out; have := HK3.out; omega⟩, ⟨by (try simp only [hl9_3]); (with_reducible repeat (first | apply Kd.R_alloc | apply Kd.R_drewN | apply Kd.R_drew)); exact HO_5.out⟩, ⟨by (try simp only [hl9_3]); (with_reducible repeat (first | apply Kd.R_alloc | apply Kd.R_drewN | apply Kd.R_drew)); exact Kd.R_mono HO_9.out (fun _ hk => trivial)⟩, ⟨by (try simp only [hl9_3]); (with_reducible repeat (first | apply Kd.R_alloc | apply Kd.R_drewN | apply Kd.R_drew)); exact HO_28.out⟩, ⟨by repeat (first | (with_reducible first | exact HB.out | apply below_alloc | apply pw_below_drewN | apply below_drew1) | exact HB.out)⟩⟩
                          · rw [if_neg c31] at H
                            exact absurd H (by simp)
                        · rw [if_neg c30] at H
                          exact absurd H (by simp)
                      · rw [if_neg c28] at H
                        exact absurd H (by simp)
                    · rw [if_neg c27] at H
                      exact absurd H (by simp)
                  · rw [if_neg c26] at H
                    have c26b0 : decide (x30_2 < (t168.length : Int)) = false := decide_eq_false c26
                    clear c26
                    by_cases c81 : 0 ≤ (t161.length : Int)
                    · rw [if_pos c81] at H
                      have c81b0 : decide (0 ≤ (t161.length : Int)) = true := decide_eq_true c81
                      have c81b1 : decide (0 ≤ t161.length) = true := decide_eq_true (by omega)
                      clear c81
                      by_cases c82 : (t161.length : Int) < (x6_2.length : Int)
                      · rw [if_pos c82] at H
                        have c82b0 : decide ((t161.length : Int) < (x6_2.length : Int)) = true := decide_eq_true c82
                        have c82b1 : decide (t161.length < x6_2.length) = true := decide_eq_true (Int.ofNat_lt.mp c82)
                        clear c82
                        obtain rfl := Option.some.inj H
                        obtain ⟨Ao83, co83, eo83⟩ := Kd.R_slice HO_6.out
                        subst eo83
                        have p171 : 0 ≤ ((t161.length : Int) : Int) := of_decide_eq_true (by first | (with_reducible assumption) | assumption)
                        have q171 : (t161.length : Int) < (x6_2.length : Int) := of_decide_eq_true (by first | (with_reducible assumption) | assumption)
                        obtain ⟨ad171, e171, hx171_0⟩ := Kd.at_bool (Kd.R_reads' HO_6.out).2.2 (t161.length : Int) p171 q171
                        cases e171
                        (try simp only [Go.IntWalk.toNatUp] at hx171_0)
                        replace p171 := eq_true p171
                        replace q171 := eq_true q171
                        go_wp2
                        go_ret
                        exact ⟨by first | rfl | (simp [errW_none, errW_some] <;> rfl) | (simp only [← hji12]; first | rfl | (simp [errW_none, errW_some] <;> rfl)) | (simp [*, errW_none, errW_some] <;> rfl), by repeat (first | (with_reducible first | exact HB.out | apply below_alloc | apply pw_below_drewN | apply below_drew1) | exact HB.out)⟩
                      · rw [if_neg c82] at H
                        exact absurd H (by simp)
                    · rw [if_neg c81] at H
                      exact absurd H (by simp)
            · rw [if_neg c15] at H
              exact absurd H (by simp)
          · rw [if_neg c14] at H
            exact absurd H (by simp)
        · rw [if_neg c13] at H
          exact absurd H (by simp)
end Go.Proofs.YtafjlibcdlihcaaDoor.G
end
section
namespace Go.Proofs.YtafjlibcdlihcaaDoor.G
open Go.RowKit Go.Proofs.YtafjlibcdlihcaaDoorW.PrintWords Go.Proofs.YtafjlibcdlihcaaDoorW.PrintLast Go.Proofs.YtafjlibcdlihcaaDoorW.PrintMore
attribute [local go_sem] max2_int min2_int max_two min_two max_three min_three max_four min_four   -- for this text's walks alone
set_option linter.unusedVariables false
set_option linter.unusedSimpArgs false
def barquelaw09_awake.f (k : Nat)  : Option (Bool) := (tree_Order.f k (⟨#[97, 47, 98]⟩ : ByteArray) (⟨#[97, 45, 98]⟩ : ByteArray)).bind fun t186 => (if t186 < 0 then ((tree_Match.f k (⟨#[97, 47, 42, 42, 47, 99, 63]⟩ : ByteArray) (⟨#[97, 47, 98, 47, 98, 47, 99, 100]⟩ : ByteArray)).bind fun t187 => (if t187 = true then ((tree_Match.f k (⟨#[42]⟩ : ByteArray) (⟨#[97, 47, 98]⟩ : ByteArray)).bind fun t188 => (if t188 = true then (some false) else ((tree_Check.f k (([(⟨(⟨#[97]⟩ : ByteArray), 0, (⟨#[]⟩ : ByteArray)⟩ : S58), (⟨(⟨#[97, 47, 98]⟩ : ByteArray), 0, (⟨#[]⟩ : ByteArray)⟩ : S58)] : List (S58)))).bind fun t192 => (some (t192 == 9))))) else (some false))) else (some false))
theorem barquelaw09_awake.mono : ∀ k, LeO (barquelaw09_awake.f k ) (barquelaw09_awake.f (k + 1) ) := by
  intro  k
  unfold barquelaw09_awake.f
  repeat' first
      | (with_reducible exact tree_Check.mono _ _)
      | (with_reducible exact tree_Match.mono _ _ _)
      | (with_reducible exact tree_Order.mono _ _ _)
      | (with_reducible exact LeO.refl _)
      | (with_reducible exact LeO.none _)
      | (with_reducible refine LeO.ite ?_ ?_)
      | (with_reducible refine LeO.bind ?_ (fun _ => ?_))
      | exact tree_Check.mono _ _
      | exact tree_Match.mono _ _ _
      | exact tree_Order.mono _ _ _
      | exact LeO.none _
      | refine LeO.ite ?_ ?_
      | refine LeO.bind ?_ (fun _ => ?_)
set_option maxHeartbeats 8000000 in
set_option maxRecDepth 100000 in
theorem barquelaw09_awake.calls (k : Nat)  (r : Bool) (w : World) (h : barquelaw09_awake.f k  = some r) :
    Calls Tryd.prog 16 #[] w fun e w' => e = .returned (.bool r) ∧ Below w.heap.size w w' := by
  have hu58 := Tryd.underlying58
  have HB := Aside0.mk (Below.refl w.heap.size w)
  have H : ((tree_Order.f k (⟨#[97, 47, 98]⟩ : ByteArray) (⟨#[97, 45, 98]⟩ : ByteArray)).bind fun t186 => (if t186 < 0 then ((tree_Match.f k (⟨#[97, 47, 42, 42, 47, 99, 63]⟩ : ByteArray) (⟨#[97, 47, 98, 47, 98, 47, 99, 100]⟩ : ByteArray)).bind fun t187 => (if t187 = true then ((tree_Match.f k (⟨#[42]⟩ : ByteArray) (⟨#[97, 47, 98]⟩ : ByteArray)).bind fun t188 => (if t188 = true then (some false) else ((tree_Check.f k (([(⟨(⟨#[97]⟩ : ByteArray), 0, (⟨#[]⟩ : ByteArray)⟩ : S58), (⟨(⟨#[97, 47, 98]⟩ : ByteArray), 0, (⟨#[]⟩ : ByteArray)⟩ : S58)] : List (S58)))).bind fun t192 => (some (t192 == 9))))) else (some false))) else (some false))) = some r := h
  clear h
  replace H := Option.bind_eq_some_iff.mp H
  obtain ⟨t186, A10, H⟩ := H
  replace H : (if t186 < 0 then ((tree_Match.f k (⟨#[97, 47, 42, 42, 47, 99, 63]⟩ : ByteArray) (⟨#[97, 47, 98, 47, 98, 47, 99, 100]⟩ : ByteArray)).bind fun t187 => (if t187 = true then ((tree_Match.f k (⟨#[42]⟩ : ByteArray) (⟨#[97, 47, 98]⟩ : ByteArray)).bind fun t188 => (if t188 = true then (some false) else ((tree_Check.f k (([(⟨(⟨#[97]⟩ : ByteArray), 0, (⟨#[]⟩ : ByteArray)⟩ : S58), (⟨(⟨#[97, 47, 98]⟩ : ByteArray), 0, (⟨#[]⟩ : ByteArray)⟩ : S58)] : List (S58)))).bind fun t192 => (some (t192 == 9))))) else (some false))) else (some false)) = some r := H
  have A1 := Aside0.mk A10
  clear A10
  by_cases c2 : t186 < 0
  · rw [if_pos c2] at H
    have c2b0 : decide (t186 < 0) = true := decide_eq_true c2
    clear c2
    replace H := Option.bind_eq_some_iff.mp H
    obtain ⟨t187, A30, H⟩ := H
    replace H : (if t187 = true then ((tree_Match.f k (⟨#[42]⟩ : ByteArray) (⟨#[97, 47, 98]⟩ : ByteArray)).bind fun t188 => (if t188 = true then (some false) else ((tree_Check.f k (([(⟨(⟨#[97]⟩ : ByteArray), 0, (⟨#[]⟩ : ByteArray)⟩ : S58), (⟨(⟨#[97, 47, 98]⟩ : ByteArray), 0, (⟨#[]⟩ : ByteArray)⟩ : S58)] : List (S58)))).bind fun t192 => (some (t192 == 9))))) else (some false)) = some r := H
    have A3 := Aside0.mk A30
    clear A30
    by_cases c4 : t187 = true
    · subst c4
      have H1 : ((tree_Match.f k (⟨#[42]⟩ : ByteArray) (⟨#[97, 47, 98]⟩ : ByteArray)).bind fun t188 => (if t188 = true then (some false) else ((tree_Check.f k (([(⟨(⟨#[97]⟩ : ByteArray), 0, (⟨#[]⟩ : ByteArray)⟩ : S58), (⟨(⟨#[97, 47, 98]⟩ : ByteArray), 0, (⟨#[]⟩ : ByteArray)⟩ : S58)] : List (S58)))).bind fun t192 => (some (t192 == 9))))) = some r := by rw [if_pos rfl] at H; exact H
      clear H
      have H := H1
      clear H1
      replace H := Option.bind_eq_some_iff.mp H
      obtain ⟨t188, A50, H⟩ := H
      replace H : (if t188 = true then (some false) else ((tree_Check.f k (([(⟨(⟨#[97]⟩ : ByteArray), 0, (⟨#[]⟩ : ByteArray)⟩ : S58), (⟨(⟨#[97, 47, 98]⟩ : ByteArray), 0, (⟨#[]⟩ : ByteArray)⟩ : S58)] : List (S58)))).bind fun t192 => (some (t192 == 9)))) = some r := H
      have A5 := Aside0.mk A50
      clear A50
      by_cases c6 : t188 = true
      · subst c6
        have H1 : (some false) = some r := by rw [if_pos rfl] at H; exact H
        clear H
        have H := H1
        clear H1
        obtain rfl := Option.some.inj H
        go_enter Tryd.func16, Tryd.ntmps16
        go_wp2_with (first | ((with_reducible refine gate_callee (f := 18) rfl ?_); refine goesL_ (some 1) rfl rfl Tryd.func18 (by kernel_rfl) rfl #[.string (⟨#[97, 47, 98]⟩ : ByteArray), .string (⟨#[97, 45, 98]⟩ : ByteArray)] rfl (by (try simp only [List.map_toArray, List.map_cons, List.map_nil]); first | done | rfl | (simp only [List.length_drop, List.length_take]; rfl)) ?_; (with_reducible refine (tree_Order.calls k (⟨#[97, 47, 98]⟩ : ByteArray) (⟨#[97, 45, 98]⟩ : ByteArray) t186 _ A1.out).mono ?_); rintro e w7 ⟨rfl, hb⟩; refine ⟨_, rfl, ?_⟩; have n0_ := Aside0.mk (below_step (by repeat (first | (with_reducible first | exact HB.out | apply below_alloc | apply pw_below_drewN | apply below_drew1) | exact HB.out)) hb); clear HB; have HB := n0_; clear n0_; (try clear hb); (try clear hb2); (try clear hk); (try clear hi)) | (go_at_call 23; (with_reducible refine (tree_Match.calls k (⟨#[97, 47, 42, 42, 47, 99, 63]⟩ : ByteArray) (⟨#[97, 47, 98, 47, 98, 47, 99, 100]⟩ : ByteArray) true _ A3.out).mono ?_); rintro e w8 ⟨rfl, hb⟩; have n0_ := Aside0.mk (below_step (by repeat (first | (with_reducible first | exact HB.out | apply below_alloc | apply pw_below_drewN | apply below_drew1) | exact HB.out)) hb); clear HB; have HB := n0_; clear n0_; (try clear hb); (try clear hb2); (try clear hk); (try clear hi)) | (go_at_call 23; (with_reducible refine (tree_Match.calls k (⟨#[42]⟩ : ByteArray) (⟨#[97, 47, 98]⟩ : ByteArray) true _ A5.out).mono ?_); rintro e w9 ⟨rfl, hb⟩; have n0_ := Aside0.mk (below_step (by repeat (first | (with_reducible first | exact HB.out | apply below_alloc | apply pw_below_drewN | apply below_drew1) | exact HB.out)) hb); clear HB; have HB := n0_; clear n0_; (try clear hb); (try clear hb2); (try clear hk); (try clear hi)))
        go_ret
        exact ⟨by first | rfl | (simp [errW_none, errW_some] <;> rfl) | (simp [*, errW_none, errW_some] <;> rfl), by repeat (first | (with_reducible first | exact HB.out | apply below_alloc | apply pw_below_drewN | apply below_drew1) | exact HB.out)⟩
      · replace c6 := Bool.eq_false_iff.mpr c6
        subst c6
        have H1 : ((tree_Check.f k (([(⟨(⟨#[97]⟩ : ByteArray), 0, (⟨#[]⟩ : ByteArray)⟩ : S58), (⟨(⟨#[97, 47, 98]⟩ : ByteArray), 0, (⟨#[]⟩ : ByteArray)⟩ : S58)] : List (S58)))).bind fun t192 => (some (t192 == 9))) = some r := by rw [if_neg (show ¬ (false = true) by decide)] at H; exact H
        clear H
        have H := H1
        clear H1
        obtain ⟨y189, hy189⟩ : ∃ y_ : List (S58), y_ = (([(⟨(⟨#[97]⟩ : ByteArray), 0, (⟨#[]⟩ : ByteArray)⟩ : S58), (⟨(⟨#[97, 47, 98]⟩ : ByteArray), 0, (⟨#[]⟩ : ByteArray)⟩ : S58)] : List (S58))) := ⟨_, rfl⟩
        replace H : ((tree_Check.f k y189).bind fun t192 => (some (t192 == 9))) = some r := by first | (rw [hy189]; with_reducible exact H) | (have H2_ := (Option.bind_some _ _).symm.trans H; rw [hy189]; with_reducible exact H2_) | (have H2_ := (Option.bind_some _ _).symm.trans H; with_reducible exact H2_) | with_reducible exact H | (rw [hy189]; exact H) | exact H
        have Ny189 := Aside0.mk hy189
        clear hy189
        replace H := Option.bind_eq_some_iff.mp H
        obtain ⟨t192, A100, H⟩ := H
        replace H : (some (t192 == 9)) = some r := H
        have A10 := Aside0.mk A100
        clear A100
        obtain rfl := Option.some.inj H
        go_enter Tryd.func16, Tryd.ntmps16
        go_wp2_with (first | ((with_reducible refine gate_callee (f := 18) rfl ?_); refine goesL_ (some 1) rfl rfl Tryd.func18 (by kernel_rfl) rfl #[.string (⟨#[97, 47, 98]⟩ : ByteArray), .string (⟨#[97, 45, 98]⟩ : ByteArray)] rfl (by (try simp only [List.map_toArray, List.map_cons, List.map_nil]); first | done | rfl | (simp only [List.length_drop, List.length_take]; rfl)) ?_; (with_reducible refine (tree_Order.calls k (⟨#[97, 47, 98]⟩ : ByteArray) (⟨#[97, 45, 98]⟩ : ByteArray) t186 _ A1.out).mono ?_); rintro e w11 ⟨rfl, hb⟩; refine ⟨_, rfl, ?_⟩; have n0_ := Aside0.mk (below_step (by repeat (first | (with_reducible first | exact HB.out | apply below_alloc | apply pw_below_drewN | apply below_drew1) | exact HB.out)) hb); clear HB; have HB := n0_; clear n0_; (try clear hb); (try clear hb2); (try clear hk); (try clear hi)) | (go_at_call 23; (with_reducible refine (tree_Match.calls k (⟨#[97, 47, 42, 42, 47, 99, 63]⟩ : ByteArray) (⟨#[97, 47, 98, 47, 98, 47, 99, 100]⟩ : ByteArray) true _ A3.out).mono ?_); rintro e w12 ⟨rfl, hb⟩; have n0_ := Aside0.mk (below_step (by repeat (first | (with_reducible first | exact HB.out | apply below_alloc | apply pw_below_drewN | apply below_drew1) | exact HB.out)) hb); clear HB; have HB := n0_; clear n0_; (try clear hb); (try clear hb2); (try clear hk); (try clear hi)) | (go_at_call 23; (with_reducible refine (tree_Match.calls k (⟨#[42]⟩ : ByteArray) (⟨#[97, 47, 98]⟩ : ByteArray) false _ A5.out).mono ?_); rintro e w13 ⟨rfl, hb⟩; have n0_ := Aside0.mk (below_step (by repeat (first | (with_reducible first | exact HB.out | apply below_alloc | apply pw_below_drewN | apply below_drew1) | exact HB.out)) hb); clear HB; have HB := n0_; clear n0_; (try clear hb); (try clear hb2); (try clear hk); (try clear hi)) | ((with_reducible refine gate_dst (N := 13) rfl ?_); (try (refine gate_guard (by rfl) ?_; dsimp only)); refine Kd.R_lit k58 _ 58 ?hg (N := 13) ?hd (xs := ([(⟨(⟨#[97]⟩ : ByteArray), 0, (⟨#[]⟩ : ByteArray)⟩ : S58), (⟨(⟨#[97, 47, 98]⟩ : ByteArray), 0, (⟨#[]⟩ : ByteArray)⟩ : S58)] : List (S58))) (inner := [.string (⟨#[97]⟩ : ByteArray), .int .i64 0, .string (⟨#[]⟩ : ByteArray), .string (⟨#[97, 47, 98]⟩ : ByteArray), .int .i64 0, .string (⟨#[]⟩ : ByteArray)]) (ok := fun _ => True) (okp := fun _ => True) ?hr ?hp (fun _ hk => hk) trivial (Below.refl _ _) (Nat.le_refl _) (by simp) ?_; (case hd => rfl); (case hg => rfl); (case hr => first | (go_simp; done) | (go_simp; rfl)); (case hp => exact (Reps.c3 (show Kd.M k58 _ _ _ (⟨(⟨#[97]⟩ : ByteArray), 0, (⟨#[]⟩ : ByteArray)⟩ : S58) [.string (⟨#[97]⟩ : ByteArray), .int .i64 0, .string (⟨#[]⟩ : ByteArray)] from (k58_mkM _ _ _ (⟨(⟨#[97]⟩ : ByteArray), 0, (⟨#[]⟩ : ByteArray)⟩ : S58) )) (Reps.c3 (show Kd.M k58 _ _ _ (⟨(⟨#[97, 47, 98]⟩ : ByteArray), 0, (⟨#[]⟩ : ByteArray)⟩ : S58) [.string (⟨#[97, 47, 98]⟩ : ByteArray), .int .i64 0, .string (⟨#[]⟩ : ByteArray)] from (k58_mkM _ _ _ (⟨(⟨#[97, 47, 98]⟩ : ByteArray), 0, (⟨#[]⟩ : ByteArray)⟩ : S58) )) (Reps.none _ _)))); intro v190 w14 ho15 hb hg_ hnew_; clear hg_ hnew_; (first | rw [← Ny189.out] at ho15 | (simp only [Int.reduceToNat] at ho15; rw [← Ny189.out] at ho15)); have n0_ := Aside0.mk (Kd.R_lower ho15 (below_size (by repeat (first | (with_reducible first | exact HB.out | apply below_alloc | apply pw_below_drewN | apply below_drew1) | exact HB.out)))); have n1_ := Aside0.mk (below_step (by repeat (first | (with_reducible first | exact HB.out | apply below_alloc | apply pw_below_drewN | apply below_drew1) | exact HB.out)) hb); clear HB; have HO191 := n0_; have HB := n1_; clear n0_ n1_; clear hb ho15; obtain ⟨Ao16, co16, eo16⟩ := Kd.R_slice HO191.out; subst eo16) | (go_at_call 19; (with_reducible refine (tree_Check.calls k _ _ y189 t192 _ ?side1 ?side2 A10.out).mono ?_); (case side1 => repeat (first | exact (Kd.R_reads' HO191.out).2.2 | (with_reducible refine Kd.C_alloc ?_ _) | (with_reducible refine Kd.C_drewN ?_ _) | (with_reducible refine Kd.C_drew ?_))); (case side2 => exact (Kd.R_reads' HO191.out).2.1); rintro e w17 ⟨rfl, hb⟩; have n0_ := Aside0.mk (Kd.R_below (by (with_reducible repeat (first | apply Kd.R_alloc | apply Kd.R_drewN | apply Kd.R_drew)); exact HO191.out) hb); have n1_ := Aside0.mk (below_step (by repeat (first | (with_reducible first | exact HB.out | apply below_alloc | apply pw_below_drewN | apply below_drew1) | exact HB.out)) hb); clear HO191; clear HB; have HO191 := n0_; have HB := n1_; clear n0_ n1_; (try clear hb); (try clear hb2); (try clear hk); (try clear hi)))
        go_ret
        exact ⟨by first | rfl | (simp [errW_none, errW_some] <;> rfl) | (simp [*, errW_none, errW_some] <;> rfl), by repeat (first | (with_reducible first | exact HB.out | apply below_alloc | apply pw_below_drewN | apply below_drew1) | exact HB.out)⟩
    · replace c4 := Bool.eq_false_iff.mpr c4
      subst c4
      have H1 : (some false) = some r := by rw [if_neg (show ¬ (false = true) by decide)] at H; exact H
      clear H
      have H := H1
      clear H1
      obtain rfl := Option.some.inj H
      go_enter Tryd.func16, Tryd.ntmps16
      go_wp2_with (first | ((with_reducible refine gate_callee (f := 18) rfl ?_); refine goesL_ (some 1) rfl rfl Tryd.func18 (by kernel_rfl) rfl #[.string (⟨#[97, 47, 98]⟩ : ByteArray), .string (⟨#[97, 45, 98]⟩ : ByteArray)] rfl (by (try simp only [List.map_toArray, List.map_cons, List.map_nil]); first | done | rfl | (simp only [List.length_drop, List.length_take]; rfl)) ?_; (with_reducible refine (tree_Order.calls k (⟨#[97, 47, 98]⟩ : ByteArray) (⟨#[97, 45, 98]⟩ : ByteArray) t186 _ A1.out).mono ?_); rintro e w18 ⟨rfl, hb⟩; refine ⟨_, rfl, ?_⟩; have n0_ := Aside0.mk (below_step (by repeat (first | (with_reducible first | exact HB.out | apply below_alloc | apply pw_below_drewN | apply below_drew1) | exact HB.out)) hb); clear HB; have HB := n0_; clear n0_; (try clear hb); (try clear hb2); (try clear hk); (try clear hi)) | (go_at_call 23; (with_reducible refine (tree_Match.calls k (⟨#[97, 47, 42, 42, 47, 99, 63]⟩ : ByteArray) (⟨#[97, 47, 98, 47, 98, 47, 99, 100]⟩ : ByteArray) false _ A3.out).mono ?_); rintro e w19 ⟨rfl, hb⟩; have n0_ := Aside0.mk (below_step (by repeat (first | (with_reducible first | exact HB.out | apply below_alloc | apply pw_below_drewN | apply below_drew1) | exact HB.out)) hb); clear HB; have HB := n0_; clear n0_; (try clear hb); (try clear hb2); (try clear hk); (try clear hi)))
      go_ret
      exact ⟨by first | rfl | (simp [errW_none, errW_some] <;> rfl) | (simp [*, errW_none, errW_some] <;> rfl), by repeat (first | (with_reducible first | exact HB.out | apply below_alloc | apply pw_below_drewN | apply below_drew1) | exact HB.out)⟩
  · rw [if_neg c2] at H
    have c2b0 : decide (t186 < 0) = false := decide_eq_false c2
    clear c2
    obtain rfl := Option.some.inj H
    go_enter Tryd.func16, Tryd.ntmps16
    go_wp2_with (first | ((with_reducible refine gate_callee (f := 18) rfl ?_); refine goesL_ (some 1) rfl rfl Tryd.func18 (by kernel_rfl) rfl #[.string (⟨#[97, 47, 98]⟩ : ByteArray), .string (⟨#[97, 45, 98]⟩ : ByteArray)] rfl (by (try simp only [List.map_toArray, List.map_cons, List.map_nil]); first | done | rfl | (simp only [List.length_drop, List.length_take]; rfl)) ?_; (with_reducible refine (tree_Order.calls k (⟨#[97, 47, 98]⟩ : ByteArray) (⟨#[97, 45, 98]⟩ : ByteArray) t186 _ A1.out).mono ?_); rintro e w20 ⟨rfl, hb⟩; refine ⟨_, rfl, ?_⟩; have n0_ := Aside0.mk (below_step (by repeat (first | (with_reducible first | exact HB.out | apply below_alloc | apply pw_below_drewN | apply below_drew1) | exact HB.out)) hb); clear HB; have HB := n0_; clear n0_; (try clear hb); (try clear hb2); (try clear hk); (try clear hi)))
    go_ret
    exact ⟨by first | rfl | (simp [errW_none, errW_some] <;> rfl) | (simp [*, errW_none, errW_some] <;> rfl), by repeat (first | (with_reducible first | exact HB.out | apply below_alloc | apply pw_below_drewN | apply below_drew1) | exact HB.out)⟩
end Go.Proofs.YtafjlibcdlihcaaDoor.G
end
section
namespace Go.Proofs.YtafjlibcdlihcaaDoor.G
open Go.RowKit Go.Proofs.YtafjlibcdlihcaaDoorW.PrintWords Go.Proofs.YtafjlibcdlihcaaDoorW.PrintLast Go.Proofs.YtafjlibcdlihcaaDoorW.PrintMore
attribute [local go_sem] max2_int min2_int max_two min_two max_three min_three max_four min_four   -- for this text's walks alone
set_option linter.unusedVariables false
set_option linter.unusedSimpArgs false
def barquelaw09_few.f (l0 : List (S58)) : Option ((List (S58))) := if (l0.length : Int) > 60 then (if 60 ≤ (l0.length : Int) then (some (l0.take 60)) else (none)) else (some l0)
set_option maxHeartbeats 8000000 in
set_option maxRecDepth 100000 in
theorem barquelaw09_few.calls (P0_ : Nat → Prop) (A0 : Option Addr) (c0 : Nat) (l0 : List (S58)) (r : List (S58)) (w : World) (hs0 : Kd.V k58 58 w w.heap.size (fun k_ => P0_ k_) (.slice A0 l0.length c0) l0) (h : barquelaw09_few.f l0 = some r) :
    Calls Tryd.prog 25 #[.slice A0 l0.length c0] w fun e w' => ∃ v0_ : Value, e = .returned (v0_) ∧ Kd.V k58 58 w' w.heap.size (fun k_ => (P0_ k_ ∨ w.heap.size ≤ k_)) v0_ r ∧ Below w.heap.size w w' := by
  have HO0 := Aside0.mk (show Kd.V k58 58 w w.heap.size (fun k_ => (P0_ k_ ∨ w.heap.size ≤ k_)) (.slice A0 l0.length c0) l0 from Kd.V_mono hs0 (fun k_ hk => .inl hk))
  have HB := Aside0.mk (Below.refl w.heap.size w)
  have H : (if (l0.length : Int) > 60 then (if 60 ≤ (l0.length : Int) then (some (l0.take 60)) else (none)) else (some l0)) = some r := h
  clear h
  by_cases c2 : (l0.length : Int) > 60
  · rw [if_pos c2] at H
    have c2b0 : decide (60 < (l0.length : Int)) = true := decide_eq_true c2
    have c2b1 : decide (60 < l0.length) = true := decide_eq_true (by omega)
    clear c2
    by_cases c3 : 60 ≤ (l0.length : Int)
    · rw [if_pos c3] at H
      have c3b0 := eq_true c3
      have c3b1 : decide (60 ≤ (l0.length : Int)) = true := decide_eq_true c3
      clear c3
      obtain ⟨y283, hy283⟩ : ∃ y_ : List (S58), y_ = (l0.take 60) := ⟨_, rfl⟩
      replace H : (some y283) = some r := by first | (rw [hy283]; with_reducible exact H) | (have H2_ := (Option.bind_some _ _).symm.trans H; rw [hy283]; with_reducible exact H2_) | (have H2_ := (Option.bind_some _ _).symm.trans H; with_reducible exact H2_) | with_reducible exact H | (rw [hy283]; exact H) | exact H
      have Ny283 := Aside0.mk hy283
      clear hy283
      obtain rfl := Option.some.inj H
      have q4 : (60 : Int) ≤ ((l0.length : Int) : Int) := of_decide_eq_true (by first | (with_reducible assumption) | assumption)
      obtain ⟨i04, hi04, _, hsz4, _⟩ := info_parts info58
      have hroom4 : l0.length ≤ c0 := (Kd.V_reads' HO0.out).2.1
      have hC4 : Kd.F k58 _ _ A0 l0.length l0 := (Kd.V_at (base := w.heap.size) HO0.out).2.2
      have hcut4 := cut_to (P := Tryd.prog) 29 58 .i64 Tryd.underlying29 hi04 A0 l0.length c0 60 (by omega) q4 hroom4
      have hr4 := Kd.F_take (m := 60) hC4 (by omega)
      have hy4 : y283.length = (60 : Int).toNat := (by rw [Ny283.out, List.length_take]; omega)
      rw [← Ny283.out] at hr4
      rw [← hy4] at hcut4
      have HO287 := Aside0.mk (show Kd.V k58 58 _ w.heap.size _ (.slice A0 y283.length c0) y283 from Kd.V_mk (by omega) hr4)
      have HC287 := Aside0.mk (show y283.length ≤ c0 from by omega)
      clear hr4 hC4 hroom4 hi04 hsz4
      have KY4 := Aside0.mk hy4
      clear hy4
      replace q4 := eq_true q4
      go_enter Tryd.func25, Tryd.ntmps25
      go_wp2
      go_ret
      exact ⟨_, by first | rfl | (simp [errW_none, errW_some] <;> rfl) | (simp [*, errW_none, errW_some] <;> rfl), by (with_reducible repeat (first | apply Kd.V_alloc | apply Kd.V_drewN | apply Kd.V_drew)); exact HO287.out, by repeat (first | (with_reducible first | exact HB.out | apply below_alloc | apply pw_below_drewN | apply below_drew1) | exact HB.out)⟩
    · rw [if_neg c3] at H
      exact absurd H (by simp)
  · rw [if_neg c2] at H
    have c2b0 : decide (60 < (l0.length : Int)) = false := decide_eq_false c2
    have c2b1 : decide (60 < l0.length) = false := decide_eq_false (by omega)
    clear c2
    obtain rfl := Option.some.inj H
    go_enter Tryd.func25, Tryd.ntmps25
    go_wp2
    go_ret
    exact ⟨_, by first | rfl | (simp [errW_none, errW_some] <;> rfl) | (simp [*, errW_none, errW_some] <;> rfl), by (with_reducible repeat (first | apply Kd.V_alloc | apply Kd.V_drewN | apply Kd.V_drew)); exact HO0.out, by repeat (first | (with_reducible first | exact HB.out | apply below_alloc | apply pw_below_drewN | apply below_drew1) | exact HB.out)⟩
end Go.Proofs.YtafjlibcdlihcaaDoor.G
end
