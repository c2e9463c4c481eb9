/- Texts of this session's claim of TreeSorts, less what its theorem does not reach. No condition. -/
import Derived.Test.YtafjlibcdlihcaaDoorTS13
section
namespace Go.Proofs.YtafjlibcdlihcaaDoor.G
open Go.RowKit Go.Proofs.YtafjlibcdlihcaaDoorW.PrintWords Go.Proofs.YtafjlibcdlihcaaDoorW.PrintLast Go.Proofs.YtafjlibcdlihcaaDoorW.PrintMore
attribute [local go_sem] max2_int min2_int max_two min_two max_three min_three max_four min_four   -- for this text's walks alone
set_option linter.unusedVariables false
set_option linter.unusedSimpArgs false
mutual
def tree_inName.l0 : Nat → ByteArray → List Bool → List Int → Int → Int → Option (Bool)
  | 0, _, _, _, _, _ => none
  | k + 1, x1, x5, x17, x18, x19 => if x19 < x18 then (if 0 ≤ x19 then (if x19 < (x17.length : Int) then (if 0 ≤ (wrap64 ((x1.size : Int) + 1)) then (if (wrap64 ((x1.size : Int) + 1) : Int).toNat ≤ 281474976710656 then ((some (List.replicate (wrap64 ((x1.size : Int) + 1) : Int).toNat false : List Bool)).bind fun y147 => (tree_inName.l1 k x1 x5 (rd x17 x19) y147 x17 x18 x19 (y147.length : Int) 0)) else (none)) else (none)) else (none)) else (none)) else (if 0 ≤ (x1.size : Int) then (if (x1.size : Int) < (x5.length : Int) then (some (rdOf false x5 (x1.size : Int))) else (none)) else (none))
def tree_inName.l1 : Nat → ByteArray → List Bool → Int → List Bool → List Int → Int → Int → Int → Int → Option (Bool)
  | 0, _, _, _, _, _, _, _, _, _ => none
  | k + 1, x1, x5, x7, x8, x17, x18, x19, x28, x29 => if x29 < x28 then (if x7 = 42 then (if 0 ≤ x29 then (if x29 < (x5.length : Int) then (if rdOf false x5 x29 = true then (if x29 < (x8.length : Int) then (tree_inName.l1 k x1 x5 x7 (x8.set (x29 : Int).toNat true) x17 x18 x19 x28 (wrap64 (x29 + 1))) else (none)) else (if x29 > 0 then (if 0 ≤ (wrap64 (x29 - 1)) then (if (wrap64 (x29 - 1)) < (x8.length : Int) then (if x29 < (x8.length : Int) then (tree_inName.l1 k x1 x5 x7 (x8.set (x29 : Int).toNat (rdOf false x8 (wrap64 (x29 - 1)))) x17 x18 x19 x28 (wrap64 (x29 + 1))) else (none)) else (none)) else (none)) else (if x29 < (x8.length : Int) then (tree_inName.l1 k x1 x5 x7 (x8.set (x29 : Int).toNat false) x17 x18 x19 x28 (wrap64 (x29 + 1))) else (none)))) else (none)) else (none)) else (if x29 > 0 then (if 0 ≤ (wrap64 (x29 - 1)) then (if (wrap64 (x29 - 1)) < (x5.length : Int) then (if rdOf false x5 (wrap64 (x29 - 1)) = true then (if x7 = 63 then (if 0 ≤ x29 then (if x29 < (x8.length : Int) then (tree_inName.l1 k x1 x5 x7 (x8.set (x29 : Int).toNat true) x17 x18 x19 x28 (wrap64 (x29 + 1))) else (none)) else (none)) else (if (wrap64 (x29 - 1)) < (x1.size : Int) then (if 0 ≤ x29 then (if x29 < (x8.length : Int) then (tree_inName.l1 k x1 x5 x7 (x8.set (x29 : Int).toNat (x7 == (bt x1 (wrap64 (x29 - 1))))) x17 x18 x19 x28 (wrap64 (x29 + 1))) else (none)) else (none)) else (none))) else (if 0 ≤ x29 then (if x29 < (x8.length : Int) then (tree_inName.l1 k x1 x5 x7 (x8.set (x29 : Int).toNat false) x17 x18 x19 x28 (wrap64 (x29 + 1))) else (none)) else (none))) else (none)) else (none)) else (tree_inName.l1 k x1 x5 x7 x8 x17 x18 x19 x28 (wrap64 (x29 + 1))))) else (tree_inName.l0 k x1 x8 x17 x18 (wrap64 (x19 + 1)))
end
def tree_inName.f (k : Nat) (a0 : ByteArray) (a1 : ByteArray) : Option (Bool) := if 0 ≤ (wrap64 ((a1.size : Int) + 1)) then (if (wrap64 ((a1.size : Int) + 1) : Int).toNat ≤ 281474976710656 then ((some (List.replicate (wrap64 ((a1.size : Int) + 1) : Int).toNat false : List Bool)).bind fun y138 => (if 0 < (y138.length : Int) then ((conv_bytes.f a0).bind fun t142 => (tree_inName.l0 k a1 (y138.set (0 : Int).toNat true) t142 (t142.length : Int) 0)) else (none))) else (none)) else (none)
theorem tree_inName.mono_l : ∀ k, (∀ y0 y1 y2 y3 y4, LeO (tree_inName.l0 k y0 y1 y2 y3 y4) (tree_inName.l0 (k + 1) y0 y1 y2 y3 y4)) ∧ (∀ y0 y1 y2 y3 y4 y5 y6 y7 y8, LeO (tree_inName.l1 k y0 y1 y2 y3 y4 y5 y6 y7 y8) (tree_inName.l1 (k + 1) y0 y1 y2 y3 y4 y5 y6 y7 y8))
  | 0 => ⟨fun _ _ _ _ _ r h => by simp [tree_inName.l0] at h, fun _ _ _ _ _ _ _ _ _ r h => by simp [tree_inName.l1] at h⟩
  | k + 1 => by
    obtain ⟨ih0, ih1⟩ := tree_inName.mono_l k
    refine ⟨?_, ?_⟩
    · intro y0 y1 y2 y3 y4
      unfold tree_inName.l0
      repeat' first
      | (with_reducible exact ih0 _ _ _ _ _)
      | (with_reducible exact ih1 _ _ _ _ _ _ _ _ _)
      | (with_reducible exact LeO.refl _)
      | (with_reducible exact LeO.none _)
      | (with_reducible refine LeO.ite ?_ ?_)
      | (with_reducible refine LeO.bind ?_ (fun _ => ?_))
      | exact ih0 _ _ _ _ _
      | exact ih1 _ _ _ _ _ _ _ _ _
      | exact LeO.none _
      | refine LeO.ite ?_ ?_
      | refine LeO.bind ?_ (fun _ => ?_)
    · intro y0 y1 y2 y3 y4 y5 y6 y7 y8
      unfold tree_inName.l1
      repeat' first
      | (with_reducible exact ih0 _ _ _ _ _)
      | (with_reducible exact ih1 _ _ _ _ _ _ _ _ _)
      | (with_reducible exact LeO.refl _)
      | (with_reducible exact LeO.none _)
      | (with_reducible refine LeO.ite ?_ ?_)
      | (with_reducible refine LeO.bind ?_ (fun _ => ?_))
      | exact ih0 _ _ _ _ _
      | exact ih1 _ _ _ _ _ _ _ _ _
      | exact LeO.none _
      | refine LeO.ite ?_ ?_
      | refine LeO.bind ?_ (fun _ => ?_)
theorem tree_inName.mono : ∀ a0 a1 k, LeO (tree_inName.f k a0 a1) (tree_inName.f (k + 1) a0 a1) := by
  intro a0 a1 k
  obtain ⟨ih0, ih1⟩ := tree_inName.mono_l k
  unfold tree_inName.f
  repeat' first
      | (with_reducible exact ih0 _ _ _ _ _)
      | (with_reducible exact ih1 _ _ _ _ _ _ _ _ _)
      | (with_reducible exact LeO.refl _)
      | (with_reducible exact LeO.none _)
      | (with_reducible refine LeO.ite ?_ ?_)
      | (with_reducible refine LeO.bind ?_ (fun _ => ?_))
      | exact ih0 _ _ _ _ _
      | exact ih1 _ _ _ _ _ _ _ _ _
      | exact LeO.none _
      | refine LeO.ite ?_ ?_
      | refine LeO.bind ?_ (fun _ => ?_)
set_option maxHeartbeats 8000000 in
set_option maxRecDepth 100000 in
theorem tree_inName.calls (k : Nat) (a0 : ByteArray) (a1 : ByteArray) (r : Bool) (w : World) (h : tree_inName.f k a0 a1 = some r) :
    Calls Tryd.prog 52 #[.string a0, .string a1] w fun e w' => e = .returned (.bool r) ∧ Below w.heap.size w w' := by
  have HB := Aside0.mk (Below.refl w.heap.size w)
  have H : (if 0 ≤ (wrap64 ((a1.size : Int) + 1)) then (if (wrap64 ((a1.size : Int) + 1) : Int).toNat ≤ 281474976710656 then ((some (List.replicate (wrap64 ((a1.size : Int) + 1) : Int).toNat false : List Bool)).bind fun y138 => (if 0 < (y138.length : Int) then ((conv_bytes.f a0).bind fun t142 => (tree_inName.l0 k a1 (y138.set (0 : Int).toNat true) t142 (t142.length : Int) 0)) else (none))) else (none)) else (none)) = some r := h
  clear h
  obtain ⟨ji3, hji3⟩ : ∃ j_ : Int, (wrap64 ((a1.size : Int) + 1)) = j_ := ⟨_, rfl⟩
  replace H : (if 0 ≤ (ji3) then (if (ji3 : Int).toNat ≤ 281474976710656 then ((some (List.replicate (ji3 : Int).toNat false : List Bool)).bind fun y138 => (if 0 < (y138.length : Int) then ((conv_bytes.f a0).bind fun t142 => (tree_inName.l0 k a1 (y138.set (0 : Int).toNat true) t142 (t142.length : Int) 0)) else (none))) else (none)) else (none)) = some r := by first | (rw [hji3] at H; exact H) | (simp only [hji3] at H ⊢; exact H)
  have hji3w : (IntKind.i64.wrap ((a1.size : Int) + 1)) = ji3 := (i64_w _).trans hji3
  by_cases c4 : 0 ≤ (ji3)
  · rw [if_pos c4] at H
    have c4b0 := eq_true c4
    have c4b1 : decide (0 ≤ (ji3)) = true := decide_eq_true c4
    clear c4
    by_cases c5 : (ji3 : Int).toNat ≤ 281474976710656
    · rw [if_pos c5] at H
      have c5b0 := eq_true c5
      have c5b1 : decide ((ji3 : Int).toNat ≤ 281474976710656) = true := decide_eq_true c5
      clear c5
      obtain ⟨y138, hy138⟩ : ∃ y_ : List Bool, y_ = (List.replicate (ji3 : Int).toNat false) := ⟨_, rfl⟩
      replace H : (if 0 < (y138.length : Int) then ((conv_bytes.f a0).bind fun t142 => (tree_inName.l0 k a1 (y138.set (0 : Int).toNat true) t142 (t142.length : Int) 0)) else (none)) = some r := by first | (rw [hy138]; with_reducible exact H) | (have H2_ := (Option.bind_some _ _).symm.trans H; rw [hy138]; with_reducible exact H2_) | (have H2_ := (Option.bind_some _ _).symm.trans H; with_reducible exact H2_) | with_reducible exact H | (rw [hy138]; exact H) | exact H
      have Ny138 := Aside0.mk hy138
      clear hy138
      by_cases c6 : 0 < (y138.length : Int)
      · rw [if_pos c6] at H
        have c6b0 : decide (0 < (y138.length : Int)) = true := decide_eq_true c6
        have c6b1 : decide (0 < y138.length) = true := decide_eq_true (by omega)
        clear c6
        obtain ⟨y141, hy141⟩ : ∃ y_ : List Bool, y_ = (y138.set (0 : Int).toNat true) := ⟨_, rfl⟩
        replace H : ((conv_bytes.f a0).bind fun t142 => (tree_inName.l0 k a1 y141 t142 (t142.length : Int) 0)) = some r := by first | (rw [hy141]; with_reducible exact H) | (have H2_ := (Option.bind_some _ _).symm.trans H; rw [hy141]; with_reducible exact H2_) | (have H2_ := (Option.bind_some _ _).symm.trans H; with_reducible exact H2_) | with_reducible exact H | (rw [hy141]; exact H) | exact H
        have Ny141 := Aside0.mk hy141
        clear hy141
        replace H := Option.bind_eq_some_iff.mp H
        obtain ⟨t142, A80, H⟩ := H
        replace H : (tree_inName.l0 k a1 y141 t142 (t142.length : Int) 0) = some r := H
        have A8 := Aside0.mk A80
        clear A80
        have H' := Aside0.mk H
        clear H
        go_enter Tryd.func52, Tryd.ntmps52
        go_wp2_with (first | ((with_reducible refine gate_dst (N := 13) rfl ?_); refine Kd.R_make Kd.bool _ 4 rfl (N := 13) rfl 67 _ _ rfl ji3 rfl rfl Tryd.underlying67 (.bool false) 1 info4 rfl (by decide) (by omega) false (ok := fun _ => True) (okp := fun _ => True) rfl (fun _ hk => hk) trivial (of_decide_eq_true (by first | (with_reducible assumption) | assumption)) (Nat.le_trans (Nat.mul_le_mul_right _ (of_decide_eq_true (by first | (with_reducible assumption) | assumption) : ji3.toNat ≤ 281474976710656)) (by omega)) (Below.refl _ _) (Nat.le_refl _) ?_; intro v139 w9 ho10 hb hg_ hnew_; clear hg_ hnew_; (first | rw [← Ny138.out] at ho10 | (simp only [Int.reduceToNat] at ho10; rw [← Ny138.out] at ho10)); have n0_ := Aside0.mk (Kd.R_lower ho10 (below_size (by repeat (first | (with_reducible first | exact HB.out | apply below_alloc | apply pw_below_drewN | apply below_drew1) | exact HB.out)))); have n1_ := Aside0.mk (below_step (by repeat (first | (with_reducible first | exact HB.out | apply below_alloc | apply pw_below_drewN | apply below_drew1) | exact HB.out)) hb); clear HB; have HO140 := n0_; have HB := n1_; clear n0_ n1_; clear hb ho10; have p7 : 0 ≤ (0 : Int) := (by omega); have q7 : (0 : Int) < ((y138.length : Int) : Int) := of_decide_eq_true (by first | (with_reducible assumption) | assumption); have qi7 : (0 < y138.length) = True := eq_true (by omega); obtain ⟨go7, co7, eo7, gb7, gl7, cl7, HG7⟩ := Kd.R_form HO140.out (by omega); (first | cases eo7 | (injection eo7 with ea_ en_ ec_; (first | subst ea_ | (injection ea_ with ea_; subst ea_)); subst ec_; clear en_)); have GB7 := Aside0.mk gb7; have GG7 := Aside0.mk HG7; clear gb7 gl7 HG7; obtain ⟨hx7_0, hf7_0⟩ := Kd.R_celln false HO140.out (0 : Int) p7 q7; (try rw [show ((0 : Int)).toNat = 0 from rfl] at hx7_0); (try simp only [Nat.reduceMul, Nat.zero_mul, Nat.zero_add, Nat.reduceAdd] at hx7_0); (try rw [show ((0 : Int)).toNat = 0 from rfl] at hf7_0); (try simp only [Nat.reduceMul, Nat.zero_mul, Nat.zero_add, Nat.reduceAdd] at hf7_0); replace p7 := eq_true p7; replace q7 := eq_true q7; obtain ⟨hy11_, hz11_⟩ := Kd.R_celln false HO140.out (0 : Int) (by omega) (of_decide_eq_true (by first | (with_reducible assumption) | assumption)); (try simp only [Int.reduceToNat, Int.toNat_zero, Int.toNat_ofNat, Nat.reduceMul, Nat.zero_mul, Nat.zero_add] at hy11_ hz11_); (try rw [show ((0 : Int)).toNat = 0 from rfl] at hy11_); (try rw [show ((0 : Int)).toNat = 0 from rfl] at hz11_); have HP11 := Kd.R_putg HO140.out (0 : Int) true) | ((with_reducible refine gate_store (t := 4) (p := 15) rfl ?_); refine store_event (t := 4) (p := 15) (v := ?vo_w12) (w1 := (w9.setCell ⟨go7, (0 : Int).toNat, none⟩ (.bool true))) ?hg ?ho ?hn ?hr ?_; (case ho => rfl); (case hg => rfl); (case hn => rfl); (case hr => first | (go_simp; done) | (go_simp; rfl)); intro w12 hw; have hg : w9.grownBy w12 (some go7) := (by rw [hw]; exact HP11.2); have hp_ : Kd.R Kd.bool 4 w12 w.heap.size (fun _ => True) (.slice (some ⟨go7, 0, none⟩) y138.length co7) y141 := (by rw [hw, Ny141.out]; exact HP11.1); clear HP11; have n0_ := Aside0.mk (hp_); have n1_ := Aside0.mk ((by rw [hw]; exact below_set (HB.out) GB7.out : Below w.heap.size w w12)); clear HO140; clear HB; have HO140 := n0_; have HB := n1_; clear n0_ n1_; clear hg hw hp_) | ((with_reducible refine gate_conv_ (s := 9) (t := 66) rfl ?_); refine convL_ (some 17) rfl rfl 9 66 5 a0 rfl rfl Tryd.underlying9 Tryd.underlying66 Tryd.underlying5 A8.out ?_; rintro e w13 ⟨v143, rfl, ho0, hb⟩; refine ⟨_, rfl, ?_⟩; have n0_ := Aside0.mk (Kd.R_below (by (with_reducible repeat (first | apply Kd.R_alloc | apply Kd.R_drewN | apply Kd.R_drew)); exact HO140.out) hb); have n1_ := Aside0.mk (Kd.V_lower (Kd.V_mono (ok' := fun k_ => some k_ ≠ (.slice (some ⟨go7, 0, none⟩) y138.length co7 : Value).ownBlock) ho0 (fun k_ hk_ => (Kd.fresh' (Kd.R_lt (by (with_reducible repeat (first | apply Kd.R_alloc | apply Kd.R_drewN | apply Kd.R_drew)); exact HO140.out)) k_ hk_))) (below_size (by repeat (first | (with_reducible first | exact HB.out | apply below_alloc | apply pw_below_drewN | apply below_drew1) | exact HB.out)))); have n2_ := Aside0.mk (below_step (by repeat (first | (with_reducible first | exact HB.out | apply below_alloc | apply pw_below_drewN | apply below_drew1) | exact HB.out)) hb); clear HO140; clear HB; have HO140 := n0_; have HO144 := n1_; have HB := n2_; clear n0_ n1_ n2_; (try clear hb); (try clear hb2); (try clear hk); (try clear hi); (try clear ho0); obtain ⟨Ao14, co14, eo14⟩ := Kd.V_slice HO144.out; subst eo14))
        go_loopg [5, 19] k (fun kq v5 v19 w' => ∃ (x5_1 : List Bool) (x19_1 : Int), v19 = .int .i64 x19_1 ∧ Aside0 (tree_inName.l0 kq a1 x5_1 t142 (t142.length : Int) x19_1 = some r) ∧ Aside0 (kq ≤ k) ∧ Aside0 (Kd.R Kd.bool 4 w' w.heap.size (fun _ => True) v5 x5_1) ∧ Aside0 (Kd.V (Kd.int .u8) 5 w' w.heap.size (fun k_ => some k_ ≠ (v5 : Value).ownBlock) (.slice Ao14 t142.length co14) t142) ∧ Aside0 (Below w.heap.size w w'))
        case atStart => exact ⟨(y141), (0), (by first | rfl | (simp; done) | (simp [*]; done)), H', ⟨Nat.le_refl _⟩, ⟨by (with_reducible repeat (first | apply Kd.R_alloc | apply Kd.R_drewN | apply Kd.R_drew)); exact HO140.out⟩, ⟨by (with_reducible repeat (first | apply Kd.V_alloc | apply Kd.V_drewN | apply Kd.V_drew)); exact HO144.out⟩, ⟨by repeat (first | (with_reducible first | exact HB.out | apply below_alloc | apply pw_below_drewN | apply below_drew1) | exact HB.out)⟩⟩
        case round =>
          clear H'
          try clear c1
          try clear p2
          try clear c4
          try clear c4b0
          try clear c4b1
          try clear c5
          try clear c5b0
          try clear c5b1
          try clear c6
          try clear c6b0
          try clear c6b1
          try clear p6
          try clear p7
          try clear q7
          try clear hx7
          try clear qi7
          try clear hf7
          try clear c14
          try clear hx7_0
          try clear p7
          try clear q7
          obtain ⟨x5_1, x19_1, rfl, HA, HK1, HO_5, HO_17, HB⟩ := hrel
          cases gk with
          | zero => exact absurd HA.out (by simp [tree_inName.l0])
          | succ k1 =>
            have H := HA.out
            clear HA
            simp only [tree_inName.l0] at H
            by_cases c15 : x19_1 < (t142.length : Int)
            · rw [if_pos c15] at H
              have c15b0 : decide (x19_1 < (t142.length : Int)) = true := decide_eq_true c15
              clear c15
              by_cases c16 : 0 ≤ x19_1
              · rw [if_pos c16] at H
                have c16b0 : decide (0 ≤ x19_1) = true := decide_eq_true c16
                clear c16
                by_cases c17 : x19_1 < (t142.length : Int)
                · rw [if_pos c17] at H
                  have c17b0 : decide (x19_1 < (t142.length : Int)) = true := decide_eq_true c17
                  clear c17
                  obtain ⟨ji18, hji18⟩ : ∃ j_ : Int, (wrap64 ((a1.size : Int) + 1)) = j_ := ⟨_, rfl⟩
                  (try (have hjq_ : ji18 = ji3 := hji18.symm.trans hji3; subst hjq_))
                  replace H : (if 0 ≤ (ji18) then (if (ji18 : Int).toNat ≤ 281474976710656 then ((some (List.replicate (ji18 : Int).toNat false : List Bool)).bind fun y147 => (tree_inName.l1 k1 a1 x5_1 (rd t142 x19_1) y147 t142 (t142.length : Int) x19_1 (y147.length : Int) 0)) else (none)) else (none)) = some r := by first | (rw [hji18] at H; exact H) | (simp only [hji18] at H ⊢; exact H)
                  have hji18w : (IntKind.i64.wrap ((a1.size : Int) + 1)) = ji18 := (i64_w _).trans hji18
                  by_cases c19 : 0 ≤ (ji18)
                  · rw [if_pos c19] at H
                    have c19b0 := eq_true c19
                    have c19b1 : decide (0 ≤ (ji18)) = true := decide_eq_true c19
                    clear c19
                    by_cases c20 : (ji18 : Int).toNat ≤ 281474976710656
                    · rw [if_pos c20] at H
                      have c20b0 := eq_true c20
                      have c20b1 : decide ((ji18 : Int).toNat ≤ 281474976710656) = true := decide_eq_true c20
                      clear c20
                      obtain ⟨y147, hy147⟩ : ∃ y_ : List Bool, y_ = (List.replicate (ji18 : Int).toNat false) := ⟨_, rfl⟩
                      replace H : (tree_inName.l1 k1 a1 x5_1 (rd t142 x19_1) y147 t142 (t142.length : Int) x19_1 (y147.length : Int) 0) = some r := by first | (rw [hy147]; with_reducible exact H) | (have H2_ := (Option.bind_some _ _).symm.trans H; rw [hy147]; with_reducible exact H2_) | (have H2_ := (Option.bind_some _ _).symm.trans H; with_reducible exact H2_) | with_reducible exact H | (rw [hy147]; exact H) | exact H
                      have Ny147 := Aside0.mk hy147
                      clear hy147
                      have H' := Aside0.mk H
                      clear H
                      have p146 : 0 ≤ (x19_1 : Int) := of_decide_eq_true (by first | (with_reducible assumption) | assumption)
                      have q146 : x19_1 < (t142.length : Int) := of_decide_eq_true (by first | (with_reducible assumption) | assumption)
                      obtain ⟨ad146, e146, hx146_0⟩ := Kd.at_int (Kd.V_reads' HO_17.out).2.2 x19_1 p146 q146
                      cases e146
                      replace p146 := eq_true p146
                      replace q146 := eq_true q146
                      go_wp2_with (first | ((with_reducible refine gate_dst (N := 26) rfl ?_); refine Kd.R_make Kd.bool _ 4 rfl (N := 26) rfl 67 _ _ rfl ji18 rfl rfl Tryd.underlying67 (.bool false) 1 info4 rfl (by decide) (by omega) false (ok := fun _ => True) (okp := fun _ => True) rfl (fun _ hk => hk) trivial (of_decide_eq_true (by first | (with_reducible assumption) | assumption)) (Nat.le_trans (Nat.mul_le_mul_right _ (of_decide_eq_true (by first | (with_reducible assumption) | assumption) : ji18.toNat ≤ 281474976710656)) (by omega)) (Below.refl _ _) (Nat.le_refl _) ?_; intro v148 w21 ho22 hb hg_ hnew_; clear hg_ hnew_; (first | rw [← Ny147.out] at ho22 | (simp only [Int.reduceToNat] at ho22; rw [← Ny147.out] at ho22)); have n0_ := Aside0.mk (Kd.R_elder' (by (with_reducible repeat (first | apply Kd.R_alloc | apply Kd.R_drewN | apply Kd.R_drew)); exact HO_5.out) (Kd.R_base ho22) hb); have n1_ := Aside0.mk (Kd.V_elder' (by (with_reducible repeat (first | apply Kd.V_alloc | apply Kd.V_drewN | apply Kd.V_drew)); exact HO_17.out) (Kd.R_base ho22) hb); have n2_ := Aside0.mk (Kd.R_lower (Kd.R_new' ho22 (Kd.R_lt (by (with_reducible repeat (first | apply Kd.R_alloc | apply Kd.R_drewN | apply Kd.R_drew)); exact HO_5.out))) (below_size (by repeat (first | (with_reducible first | exact HB.out | apply below_alloc | apply pw_below_drewN | apply below_drew1) | exact HB.out)))); have n3_ := Aside0.mk (below_step (by repeat (first | (with_reducible first | exact HB.out | apply below_alloc | apply pw_below_drewN | apply below_drew1) | exact HB.out)) hb); clear HO_5; clear HO_17; clear HB; have HO_5 := n0_; have HO_17 := n1_; have HO149 := n2_; have HB := n3_; clear n0_ n1_ n2_ n3_; clear hb ho22; obtain ⟨Ao23, co23, eo23⟩ := Kd.R_slice HO149.out; subst eo23))
                      go_loopg [29] k1 (fun kq v29 w' => ∃ (x8_2 : List Bool) (x29_2 : Int), v29 = .int .i64 x29_2 ∧ Aside0 (tree_inName.l1 kq a1 x5_1 (rd t142 x19_1) x8_2 t142 (t142.length : Int) x19_1 (y147.length : Int) x29_2 = some r) ∧ Aside0 (kq ≤ k1) ∧ Aside0 (Kd.R Kd.bool 4 w' w.heap.size (fun k_ => some k_ ≠ ((.slice Ao23 y147.length co23) : Value).ownBlock) u5 x5_1) ∧ Aside0 (Kd.R Kd.bool 4 w' w.heap.size (fun k_ => some k_ ≠ (u5 : Value).ownBlock) (.slice Ao23 y147.length co23) x8_2) ∧ Aside0 (Kd.V (Kd.int .u8) 5 w' w.heap.size (fun k_ => some k_ ≠ (u5 : Value).ownBlock ∧ some k_ ≠ ((.slice Ao23 y147.length co23) : Value).ownBlock) (.slice (some ad146) t142.length co14) t142) ∧ Aside0 (Below w.heap.size w w'))
                      case atStart => exact ⟨(y147), (0), (by first | rfl | (simp; done) | (simp [*]; done)), H', ⟨Nat.le_refl _⟩, ⟨by (with_reducible repeat (first | apply Kd.R_alloc | apply Kd.R_drewN | apply Kd.R_drew)); exact Kd.R_mono HO_5.out (fun _ hk => hk.2)⟩, ⟨by (with_reducible repeat (first | apply Kd.R_alloc | apply Kd.R_drewN | apply Kd.R_drew)); exact Kd.R_mono HO149.out (fun _ hk => hk.2)⟩, ⟨by (with_reducible repeat (first | apply Kd.V_alloc | apply Kd.V_drewN | apply Kd.V_drew)); exact HO_17.out⟩, ⟨by repeat (first | (with_reducible first | exact HB.out | apply below_alloc | apply pw_below_drewN | apply below_drew1) | exact HB.out)⟩⟩
                      case round =>
                        clear H'
                        try clear c1
                        try clear p1
                        try clear q1
                        try clear hx1
                        try clear c2
                        try clear p2
                        try clear c4
                        try clear c4b0
                        try clear c4b1
                        try clear c5
                        try clear c5b0
                        try clear c5b1
                        try clear c6
                        try clear c6b0
                        try clear c6b1
                        try clear p6
                        try clear p7
                        try clear q7
                        try clear hx7
                        try clear qi7
                        try clear hf7
                        try clear c14
                        try clear p14
                        try clear q14
                        try clear hx14
                        try clear c15
                        try clear c15b0
                        try clear c16
                        try clear c16b0
                        try clear c17
                        try clear c17b0
                        try clear c19
                        try clear c19b0
                        try clear c19b1
                        try clear c20
                        try clear c20b0
                        try clear c20b1
                        try clear hx146_0
                        try clear hx7_0
                        try clear p146
                        try clear p2
                        try clear p6
                        try clear p7
                        try clear q146
                        try clear q7
                        obtain ⟨x8_2, x29_2, rfl, HA, HK2, HO_5, HO_8, HO_17, HB⟩ := hrel
                        have hl8_2 := (Kd.R_reads' HO_8.out).1
                        rw [hl8_2] at HO_8
                        (try simp only [hl8_2])
                        (try simp only [hl8_2] at HO_5)
                        (try simp only [hl8_2] at HO_17)
                        cases gk with
                        | zero => exact absurd HA.out (by simp [tree_inName.l1])
                        | succ k2 =>
                          have H := HA.out
                          clear HA
                          simp only [tree_inName.l1] at H
                          by_cases c24 : x29_2 < (y147.length : Int)
                          · rw [if_pos c24] at H
                            have c24b0 : decide (x29_2 < (y147.length : Int)) = true := decide_eq_true c24
                            (try simp only [hl8_2] at c24b0)
                            clear c24
                            by_cases c25 : (rd t142 x19_1) = 42
                            · rw [if_pos c25] at H
                              have c25b0 : ((rd t142 x19_1) == 42) = true := beq_iff_eq.mpr c25
                              have c25b1 : ((rd t142 x19_1) != 42) = false := bne_eq_false_iff_eq.mpr c25
                              clear c25
                              by_cases c26 : 0 ≤ x29_2
                              · rw [if_pos c26] at H
                                have c26b0 : decide (0 ≤ x29_2) = true := decide_eq_true c26
                                clear c26
                                by_cases c27 : x29_2 < (x5_1.length : Int)
                                · rw [if_pos c27] at H
                                  have c27b0 : decide (x29_2 < (x5_1.length : Int)) = true := decide_eq_true c27
                                  (try simp only [hl8_2] at c27b0)
                                  clear c27
                                  obtain ⟨bq28, hbq28⟩ : ∃ b_ : Bool, b_ = (rdOf false x5_1 x29_2) := ⟨_, rfl⟩
                                  replace H : (if bq28 = true then (if x29_2 < (x8_2.length : Int) then (tree_inName.l1 k2 a1 x5_1 (rd t142 x19_1) (x8_2.set (x29_2 : Int).toNat true) t142 (t142.length : Int) x19_1 (y147.length : Int) (wrap64 (x29_2 + 1))) else (none)) else (if x29_2 > 0 then (if 0 ≤ (wrap64 (x29_2 - 1)) then (if (wrap64 (x29_2 - 1)) < (x8_2.length : Int) then (if x29_2 < (x8_2.length : Int) then (tree_inName.l1 k2 a1 x5_1 (rd t142 x19_1) (x8_2.set (x29_2 : Int).toNat (rdOf false x8_2 (wrap64 (x29_2 - 1)))) t142 (t142.length : Int) x19_1 (y147.length : Int) (wrap64 (x29_2 + 1))) else (none)) else (none)) else (none)) else (if x29_2 < (x8_2.length : Int) then (tree_inName.l1 k2 a1 x5_1 (rd t142 x19_1) (x8_2.set (x29_2 : Int).toNat false) t142 (t142.length : Int) x19_1 (y147.length : Int) (wrap64 (x29_2 + 1))) else (none)))) = some r := by rw [← hbq28] at H; exact H
                                  have Nbq28 := Aside0.mk hbq28
                                  clear hbq28
                                  by_cases c29 : bq28 = true
                                  · subst c29
                                    have H1 : (if x29_2 < (x8_2.length : Int) then (tree_inName.l1 k2 a1 x5_1 (rd t142 x19_1) (x8_2.set (x29_2 : Int).toNat true) t142 (t142.length : Int) x19_1 (y147.length : Int) (wrap64 (x29_2 + 1))) else (none)) = some r := by rw [if_pos rfl] at H; exact H
                                    clear H
                                    have H := H1
                                    clear H1
                                    by_cases c30 : x29_2 < (x8_2.length : Int)
                                    · rw [if_pos c30] at H
                                      have c30b0 : decide (x29_2 < (x8_2.length : Int)) = true := decide_eq_true c30
                                      (try simp only [hl8_2] at c30b0)
                                      clear c30
                                      obtain ⟨y151, hy151⟩ : ∃ y_ : List Bool, y_ = (x8_2.set (x29_2 : Int).toNat true) := ⟨_, rfl⟩
                                      replace H : (tree_inName.l1 k2 a1 x5_1 (rd t142 x19_1) y151 t142 (t142.length : Int) x19_1 (y147.length : Int) (wrap64 (x29_2 + 1))) = some r := by first | (rw [hy151]; with_reducible exact H) | (have H2_ := (Option.bind_some _ _).symm.trans H; rw [hy151]; with_reducible exact H2_) | (have H2_ := (Option.bind_some _ _).symm.trans H; with_reducible exact H2_) | with_reducible exact H | (rw [hy151]; exact H) | exact H
                                      have Ny151 := Aside0.mk hy151
                                      clear hy151
                                      have H' := Aside0.mk H
                                      clear H
                                      obtain ⟨Ao32, co32, eo32⟩ := Kd.R_slice HO_5.out
                                      subst eo32
                                      have p150 : 0 ≤ (x29_2 : Int) := of_decide_eq_true (by first | (with_reducible assumption) | assumption)
                                      have q150 : x29_2 < (x5_1.length : Int) := of_decide_eq_true (by first | (with_reducible assumption) | assumption)
                                      obtain ⟨ad150, e150, hx150_0⟩ := Kd.at_bool (Kd.R_reads' HO_5.out).2.2 x29_2 p150 q150
                                      (try rw [← Nbq28.out] at hx150_0)
                                      cases e150
                                      replace p150 := eq_true p150
                                      replace q150 := eq_true q150
                                      have p31 : 0 ≤ (x29_2 : Int) := of_decide_eq_true (by first | (with_reducible assumption) | assumption)
                                      have q31 : (x29_2 : Int) < ((x8_2.length : Int) : Int) := of_decide_eq_true (by first | (with_reducible assumption) | assumption)
                                      obtain ⟨go31, co31, eo31, gb31, gl31, cl31, HG31⟩ := Kd.R_form HO_8.out (by omega)
                                      (first | cases eo31 | (injection eo31 with ea_ en_ ec_; (first | subst ea_ | (injection ea_ with ea_; subst ea_)); subst ec_; clear en_))
                                      have GB31 := Aside0.mk gb31
                                      have GG31 := Aside0.mk HG31
                                      clear gb31 gl31 HG31
                                      obtain ⟨hx31_0, hf31_0⟩ := Kd.R_celln false HO_8.out (x29_2 : Int) p31 q31
                                      replace p31 := eq_true p31
                                      replace q31 := eq_true q31
                                      have HP33 := Kd.R_putg HO_8.out (x29_2 : Int) true
                                      go_wp2_with (first | ((with_reducible refine gate_store (t := 4) (p := 52) rfl ?_); refine store_event (t := 4) (p := 52) (v := ?vo_w34) (w1 := (wr.setCell ⟨go31, (x29_2 : Int).toNat, none⟩ (.bool true))) ?hg ?ho ?hn ?hr ?_; (case ho => rfl); (case hg => rfl); (case hn => rfl); (case hr => first | (go_simp; done) | (go_simp; rfl)); intro w34 hw; have hg : wr.grownBy w34 (some go31) := (by rw [hw]; exact HP33.2); have hp_ : Kd.R Kd.bool 4 w34 w.heap.size (fun k_ => some k_ ≠ (.slice (some ad150) x5_1.length co32 : Value).ownBlock) (.slice (some ⟨go31, 0, none⟩) x8_2.length co23) y151 := (by rw [hw, Ny151.out]; exact HP33.1); clear HP33; have n0_ := Aside0.mk (Kd.R_after (v := (.slice (some ⟨go31, 0, none⟩) x8_2.length co23)) (v1 := (.slice (some ⟨go31, 0, none⟩) x8_2.length co23)) (ok := (fun _ => True)) (by (with_reducible repeat (first | apply Kd.R_alloc | apply Kd.R_drewN | apply Kd.R_drew)); exact Kd.R_mono HO_5.out (fun _ hk => ⟨trivial, hk⟩)) hg (.inl rfl)); have n1_ := Aside0.mk (hp_); have n2_ := Aside0.mk (Kd.V_afterv (v := (.slice (some ⟨go31, 0, none⟩) x8_2.length co23)) (v1 := (.slice (some ⟨go31, 0, none⟩) x8_2.length co23)) (ok := (fun k_ => some k_ ≠ (.slice (some ad150) x5_1.length co32 : Value).ownBlock)) (by (with_reducible repeat (first | apply Kd.V_alloc | apply Kd.V_drewN | apply Kd.V_drew)); exact HO_17.out) hg (.inl rfl)); have n3_ := Aside0.mk ((by rw [hw]; exact below_set (HB.out) GB31.out : Below w.heap.size w w34)); clear HO_5; clear HO_8; clear HO_17; clear HB; have HO_5 := n0_; have HO_8 := n1_; have HO_17 := n2_; have HB := n3_; clear n0_ n1_ n2_ n3_; clear hg hw hp_))
                                      (try simp only [← hl8_2])
                                      go_roundg k2
                                      case measure => have := HK1.out; have := HK2.out; omega
                                      case rel => exact ⟨(y151), (wrap64 (x29_2 + 1)), (by first | rfl | (simp; done) | (simp [*]; done)), H', ⟨by have := HK1.out; have := HK2.out; omega⟩, ⟨by (try simp only [hl8_2]); (with_reducible repeat (first | apply Kd.R_alloc | apply Kd.R_drewN | apply Kd.R_drew)); exact Kd.R_mono HO_5.out (fun _ hk => hk.2)⟩, ⟨by (try simp only [hl8_2]); (with_reducible repeat (first | apply Kd.R_alloc | apply Kd.R_drewN | apply Kd.R_drew)); exact HO_8.out⟩, ⟨by (try simp only [hl8_2]); (with_reducible repeat (first | apply Kd.V_alloc | apply Kd.V_drewN | apply Kd.V_drew)); exact HO_17.out⟩, ⟨by repeat (first | (with_reducible first | exact HB.out | apply below_alloc | apply pw_below_drewN | apply below_drew1) | exact HB.out)⟩⟩
                                    · rw [if_neg c30] at H
                                      exact absurd H (by simp)
                                  · replace c29 := Bool.eq_false_iff.mpr c29
                                    subst c29
                                    have H1 : (if x29_2 > 0 then (if 0 ≤ (wrap64 (x29_2 - 1)) then (if (wrap64 (x29_2 - 1)) < (x8_2.length : Int) then (if x29_2 < (x8_2.length : Int) then (tree_inName.l1 k2 a1 x5_1 (rd t142 x19_1) (x8_2.set (x29_2 : Int).toNat (rdOf false x8_2 (wrap64 (x29_2 - 1)))) t142 (t142.length : Int) x19_1 (y147.length : Int) (wrap64 (x29_2 + 1))) else (none)) else (none)) else (none)) else (if x29_2 < (x8_2.length : Int) then (tree_inName.l1 k2 a1 x5_1 (rd t142 x19_1) (x8_2.set (x29_2 : Int).toNat false) t142 (t142.length : Int) x19_1 (y147.length : Int) (wrap64 (x29_2 + 1))) else (none))) = some r := by rw [if_neg (show ¬ (false = true) by decide)] at H; exact H
                                    clear H
                                    have H := H1
                                    clear H1
                                    by_cases c35 : x29_2 > 0
                                    · rw [if_pos c35] at H
                                      have c35b0 : decide (0 < x29_2) = true := decide_eq_true c35
                                      clear c35
                                      obtain ⟨ji36, hji36⟩ : ∃ j_ : Int, (wrap64 (x29_2 - 1)) = j_ := ⟨_, rfl⟩
                                      replace H : (if 0 ≤ (ji36) then (if (ji36) < (x8_2.length : Int) then (if x29_2 < (x8_2.length : Int) then (tree_inName.l1 k2 a1 x5_1 (rd t142 x19_1) (x8_2.set (x29_2 : Int).toNat (rdOf false x8_2 (ji36))) t142 (t142.length : Int) x19_1 (y147.length : Int) (wrap64 (x29_2 + 1))) else (none)) else (none)) else (none)) = some r := by first | (rw [hji36] at H; exact H) | (simp only [hji36] at H ⊢; exact H)
                                      have hji36w : (IntKind.i64.wrap (x29_2 - 1)) = ji36 := (i64_w _).trans hji36
                                      by_cases c37 : 0 ≤ (ji36)
                                      · rw [if_pos c37] at H
                                        have c37b0 : decide (0 ≤ (ji36)) = true := decide_eq_true c37
                                        clear c37
                                        by_cases c38 : (ji36) < (x8_2.length : Int)
                                        · rw [if_pos c38] at H
                                          have c38b0 : decide ((ji36) < (x8_2.length : Int)) = true := decide_eq_true c38
                                          (try simp only [hl8_2] at c38b0)
                                          clear c38
                                          by_cases c39 : x29_2 < (x8_2.length : Int)
                                          · rw [if_pos c39] at H
                                            have c39b0 : decide (x29_2 < (x8_2.length : Int)) = true := decide_eq_true c39
                                            (try simp only [hl8_2] at c39b0)
                                            clear c39
                                            obtain ⟨y153, hy153⟩ : ∃ y_ : List Bool, y_ = (x8_2.set (x29_2 : Int).toNat (rdOf false x8_2 (ji36))) := ⟨_, rfl⟩
                                            replace H : (tree_inName.l1 k2 a1 x5_1 (rd t142 x19_1) y153 t142 (t142.length : Int) x19_1 (y147.length : Int) (wrap64 (x29_2 + 1))) = some r := by first | (rw [hy153]; with_reducible exact H) | (have H2_ := (Option.bind_some _ _).symm.trans H; rw [hy153]; with_reducible exact H2_) | (have H2_ := (Option.bind_some _ _).symm.trans H; with_reducible exact H2_) | with_reducible exact H | (rw [hy153]; exact H) | exact H
                                            have Ny153 := Aside0.mk hy153
                                            clear hy153
                                            have H' := Aside0.mk H
                                            clear H
                                            obtain ⟨Ao41, co41, eo41⟩ := Kd.R_slice HO_5.out
                                            subst eo41
                                            have p150 : 0 ≤ (x29_2 : Int) := of_decide_eq_true (by first | (with_reducible assumption) | assumption)
                                            have q150 : x29_2 < (x5_1.length : Int) := of_decide_eq_true (by first | (with_reducible assumption) | assumption)
                                            obtain ⟨ad150, e150, hx150_0⟩ := Kd.at_bool (Kd.R_reads' HO_5.out).2.2 x29_2 p150 q150
                                            (try rw [← Nbq28.out] at hx150_0)
                                            cases e150
                                            replace p150 := eq_true p150
                                            replace q150 := eq_true q150
                                            have p152 : 0 ≤ ((ji36) : Int) := of_decide_eq_true (by first | (with_reducible assumption) | assumption)
                                            have q152 : (ji36) < (x8_2.length : Int) := of_decide_eq_true (by first | (with_reducible assumption) | assumption)
                                            obtain ⟨ad152, e152, hx152_0⟩ := Kd.at_bool (Kd.R_reads' HO_8.out).2.2 (ji36) p152 q152
                                            (try rw [← Nbq28.out] at hx152_0)
                                            cases e152
                                            replace p152 := eq_true p152
                                            replace q152 := eq_true q152
                                            have p40 : 0 ≤ (x29_2 : Int) := of_decide_eq_true (by first | (with_reducible assumption) | assumption)
                                            have q40 : (x29_2 : Int) < ((x8_2.length : Int) : Int) := of_decide_eq_true (by first | (with_reducible assumption) | assumption)
                                            obtain ⟨go40, co40, eo40, gb40, gl40, cl40, HG40⟩ := Kd.R_form HO_8.out (by omega)
                                            (first | cases eo40 | (injection eo40 with ea_ en_ ec_; (first | subst ea_ | (injection ea_ with ea_; subst ea_)); subst ec_; clear en_))
                                            have GB40 := Aside0.mk gb40
                                            have GG40 := Aside0.mk HG40
                                            clear gb40 gl40 HG40
                                            (first | simp only [add_plain] at hx152_0 | skip)
                                            obtain ⟨hx40_0, hf40_0⟩ := Kd.R_celln false HO_8.out (x29_2 : Int) p40 q40
                                            replace p40 := eq_true p40
                                            replace q40 := eq_true q40
                                            have HP42 := Kd.R_putg HO_8.out (x29_2 : Int) (rdOf false x8_2 (ji36))
                                            go_wp2_with (first | ((with_reducible refine gate_store (t := 4) (p := 52) rfl ?_); refine store_event (t := 4) (p := 52) (v := ?vo_w43) (w1 := (wr.setCell ⟨go40, (x29_2 : Int).toNat, none⟩ (.bool (rdOf false x8_2 (ji36))))) ?hg ?ho ?hn ?hr ?_; (case ho => rfl); (case hg => rfl); (case hn => rfl); (case hr => first | (go_simp; done) | (go_simp; rfl)); intro w43 hw; have hg : wr.grownBy w43 (some go40) := (by rw [hw]; exact HP42.2); have hp_ : Kd.R Kd.bool 4 w43 w.heap.size (fun k_ => some k_ ≠ (.slice (some ad150) x5_1.length co41 : Value).ownBlock) (.slice (some ⟨go40, 0, none⟩) x8_2.length co23) y153 := (by rw [hw, Ny153.out]; exact HP42.1); clear HP42; have n0_ := Aside0.mk (Kd.R_after (v := (.slice (some ⟨go40, 0, none⟩) x8_2.length co23)) (v1 := (.slice (some ⟨go40, 0, none⟩) x8_2.length co23)) (ok := (fun _ => True)) (by (with_reducible repeat (first | apply Kd.R_alloc | apply Kd.R_drewN | apply Kd.R_drew)); exact Kd.R_mono HO_5.out (fun _ hk => ⟨trivial, hk⟩)) hg (.inl rfl)); have n1_ := Aside0.mk (hp_); have n2_ := Aside0.mk (Kd.V_afterv (v := (.slice (some ⟨go40, 0, none⟩) x8_2.length co23)) (v1 := (.slice (some ⟨go40, 0, none⟩) x8_2.length co23)) (ok := (fun k_ => some k_ ≠ (.slice (some ad150) x5_1.length co41 : Value).ownBlock)) (by (with_reducible repeat (first | apply Kd.V_alloc | apply Kd.V_drewN | apply Kd.V_drew)); exact HO_17.out) hg (.inl rfl)); have n3_ := Aside0.mk ((by rw [hw]; exact below_set (HB.out) GB40.out : Below w.heap.size w w43)); clear HO_5; clear HO_8; clear HO_17; clear HB; have HO_5 := n0_; have HO_8 := n1_; have HO_17 := n2_; have HB := n3_; clear n0_ n1_ n2_ n3_; clear hg hw hp_))
                                            (try simp only [← hl8_2])
                                            go_roundg k2
                                            case measure => have := HK1.out; have := HK2.out; omega
                                            case rel => exact ⟨(y153), (wrap64 (x29_2 + 1)), (by first | rfl | (simp; done) | (simp [*]; done)), H', ⟨by have := HK1.out; have := HK2.out; omega⟩, ⟨by (try simp only [hl8_2]); (with_reducible repeat (first | apply Kd.R_alloc | apply Kd.R_drewN | apply Kd.R_drew)); exact Kd.R_mono HO_5.out (fun _ hk => hk.2)⟩, ⟨by (try simp only [hl8_2]); (with_reducible repeat (first | apply Kd.R_alloc | apply Kd.R_drewN | apply Kd.R_drew)); exact HO_8.out⟩, ⟨by (try simp only [hl8_2]); (with_reducible repeat (first | apply Kd.V_alloc | apply Kd.V_drewN | apply Kd.V_drew)); exact HO_17.out⟩, ⟨by repeat (first | (with_reducible first | exact HB.out | apply below_alloc | apply pw_below_drewN | apply below_drew1) | exact HB.out)⟩⟩
                                          · rw [if_neg c39] at H
                                            exact absurd H (by simp)
                                        · rw [if_neg c38] at H
                                          exact absurd H (by simp)
                                      · rw [if_neg c37] at H
                                        exact absurd H (by simp)
                                    · rw [if_neg c35] at H
                                      have c35b0 : decide (0 < x29_2) = false := decide_eq_false c35
                                      clear c35
                                      by_cases c44 : x29_2 < (x8_2.length : Int)
                                      · rw [if_pos c44] at H
                                        have c44b0 : decide (x29_2 < (x8_2.length : Int)) = true := decide_eq_true c44
                                        (try simp only [hl8_2] at c44b0)
                                        clear c44
                                        obtain ⟨y154, hy154⟩ : ∃ y_ : List Bool, y_ = (x8_2.set (x29_2 : Int).toNat false) := ⟨_, rfl⟩
                                        replace H : (tree_inName.l1 k2 a1 x5_1 (rd t142 x19_1) y154 t142 (t142.length : Int) x19_1 (y147.length : Int) (wrap64 (x29_2 + 1))) = some r := by first | (rw [hy154]; with_reducible exact H) | (have H2_ := (Option.bind_some _ _).symm.trans H; rw [hy154]; with_reducible exact H2_) | (have H2_ := (Option.bind_some _ _).symm.trans H; with_reducible exact H2_) | with_reducible exact H | (rw [hy154]; exact H) | exact H
                                        have Ny154 := Aside0.mk hy154
                                        clear hy154
                                        have H' := Aside0.mk H
                                        clear H
                                        obtain ⟨Ao46, co46, eo46⟩ := Kd.R_slice HO_5.out
                                        subst eo46
                                        have p150 : 0 ≤ (x29_2 : Int) := of_decide_eq_true (by first | (with_reducible assumption) | assumption)
                                        have q150 : x29_2 < (x5_1.length : Int) := of_decide_eq_true (by first | (with_reducible assumption) | assumption)
                                        obtain ⟨ad150, e150, hx150_0⟩ := Kd.at_bool (Kd.R_reads' HO_5.out).2.2 x29_2 p150 q150
                                        (try rw [← Nbq28.out] at hx150_0)
                                        cases e150
                                        replace p150 := eq_true p150
                                        replace q150 := eq_true q150
                                        have p45 : 0 ≤ (x29_2 : Int) := of_decide_eq_true (by first | (with_reducible assumption) | assumption)
                                        have q45 : (x29_2 : Int) < ((x8_2.length : Int) : Int) := of_decide_eq_true (by first | (with_reducible assumption) | assumption)
                                        obtain ⟨go45, co45, eo45, gb45, gl45, cl45, HG45⟩ := Kd.R_form HO_8.out (by omega)
                                        (first | cases eo45 | (injection eo45 with ea_ en_ ec_; (first | subst ea_ | (injection ea_ with ea_; subst ea_)); subst ec_; clear en_))
                                        have GB45 := Aside0.mk gb45
                                        have GG45 := Aside0.mk HG45
                                        clear gb45 gl45 HG45
                                        obtain ⟨hx45_0, hf45_0⟩ := Kd.R_celln false HO_8.out (x29_2 : Int) p45 q45
                                        replace p45 := eq_true p45
                                        replace q45 := eq_true q45
                                        have HP47 := Kd.R_putg HO_8.out (x29_2 : Int) false
                                        go_wp2_with (first | ((with_reducible refine gate_store (t := 4) (p := 52) rfl ?_); refine store_event (t := 4) (p := 52) (v := ?vo_w48) (w1 := (wr.setCell ⟨go45, (x29_2 : Int).toNat, none⟩ (.bool false))) ?hg ?ho ?hn ?hr ?_; (case ho => rfl); (case hg => rfl); (case hn => rfl); (case hr => first | (go_simp; done) | (go_simp; rfl)); intro w48 hw; have hg : wr.grownBy w48 (some go45) := (by rw [hw]; exact HP47.2); have hp_ : Kd.R Kd.bool 4 w48 w.heap.size (fun k_ => some k_ ≠ (.slice (some ad150) x5_1.length co46 : Value).ownBlock) (.slice (some ⟨go45, 0, none⟩) x8_2.length co23) y154 := (by rw [hw, Ny154.out]; exact HP47.1); clear HP47; have n0_ := Aside0.mk (Kd.R_after (v := (.slice (some ⟨go45, 0, none⟩) x8_2.length co23)) (v1 := (.slice (some ⟨go45, 0, none⟩) x8_2.length co23)) (ok := (fun _ => True)) (by (with_reducible repeat (first | apply Kd.R_alloc | apply Kd.R_drewN | apply Kd.R_drew)); exact Kd.R_mono HO_5.out (fun _ hk => ⟨trivial, hk⟩)) hg (.inl rfl)); have n1_ := Aside0.mk (hp_); have n2_ := Aside0.mk (Kd.V_afterv (v := (.slice (some ⟨go45, 0, none⟩) x8_2.length co23)) (v1 := (.slice (some ⟨go45, 0, none⟩) x8_2.length co23)) (ok := (fun k_ => some k_ ≠ (.slice (some ad150) x5_1.length co46 : Value).ownBlock)) (by (with_reducible repeat (first | apply Kd.V_alloc | apply Kd.V_drewN | apply Kd.V_drew)); exact HO_17.out) hg (.inl rfl)); have n3_ := Aside0.mk ((by rw [hw]; exact below_set (HB.out) GB45.out : Below w.heap.size w w48)); clear HO_5; clear HO_8; clear HO_17; clear HB; have HO_5 := n0_; have HO_8 := n1_; have HO_17 := n2_; have HB := n3_; clear n0_ n1_ n2_ n3_; clear hg hw hp_))
                                        (try simp only [← hl8_2])
                                        go_roundg k2
                                        case measure => have := HK1.out; have := HK2.out; omega
                                        case rel => exact ⟨(y154), (wrap64 (x29_2 + 1)), (by first | rfl | (simp; done) | (simp [*]; done)), H', ⟨by have := HK1.out; have := HK2.out; omega⟩, ⟨by (try simp only [hl8_2]); (with_reducible repeat (first | apply Kd.R_alloc | apply Kd.R_drewN | apply Kd.R_drew)); exact Kd.R_mono HO_5.out (fun _ hk => hk.2)⟩, ⟨by (try simp only [hl8_2]); (with_reducible repeat (first | apply Kd.R_alloc | apply Kd.R_drewN | apply Kd.R_drew)); exact HO_8.out⟩, ⟨by (try simp only [hl8_2]); (with_reducible repeat (first | apply Kd.V_alloc | apply Kd.V_drewN | apply Kd.V_drew)); exact HO_17.out⟩, ⟨by repeat (first | (with_reducible first | exact HB.out | apply below_alloc | apply pw_below_drewN | apply below_drew1) | exact HB.out)⟩⟩
                                      · rw [if_neg c44] at H
                                        exact absurd H (by simp)
                                · rw [if_neg c27] at H
                                  exact absurd H (by simp)
                              · rw [if_neg c26] at H
                                exact absurd H (by simp)
                            · rw [if_neg c25] at H
                              have c25b0 : ((rd t142 x19_1) == 42) = false := beq_eq_false_iff_ne.mpr c25
                              have c25b1 : ((rd t142 x19_1) != 42) = true := bne_iff_ne.mpr c25
                              by_cases c49 : x29_2 > 0
                              · rw [if_pos c49] at H
                                have c49b0 : decide (0 < x29_2) = true := decide_eq_true c49
                                clear c49
                                obtain ⟨ji50, hji50⟩ : ∃ j_ : Int, (wrap64 (x29_2 - 1)) = j_ := ⟨_, rfl⟩
                                replace H : (if 0 ≤ (ji50) then (if (ji50) < (x5_1.length : Int) then (if rdOf false x5_1 (ji50) = true then (if (rd t142 x19_1) = 63 then (if 0 ≤ x29_2 then (if x29_2 < (x8_2.length : Int) then (tree_inName.l1 k2 a1 x5_1 (rd t142 x19_1) (x8_2.set (x29_2 : Int).toNat true) t142 (t142.length : Int) x19_1 (y147.length : Int) (wrap64 (x29_2 + 1))) else (none)) else (none)) else (if (ji50) < (a1.size : Int) then (if 0 ≤ x29_2 then (if x29_2 < (x8_2.length : Int) then (tree_inName.l1 k2 a1 x5_1 (rd t142 x19_1) (x8_2.set (x29_2 : Int).toNat ((rd t142 x19_1) == (bt a1 (ji50)))) t142 (t142.length : Int) x19_1 (y147.length : Int) (wrap64 (x29_2 + 1))) else (none)) else (none)) else (none))) else (if 0 ≤ x29_2 then (if x29_2 < (x8_2.length : Int) then (tree_inName.l1 k2 a1 x5_1 (rd t142 x19_1) (x8_2.set (x29_2 : Int).toNat false) t142 (t142.length : Int) x19_1 (y147.length : Int) (wrap64 (x29_2 + 1))) else (none)) else (none))) else (none)) else (none)) = some r := by first | (rw [hji50] at H; exact H) | (simp only [hji50] at H ⊢; exact H)
                                have hji50w : (IntKind.i64.wrap (x29_2 - 1)) = ji50 := (i64_w _).trans hji50
                                by_cases c51 : 0 ≤ (ji50)
                                · rw [if_pos c51] at H
                                  have c51b0 : decide (0 ≤ (ji50)) = true := decide_eq_true c51
                                  clear c51
                                  by_cases c52 : (ji50) < (x5_1.length : Int)
                                  · rw [if_pos c52] at H
                                    have c52b0 : decide ((ji50) < (x5_1.length : Int)) = true := decide_eq_true c52
                                    (try simp only [hl8_2] at c52b0)
                                    clear c52
                                    obtain ⟨bq53, hbq53⟩ : ∃ b_ : Bool, b_ = (rdOf false x5_1 (ji50)) := ⟨_, rfl⟩
                                    replace H : (if bq53 = true then (if (rd t142 x19_1) = 63 then (if 0 ≤ x29_2 then (if x29_2 < (x8_2.length : Int) then (tree_inName.l1 k2 a1 x5_1 (rd t142 x19_1) (x8_2.set (x29_2 : Int).toNat true) t142 (t142.length : Int) x19_1 (y147.length : Int) (wrap64 (x29_2 + 1))) else (none)) else (none)) else (if (ji50) < (a1.size : Int) then (if 0 ≤ x29_2 then (if x29_2 < (x8_2.length : Int) then (tree_inName.l1 k2 a1 x5_1 (rd t142 x19_1) (x8_2.set (x29_2 : Int).toNat ((rd t142 x19_1) == (bt a1 (ji50)))) t142 (t142.length : Int) x19_1 (y147.length : Int) (wrap64 (x29_2 + 1))) else (none)) else (none)) else (none))) else (if 0 ≤ x29_2 then (if x29_2 < (x8_2.length : Int) then (tree_inName.l1 k2 a1 x5_1 (rd t142 x19_1) (x8_2.set (x29_2 : Int).toNat false) t142 (t142.length : Int) x19_1 (y147.length : Int) (wrap64 (x29_2 + 1))) else (none)) else (none))) = some r := by rw [← hbq53] at H; exact H
                                    have Nbq53 := Aside0.mk hbq53
                                    clear hbq53
                                    by_cases c54 : bq53 = true
                                    · subst c54
                                      have H1 : (if (rd t142 x19_1) = 63 then (if 0 ≤ x29_2 then (if x29_2 < (x8_2.length : Int) then (tree_inName.l1 k2 a1 x5_1 (rd t142 x19_1) (x8_2.set (x29_2 : Int).toNat true) t142 (t142.length : Int) x19_1 (y147.length : Int) (wrap64 (x29_2 + 1))) else (none)) else (none)) else (if (ji50) < (a1.size : Int) then (if 0 ≤ x29_2 then (if x29_2 < (x8_2.length : Int) then (tree_inName.l1 k2 a1 x5_1 (rd t142 x19_1) (x8_2.set (x29_2 : Int).toNat ((rd t142 x19_1) == (bt a1 (ji50)))) t142 (t142.length : Int) x19_1 (y147.length : Int) (wrap64 (x29_2 + 1))) else (none)) else (none)) else (none))) = some r := by rw [if_pos rfl] at H; exact H
                                      clear H
                                      have H := H1
                                      clear H1
                                      by_cases c55 : (rd t142 x19_1) = 63
                                      · rw [if_pos c55] at H
                                        have c55b0 : ((rd t142 x19_1) == 63) = true := beq_iff_eq.mpr c55
                                        have c55b1 : ((rd t142 x19_1) != 63) = false := bne_eq_false_iff_eq.mpr c55
                                        clear c55
                                        by_cases c56 : 0 ≤ x29_2
                                        · rw [if_pos c56] at H
                                          have c56b0 : decide (0 ≤ x29_2) = true := decide_eq_true c56
                                          clear c56
                                          by_cases c57 : x29_2 < (x8_2.length : Int)
                                          · rw [if_pos c57] at H
                                            have c57b0 : decide (x29_2 < (x8_2.length : Int)) = true := decide_eq_true c57
                                            (try simp only [hl8_2] at c57b0)
                                            clear c57
                                            obtain ⟨y156, hy156⟩ : ∃ y_ : List Bool, y_ = (x8_2.set (x29_2 : Int).toNat true) := ⟨_, rfl⟩
                                            replace H : (tree_inName.l1 k2 a1 x5_1 (rd t142 x19_1) y156 t142 (t142.length : Int) x19_1 (y147.length : Int) (wrap64 (x29_2 + 1))) = some r := by first | (rw [hy156]; with_reducible exact H) | (have H2_ := (Option.bind_some _ _).symm.trans H; rw [hy156]; with_reducible exact H2_) | (have H2_ := (Option.bind_some _ _).symm.trans H; with_reducible exact H2_) | with_reducible exact H | (rw [hy156]; exact H) | exact H
                                            have Ny156 := Aside0.mk hy156
                                            clear hy156
                                            have H' := Aside0.mk H
                                            clear H
                                            obtain ⟨Ao59, co59, eo59⟩ := Kd.R_slice HO_5.out
                                            subst eo59
                                            have p155 : 0 ≤ ((ji50) : Int) := of_decide_eq_true (by first | (with_reducible assumption) | assumption)
                                            have q155 : (ji50) < (x5_1.length : Int) := of_decide_eq_true (by first | (with_reducible assumption) | assumption)
                                            obtain ⟨ad155, e155, hx155_0⟩ := Kd.at_bool (Kd.R_reads' HO_5.out).2.2 (ji50) p155 q155
                                            (try rw [← Nbq53.out] at hx155_0)
                                            cases e155
                                            replace p155 := eq_true p155
                                            replace q155 := eq_true q155
                                            have p58 : 0 ≤ (x29_2 : Int) := of_decide_eq_true (by first | (with_reducible assumption) | assumption)
                                            have q58 : (x29_2 : Int) < ((x8_2.length : Int) : Int) := of_decide_eq_true (by first | (with_reducible assumption) | assumption)
                                            obtain ⟨go58, co58, eo58, gb58, gl58, cl58, HG58⟩ := Kd.R_form HO_8.out (by omega)
                                            (first | cases eo58 | (injection eo58 with ea_ en_ ec_; (first | subst ea_ | (injection ea_ with ea_; subst ea_)); subst ec_; clear en_))
                                            have GB58 := Aside0.mk gb58
                                            have GG58 := Aside0.mk HG58
                                            clear gb58 gl58 HG58
                                            obtain ⟨hx58_0, hf58_0⟩ := Kd.R_celln false HO_8.out (x29_2 : Int) p58 q58
                                            replace p58 := eq_true p58
                                            replace q58 := eq_true q58
                                            have HP60 := Kd.R_putg HO_8.out (x29_2 : Int) true
                                            go_wp2_with (first | ((with_reducible refine gate_store (t := 4) (p := 75) rfl ?_); refine store_event (t := 4) (p := 75) (v := ?vo_w61) (w1 := (wr.setCell ⟨go58, (x29_2 : Int).toNat, none⟩ (.bool true))) ?hg ?ho ?hn ?hr ?_; (case ho => rfl); (case hg => rfl); (case hn => rfl); (case hr => first | (go_simp; done) | (go_simp; rfl)); intro w61 hw; have hg : wr.grownBy w61 (some go58) := (by rw [hw]; exact HP60.2); have hp_ : Kd.R Kd.bool 4 w61 w.heap.size (fun k_ => some k_ ≠ (.slice (some ad155) x5_1.length co59 : Value).ownBlock) (.slice (some ⟨go58, 0, none⟩) x8_2.length co23) y156 := (by rw [hw, Ny156.out]; exact HP60.1); clear HP60; have n0_ := Aside0.mk (Kd.R_after (v := (.slice (some ⟨go58, 0, none⟩) x8_2.length co23)) (v1 := (.slice (some ⟨go58, 0, none⟩) x8_2.length co23)) (ok := (fun _ => True)) (by (with_reducible repeat (first | apply Kd.R_alloc | apply Kd.R_drewN | apply Kd.R_drew)); exact Kd.R_mono HO_5.out (fun _ hk => ⟨trivial, hk⟩)) hg (.inl rfl)); have n1_ := Aside0.mk (hp_); have n2_ := Aside0.mk (Kd.V_afterv (v := (.slice (some ⟨go58, 0, none⟩) x8_2.length co23)) (v1 := (.slice (some ⟨go58, 0, none⟩) x8_2.length co23)) (ok := (fun k_ => some k_ ≠ (.slice (some ad155) x5_1.length co59 : Value).ownBlock)) (by (with_reducible repeat (first | apply Kd.V_alloc | apply Kd.V_drewN | apply Kd.V_drew)); exact HO_17.out) hg (.inl rfl)); have n3_ := Aside0.mk ((by rw [hw]; exact below_set (HB.out) GB58.out : Below w.heap.size w w61)); clear HO_5; clear HO_8; clear HO_17; clear HB; have HO_5 := n0_; have HO_8 := n1_; have HO_17 := n2_; have HB := n3_; clear n0_ n1_ n2_ n3_; clear hg hw hp_))
                                            (try simp only [← hl8_2])
                                            go_roundg k2
                                            case measure => have := HK1.out; have := HK2.out; omega
                                            case rel => exact ⟨(y156), (wrap64 (x29_2 + 1)), (by first | rfl | (simp; done) | (simp [*]; done)), H', ⟨by have := HK1.out; have := HK2.out; omega⟩, ⟨by (try simp only [hl8_2]); (with_reducible repeat (first | apply Kd.R_alloc | apply Kd.R_drewN | apply Kd.R_drew)); exact Kd.R_mono HO_5.out (fun _ hk => hk.2)⟩, ⟨by (try simp only [hl8_2]); (with_reducible repeat (first | apply Kd.R_alloc | apply Kd.R_drewN | apply Kd.R_drew)); exact HO_8.out⟩, ⟨by (try simp only [hl8_2]); (with_reducible repeat (first | apply Kd.V_alloc | apply Kd.V_drewN | apply Kd.V_drew)); exact HO_17.out⟩, ⟨by repeat (first | (with_reducible first | exact HB.out | apply below_alloc | apply pw_below_drewN | apply below_drew1) | exact HB.out)⟩⟩
                                          · rw [if_neg c57] at H
                                            exact absurd H (by simp)
                                        · rw [if_neg c56] at H
                                          exact absurd H (by simp)
                                      · rw [if_neg c55] at H
                                        have c55b0 : ((rd t142 x19_1) == 63) = false := beq_eq_false_iff_ne.mpr c55
                                        have c55b1 : ((rd t142 x19_1) != 63) = true := bne_iff_ne.mpr c55
                                        by_cases c62 : (ji50) < (a1.size : Int)
                                        · rw [if_pos c62] at H
                                          have c62b0 : decide ((ji50) < (a1.size : Int)) = true := decide_eq_true c62
                                          clear c62
                                          by_cases c64 : 0 ≤ x29_2
                                          · rw [if_pos c64] at H
                                            have c64b0 : decide (0 ≤ x29_2) = true := decide_eq_true c64
                                            clear c64
                                            by_cases c65 : x29_2 < (x8_2.length : Int)
                                            · rw [if_pos c65] at H
                                              have c65b0 : decide (x29_2 < (x8_2.length : Int)) = true := decide_eq_true c65
                                              (try simp only [hl8_2] at c65b0)
                                              clear c65
                                              obtain ⟨y157, hy157⟩ : ∃ y_ : List Bool, y_ = (x8_2.set (x29_2 : Int).toNat ((rd t142 x19_1) == (bt a1 (ji50)))) := ⟨_, rfl⟩
                                              replace H : (tree_inName.l1 k2 a1 x5_1 (rd t142 x19_1) y157 t142 (t142.length : Int) x19_1 (y147.length : Int) (wrap64 (x29_2 + 1))) = some r := by first | (rw [hy157]; with_reducible exact H) | (have H2_ := (Option.bind_some _ _).symm.trans H; rw [hy157]; with_reducible exact H2_) | (have H2_ := (Option.bind_some _ _).symm.trans H; with_reducible exact H2_) | with_reducible exact H | (rw [hy157]; exact H) | exact H
                                              have Ny157 := Aside0.mk hy157
                                              clear hy157
                                              have H' := Aside0.mk H
                                              clear H
                                              obtain ⟨Ao67, co67, eo67⟩ := Kd.R_slice HO_5.out
                                              subst eo67
                                              have p155 : 0 ≤ ((ji50) : Int) := of_decide_eq_true (by first | (with_reducible assumption) | assumption)
                                              have q155 : (ji50) < (x5_1.length : Int) := of_decide_eq_true (by first | (with_reducible assumption) | assumption)
                                              obtain ⟨ad155, e155, hx155_0⟩ := Kd.at_bool (Kd.R_reads' HO_5.out).2.2 (ji50) p155 q155
                                              (try rw [← Nbq53.out] at hx155_0)
                                              cases e155
                                              replace p155 := eq_true p155
                                              replace q155 := eq_true q155
                                              have p63 : 0 ≤ ((ji50) : Int) := of_decide_eq_true (by first | (with_reducible assumption) | assumption)
                                              have q63 : (ji50) < (a1.size : Int) := of_decide_eq_true (by first | (with_reducible assumption) | assumption)
                                              have hx63 := bt_at a1 (ji50)
                                              replace p63 := eq_true p63
                                              replace q63 := eq_true q63
                                              have p66 : 0 ≤ (x29_2 : Int) := of_decide_eq_true (by first | (with_reducible assumption) | assumption)
                                              have q66 : (x29_2 : Int) < ((x8_2.length : Int) : Int) := of_decide_eq_true (by first | (with_reducible assumption) | assumption)
                                              obtain ⟨go66, co66, eo66, gb66, gl66, cl66, HG66⟩ := Kd.R_form HO_8.out (by omega)
                                              (first | cases eo66 | (injection eo66 with ea_ en_ ec_; (first | subst ea_ | (injection ea_ with ea_; subst ea_)); subst ec_; clear en_))
                                              have GB66 := Aside0.mk gb66
                                              have GG66 := Aside0.mk HG66
                                              clear gb66 gl66 HG66
                                              obtain ⟨hx66_0, hf66_0⟩ := Kd.R_celln false HO_8.out (x29_2 : Int) p66 q66
                                              replace p66 := eq_true p66
                                              replace q66 := eq_true q66
                                              have HP68 := Kd.R_putg HO_8.out (x29_2 : Int) ((rd t142 x19_1) == (bt a1 (ji50)))
                                              go_wp2_with (first | ((with_reducible refine gate_store (t := 4) (p := 75) rfl ?_); refine store_event (t := 4) (p := 75) (v := ?vo_w69) (w1 := (wr.setCell ⟨go66, (x29_2 : Int).toNat, none⟩ (.bool ((rd t142 x19_1) == (bt a1 (ji50)))))) ?hg ?ho ?hn ?hr ?_; (case ho => rfl); (case hg => rfl); (case hn => rfl); (case hr => first | (go_simp; done) | (go_simp; rfl)); intro w69 hw; have hg : wr.grownBy w69 (some go66) := (by rw [hw]; exact HP68.2); have hp_ : Kd.R Kd.bool 4 w69 w.heap.size (fun k_ => some k_ ≠ (.slice (some ad155) x5_1.length co67 : Value).ownBlock) (.slice (some ⟨go66, 0, none⟩) x8_2.length co23) y157 := (by rw [hw, Ny157.out]; exact HP68.1); clear HP68; have n0_ := Aside0.mk (Kd.R_after (v := (.slice (some ⟨go66, 0, none⟩) x8_2.length co23)) (v1 := (.slice (some ⟨go66, 0, none⟩) x8_2.length co23)) (ok := (fun _ => True)) (by (with_reducible repeat (first | apply Kd.R_alloc | apply Kd.R_drewN | apply Kd.R_drew)); exact Kd.R_mono HO_5.out (fun _ hk => ⟨trivial, hk⟩)) hg (.inl rfl)); have n1_ := Aside0.mk (hp_); have n2_ := Aside0.mk (Kd.V_afterv (v := (.slice (some ⟨go66, 0, none⟩) x8_2.length co23)) (v1 := (.slice (some ⟨go66, 0, none⟩) x8_2.length co23)) (ok := (fun k_ => some k_ ≠ (.slice (some ad155) x5_1.length co67 : Value).ownBlock)) (by (with_reducible repeat (first | apply Kd.V_alloc | apply Kd.V_drewN | apply Kd.V_drew)); exact HO_17.out) hg (.inl rfl)); have n3_ := Aside0.mk ((by rw [hw]; exact below_set (HB.out) GB66.out : Below w.heap.size w w69)); clear HO_5; clear HO_8; clear HO_17; clear HB; have HO_5 := n0_; have HO_8 := n1_; have HO_17 := n2_; have HB := n3_; clear n0_ n1_ n2_ n3_; clear hg hw hp_))
                                              (try simp only [← hl8_2])
                                              go_roundg k2
                                              case measure => have := HK1.out; have := HK2.out; omega
                                              case rel => exact ⟨(y157), (wrap64 (x29_2 + 1)), (by first | rfl | (simp; done) | (simp [*]; done)), H', ⟨by have := HK1.out; have := HK2.out; omega⟩, ⟨by (try simp only [hl8_2]); (with_reducible repeat (first | apply Kd.R_alloc | apply Kd.R_drewN | apply Kd.R_drew)); exact Kd.R_mono HO_5.out (fun _ hk => hk.2)⟩, ⟨by (try simp only [hl8_2]); (with_reducible repeat (first | apply Kd.R_alloc | apply Kd.R_drewN | apply Kd.R_drew)); exact HO_8.out⟩, ⟨by (try simp only [hl8_2]); (with_reducible repeat (first | apply Kd.V_alloc | apply Kd.V_drewN | apply Kd.V_drew)); exact HO_17.out⟩, ⟨by repeat (first | (with_reducible first | exact HB.out | apply below_alloc | apply pw_below_drewN | apply below_drew1) | exact HB.out)⟩⟩
                                            · rw [if_neg c65] at H
                                              exact absurd H (by simp)
                                          · rw [if_neg c64] at H
                                            exact absurd H (by simp)
                                        · rw [if_neg c62] at H
                                          exact absurd H (by simp)
                                    · replace c54 := Bool.eq_false_iff.mpr c54
                                      subst c54
                                      have H1 : (if 0 ≤ x29_2 then (if x29_2 < (x8_2.length : Int) then (tree_inName.l1 k2 a1 x5_1 (rd t142 x19_1) (x8_2.set (x29_2 : Int).toNat false) t142 (t142.length : Int) x19_1 (y147.length : Int) (wrap64 (x29_2 + 1))) else (none)) else (none)) = some r := by rw [if_neg (show ¬ (false = true) by decide)] at H; exact H
                                      clear H
                                      have H := H1
                                      clear H1
                                      by_cases c70 : 0 ≤ x29_2
                                      · rw [if_pos c70] at H
                                        have c70b0 : decide (0 ≤ x29_2) = true := decide_eq_true c70
                                        clear c70
                                        by_cases c71 : x29_2 < (x8_2.length : Int)
                                        · rw [if_pos c71] at H
                                          have c71b0 : decide (x29_2 < (x8_2.length : Int)) = true := decide_eq_true c71
                                          (try simp only [hl8_2] at c71b0)
                                          clear c71
                                          obtain ⟨y158, hy158⟩ : ∃ y_ : List Bool, y_ = (x8_2.set (x29_2 : Int).toNat false) := ⟨_, rfl⟩
                                          replace H : (tree_inName.l1 k2 a1 x5_1 (rd t142 x19_1) y158 t142 (t142.length : Int) x19_1 (y147.length : Int) (wrap64 (x29_2 + 1))) = some r := by first | (rw [hy158]; with_reducible exact H) | (have H2_ := (Option.bind_some _ _).symm.trans H; rw [hy158]; with_reducible exact H2_) | (have H2_ := (Option.bind_some _ _).symm.trans H; with_reducible exact H2_) | with_reducible exact H | (rw [hy158]; exact H) | exact H
                                          have Ny158 := Aside0.mk hy158
                                          clear hy158
                                          have H' := Aside0.mk H
                                          clear H
                                          obtain ⟨Ao73, co73, eo73⟩ := Kd.R_slice HO_5.out
                                          subst eo73
                                          have p155 : 0 ≤ ((ji50) : Int) := of_decide_eq_true (by first | (with_reducible assumption) | assumption)
                                          have q155 : (ji50) < (x5_1.length : Int) := of_decide_eq_true (by first | (with_reducible assumption) | assumption)
                                          obtain ⟨ad155, e155, hx155_0⟩ := Kd.at_bool (Kd.R_reads' HO_5.out).2.2 (ji50) p155 q155
                                          (try rw [← Nbq53.out] at hx155_0)
                                          cases e155
                                          replace p155 := eq_true p155
                                          replace q155 := eq_true q155
                                          have p72 : 0 ≤ (x29_2 : Int) := of_decide_eq_true (by first | (with_reducible assumption) | assumption)
                                          have q72 : (x29_2 : Int) < ((x8_2.length : Int) : Int) := of_decide_eq_true (by first | (with_reducible assumption) | assumption)
                                          obtain ⟨go72, co72, eo72, gb72, gl72, cl72, HG72⟩ := Kd.R_form HO_8.out (by omega)
                                          (first | cases eo72 | (injection eo72 with ea_ en_ ec_; (first | subst ea_ | (injection ea_ with ea_; subst ea_)); subst ec_; clear en_))
                                          have GB72 := Aside0.mk gb72
                                          have GG72 := Aside0.mk HG72
                                          clear gb72 gl72 HG72
                                          obtain ⟨hx72_0, hf72_0⟩ := Kd.R_celln false HO_8.out (x29_2 : Int) p72 q72
                                          replace p72 := eq_true p72
                                          replace q72 := eq_true q72
                                          have HP74 := Kd.R_putg HO_8.out (x29_2 : Int) false
                                          go_wp2_with (first | ((with_reducible refine gate_store (t := 4) (p := 75) rfl ?_); refine store_event (t := 4) (p := 75) (v := ?vo_w75) (w1 := (wr.setCell ⟨go72, (x29_2 : Int).toNat, none⟩ (.bool false))) ?hg ?ho ?hn ?hr ?_; (case ho => rfl); (case hg => rfl); (case hn => rfl); (case hr => first | (go_simp; done) | (go_simp; rfl)); intro w75 hw; have hg : wr.grownBy w75 (some go72) := (by rw [hw]; exact HP74.2); have hp_ : Kd.R Kd.bool 4 w75 w.heap.size (fun k_ => some k_ ≠ (.slice (some ad155) x5_1.length co73 : Value).ownBlock) (.slice (some ⟨go72, 0, none⟩) x8_2.length co23) y158 := (by rw [hw, Ny158.out]; exact HP74.1); clear HP74; have n0_ := Aside0.mk (Kd.R_after (v := (.slice (some ⟨go72, 0, none⟩) x8_2.length co23)) (v1 := (.slice (some ⟨go72, 0, none⟩) x8_2.length co23)) (ok := (fun _ => True)) (by (with_reducible repeat (first | apply Kd.R_alloc | apply Kd.R_drewN | apply Kd.R_drew)); exact Kd.R_mono HO_5.out (fun _ hk => ⟨trivial, hk⟩)) hg (.inl rfl)); have n1_ := Aside0.mk (hp_); have n2_ := Aside0.mk (Kd.V_afterv (v := (.slice (some ⟨go72, 0, none⟩) x8_2.length co23)) (v1 := (.slice (some ⟨go72, 0, none⟩) x8_2.length co23)) (ok := (fun k_ => some k_ ≠ (.slice (some ad155) x5_1.length co73 : Value).ownBlock)) (by (with_reducible repeat (first | apply Kd.V_alloc | apply Kd.V_drewN | apply Kd.V_drew)); exact HO_17.out) hg (.inl rfl)); have n3_ := Aside0.mk ((by rw [hw]; exact below_set (HB.out) GB72.out : Below w.heap.size w w75)); clear HO_5; clear HO_8; clear HO_17; clear HB; have HO_5 := n0_; have HO_8 := n1_; have HO_17 := n2_; have HB := n3_; clear n0_ n1_ n2_ n3_; clear hg hw hp_))
                                          (try simp only [← hl8_2])
                                          go_roundg k2
                                          case measure => have := HK1.out; have := HK2.out; omega
                                          case rel => exact ⟨(y158), (wrap64 (x29_2 + 1)), (by first | rfl | (simp; done) | (simp [*]; done)), H', ⟨by have := HK1.out; have := HK2.out; omega⟩, ⟨by (try simp only [hl8_2]); (with_reducible repeat (first | apply Kd.R_alloc | apply Kd.R_drewN | apply Kd.R_drew)); exact Kd.R_mono HO_5.out (fun _ hk => hk.2)⟩, ⟨by (try simp only [hl8_2]); (with_reducible repeat (first | apply Kd.R_alloc | apply Kd.R_drewN | apply Kd.R_drew)); exact HO_8.out⟩, ⟨by (try simp only [hl8_2]); (with_reducible repeat (first | apply Kd.V_alloc | apply Kd.V_drewN | apply Kd.V_drew)); exact HO_17.out⟩, ⟨by repeat (first | (with_reducible first | exact HB.out | apply below_alloc | apply pw_below_drewN | apply below_drew1) | exact HB.out)⟩⟩
                                        · rw [if_neg c71] at H
                                          exact absurd H (by simp)
                                      · rw [if_neg c70] at H
                                        exact absurd H (by simp)
                                  · rw [if_neg c52] at H
                                    exact absurd H (by simp)
                                · rw [if_neg c51] at H
                                  exact absurd H (by simp)
                              · rw [if_neg c49] at H
                                have c49b0 : decide (0 < x29_2) = false := decide_eq_false c49
                                clear c49
                                have H' := Aside0.mk H
                                clear H
                                go_wp2
                                (try simp only [← hl8_2])
                                go_roundg k2
                                case measure => have := HK1.out; have := HK2.out; omega
                                case rel => exact ⟨(x8_2), (wrap64 (x29_2 + 1)), (by first | rfl | (simp; done) | (simp [*]; done)), H', ⟨by have := HK1.out; have := HK2.out; omega⟩, ⟨by (try simp only [hl8_2]); (with_reducible repeat (first | apply Kd.R_alloc | apply Kd.R_drewN | apply Kd.R_drew)); exact HO_5.out⟩, ⟨by (try simp only [hl8_2]); (with_reducible repeat (first | apply Kd.R_alloc | apply Kd.R_drewN | apply Kd.R_drew)); exact HO_8.out⟩, ⟨by (try simp only [hl8_2]); (with_reducible repeat (first | apply Kd.V_alloc | apply Kd.V_drewN | apply Kd.V_drew)); exact HO_17.out⟩, ⟨by repeat (first | (with_reducible first | exact HB.out | apply below_alloc | apply pw_below_drewN | apply below_drew1) | exact HB.out)⟩⟩
                          · rw [if_neg c24] at H
                            have c24b0 : decide (x29_2 < (y147.length : Int)) = false := decide_eq_false c24
                            (try simp only [hl8_2] at c24b0)
                            clear c24
                            have H' := Aside0.mk H
                            clear H
                            go_wp2
                            (try simp only [← hl8_2])
                            go_roundg k2
                            case measure => have := HK1.out; have := HK2.out; omega
                            case rel => exact ⟨(x8_2), (wrap64 (x19_1 + 1)), (by first | rfl | (simp; done) | (simp [*]; done)), H', ⟨by have := HK1.out; have := HK2.out; omega⟩, ⟨by (try simp only [hl8_2]); (with_reducible repeat (first | apply Kd.R_alloc | apply Kd.R_drewN | apply Kd.R_drew)); exact Kd.R_mono HO_8.out (fun _ hk => trivial)⟩, ⟨by (try simp only [hl8_2]); (with_reducible repeat (first | apply Kd.V_alloc | apply Kd.V_drewN | apply Kd.V_drew)); exact Kd.V_mono HO_17.out (fun _ hk => hk.2)⟩, ⟨by repeat (first | (with_reducible first | exact HB.out | apply below_alloc | apply pw_below_drewN | apply below_drew1) | exact HB.out)⟩⟩
                    · rw [if_neg c20] at H
                      exact absurd H (by simp)
                  · rw [if_neg c19] at H
                    exact absurd H (by simp)
                · rw [if_neg c17] at H
                  exact absurd H (by simp)
              · rw [if_neg c16] at H
                exact absurd H (by simp)
            · rw [if_neg c15] at H
              have c15b0 : decide (x19_1 < (t142.length : Int)) = false := decide_eq_false c15
              clear c15
              by_cases c76 : 0 ≤ (a1.size : Int)
              · rw [if_pos c76] at H
                have c76b0 : decide (0 ≤ (a1.size : Int)) = true := decide_eq_true c76
                have c76b1 : decide (0 ≤ a1.size) = true := decide_eq_true (by omega)
                clear c76
                by_cases c77 : (a1.size : Int) < (x5_1.length : Int)
                · rw [if_pos c77] at H
                  have c77b0 : decide ((a1.size : Int) < (x5_1.length : Int)) = true := decide_eq_true c77
                  have c77b1 : decide (a1.size < x5_1.length) = true := decide_eq_true (Int.ofNat_lt.mp c77)
                  clear c77
                  obtain rfl := Option.some.inj H
                  obtain ⟨Ao78, co78, eo78⟩ := Kd.R_slice HO_5.out
                  subst eo78
                  have p145 : 0 ≤ ((a1.size : Int) : Int) := of_decide_eq_true (by first | (with_reducible assumption) | assumption)
                  have q145 : (a1.size : Int) < (x5_1.length : Int) := of_decide_eq_true (by first | (with_reducible assumption) | assumption)
                  obtain ⟨ad145, e145, hx145_0⟩ := Kd.at_bool (Kd.R_reads' HO_5.out).2.2 (a1.size : Int) p145 q145
                  (try simp only [Int.toNat_natCast] at hx145_0)
                  cases e145
                  replace p145 := eq_true p145
                  replace q145 := eq_true q145
                  go_wp2
                  go_ret
                  exact ⟨by first | rfl | (simp [errW_none, errW_some] <;> rfl) | (simp only [← hji3]; first | rfl | (simp [errW_none, errW_some] <;> rfl)) | (simp [*, errW_none, errW_some] <;> rfl), by repeat (first | (with_reducible first | exact HB.out | apply below_alloc | apply pw_below_drewN | apply below_drew1) | exact HB.out)⟩
                · rw [if_neg c77] at H
                  exact absurd H (by simp)
              · rw [if_neg c76] at H
                exact absurd H (by simp)
      · rw [if_neg c6] at H
        exact absurd H (by simp)
    · rw [if_neg c5] at H
      exact absurd H (by simp)
  · rw [if_neg c4] at H
    exact absurd H (by simp)
end Go.Proofs.YtafjlibcdlihcaaDoor.G
end
