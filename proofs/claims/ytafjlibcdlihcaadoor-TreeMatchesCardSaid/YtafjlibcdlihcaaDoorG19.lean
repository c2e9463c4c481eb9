/- Walks of functions of the program: what each call answers. Written by a program of this session out of the translation. No condition. -/
import Derived.Test.YtafjlibcdlihcaaDoorG0
import Derived.Test.YtafjlibcdlihcaaDoorG10
import Derived.Test.YtafjlibcdlihcaaDoorG14
import Derived.Test.YtafjlibcdlihcaaDoorG18
namespace Go.Proofs.YtafjlibcdlihcaaDoor.G
open Go.RowKit Go.Proofs.YtafjlibcdlihcaaDoorW.PrintWords Go.Proofs.YtafjlibcdlihcaaDoorW.PrintLast Go.Proofs.YtafjlibcdlihcaaDoorW.PrintMore
attribute [local go_sem] max2_int min2_int max_two min_two max_three min_three max_four min_four   -- for this text's walks alone
set_option linter.unusedVariables false
set_option linter.unusedSimpArgs false

/-! ### barquelaw09_awake: function 16 -/
def barquelaw09_awake.f (k : Nat)  : Option (Bool) := (tree_Order.f k (⟨#[97, 47, 98]⟩ : ByteArray) (⟨#[97, 45, 98]⟩ : ByteArray)).bind fun t186 => (if t186 < 0 then ((tree_Match.f k (⟨#[97, 47, 42, 42, 47, 99, 63]⟩ : ByteArray) (⟨#[97, 47, 98, 47, 98, 47, 99, 100]⟩ : ByteArray)).bind fun t187 => (if t187 = true then ((tree_Match.f k (⟨#[42]⟩ : ByteArray) (⟨#[97, 47, 98]⟩ : ByteArray)).bind fun t188 => (if t188 = true then (some false) else ((tree_Check.f k (([(⟨(⟨#[97]⟩ : ByteArray), 0, (⟨#[]⟩ : ByteArray)⟩ : S58), (⟨(⟨#[97, 47, 98]⟩ : ByteArray), 0, (⟨#[]⟩ : ByteArray)⟩ : S58)] : List (S58)))).bind fun t192 => (some (t192 == 9))))) else (some false))) else (some false))
theorem barquelaw09_awake.mono : ∀ k, LeO (barquelaw09_awake.f k ) (barquelaw09_awake.f (k + 1) ) := by
  intro  k
  unfold barquelaw09_awake.f
  repeat' first
      | (with_reducible exact tree_Check.mono _ _)
      | (with_reducible exact tree_Match.mono _ _ _)
      | (with_reducible exact tree_Order.mono _ _ _)
      | (with_reducible exact LeO.refl _)
      | (with_reducible exact LeO.none _)
      | (with_reducible refine LeO.ite ?_ ?_)
      | (with_reducible refine LeO.bind ?_ (fun _ => ?_))
      | exact tree_Check.mono _ _
      | exact tree_Match.mono _ _ _
      | exact tree_Order.mono _ _ _
      | exact LeO.none _
      | refine LeO.ite ?_ ?_
      | refine LeO.bind ?_ (fun _ => ?_)
set_option maxHeartbeats 8000000 in
set_option maxRecDepth 100000 in
theorem barquelaw09_awake.calls (k : Nat)  (r : Bool) (w : World) (h : barquelaw09_awake.f k  = some r) :
    Calls Tryd.prog 16 #[] w fun e w' => e = .returned (.bool r) ∧ Below w.heap.size w w' := by
  have hu58 := Tryd.underlying58
  have HB := Aside0.mk (Below.refl w.heap.size w)
  have H : ((tree_Order.f k (⟨#[97, 47, 98]⟩ : ByteArray) (⟨#[97, 45, 98]⟩ : ByteArray)).bind fun t186 => (if t186 < 0 then ((tree_Match.f k (⟨#[97, 47, 42, 42, 47, 99, 63]⟩ : ByteArray) (⟨#[97, 47, 98, 47, 98, 47, 99, 100]⟩ : ByteArray)).bind fun t187 => (if t187 = true then ((tree_Match.f k (⟨#[42]⟩ : ByteArray) (⟨#[97, 47, 98]⟩ : ByteArray)).bind fun t188 => (if t188 = true then (some false) else ((tree_Check.f k (([(⟨(⟨#[97]⟩ : ByteArray), 0, (⟨#[]⟩ : ByteArray)⟩ : S58), (⟨(⟨#[97, 47, 98]⟩ : ByteArray), 0, (⟨#[]⟩ : ByteArray)⟩ : S58)] : List (S58)))).bind fun t192 => (some (t192 == 9))))) else (some false))) else (some false))) = some r := h
  clear h
  replace H := Option.bind_eq_some_iff.mp H
  obtain ⟨t186, A10, H⟩ := H
  replace H : (if t186 < 0 then ((tree_Match.f k (⟨#[97, 47, 42, 42, 47, 99, 63]⟩ : ByteArray) (⟨#[97, 47, 98, 47, 98, 47, 99, 100]⟩ : ByteArray)).bind fun t187 => (if t187 = true then ((tree_Match.f k (⟨#[42]⟩ : ByteArray) (⟨#[97, 47, 98]⟩ : ByteArray)).bind fun t188 => (if t188 = true then (some false) else ((tree_Check.f k (([(⟨(⟨#[97]⟩ : ByteArray), 0, (⟨#[]⟩ : ByteArray)⟩ : S58), (⟨(⟨#[97, 47, 98]⟩ : ByteArray), 0, (⟨#[]⟩ : ByteArray)⟩ : S58)] : List (S58)))).bind fun t192 => (some (t192 == 9))))) else (some false))) else (some false)) = some r := H
  have A1 := Aside0.mk A10
  clear A10
  by_cases c2 : t186 < 0
  · rw [if_pos c2] at H
    have c2b0 : decide (t186 < 0) = true := decide_eq_true c2
    clear c2
    replace H := Option.bind_eq_some_iff.mp H
    obtain ⟨t187, A30, H⟩ := H
    replace H : (if t187 = true then ((tree_Match.f k (⟨#[42]⟩ : ByteArray) (⟨#[97, 47, 98]⟩ : ByteArray)).bind fun t188 => (if t188 = true then (some false) else ((tree_Check.f k (([(⟨(⟨#[97]⟩ : ByteArray), 0, (⟨#[]⟩ : ByteArray)⟩ : S58), (⟨(⟨#[97, 47, 98]⟩ : ByteArray), 0, (⟨#[]⟩ : ByteArray)⟩ : S58)] : List (S58)))).bind fun t192 => (some (t192 == 9))))) else (some false)) = some r := H
    have A3 := Aside0.mk A30
    clear A30
    by_cases c4 : t187 = true
    · subst c4
      have H1 : ((tree_Match.f k (⟨#[42]⟩ : ByteArray) (⟨#[97, 47, 98]⟩ : ByteArray)).bind fun t188 => (if t188 = true then (some false) else ((tree_Check.f k (([(⟨(⟨#[97]⟩ : ByteArray), 0, (⟨#[]⟩ : ByteArray)⟩ : S58), (⟨(⟨#[97, 47, 98]⟩ : ByteArray), 0, (⟨#[]⟩ : ByteArray)⟩ : S58)] : List (S58)))).bind fun t192 => (some (t192 == 9))))) = some r := by rw [if_pos rfl] at H; exact H
      clear H
      have H := H1
      clear H1
      replace H := Option.bind_eq_some_iff.mp H
      obtain ⟨t188, A50, H⟩ := H
      replace H : (if t188 = true then (some false) else ((tree_Check.f k (([(⟨(⟨#[97]⟩ : ByteArray), 0, (⟨#[]⟩ : ByteArray)⟩ : S58), (⟨(⟨#[97, 47, 98]⟩ : ByteArray), 0, (⟨#[]⟩ : ByteArray)⟩ : S58)] : List (S58)))).bind fun t192 => (some (t192 == 9)))) = some r := H
      have A5 := Aside0.mk A50
      clear A50
      by_cases c6 : t188 = true
      · subst c6
        have H1 : (some false) = some r := by rw [if_pos rfl] at H; exact H
        clear H
        have H := H1
        clear H1
        obtain rfl := Option.some.inj H
        go_enter Tryd.func16, Tryd.ntmps16
        go_wp2_with (first | ((with_reducible refine gate_callee (f := 18) rfl ?_); refine goesL_ (some 1) rfl rfl Tryd.func18 (by kernel_rfl) rfl #[.string (⟨#[97, 47, 98]⟩ : ByteArray), .string (⟨#[97, 45, 98]⟩ : ByteArray)] rfl (by (try simp only [List.map_toArray, List.map_cons, List.map_nil]); first | done | rfl | (simp only [List.length_drop, List.length_take]; rfl)) ?_; (with_reducible refine (tree_Order.calls k (⟨#[97, 47, 98]⟩ : ByteArray) (⟨#[97, 45, 98]⟩ : ByteArray) t186 _ A1.out).mono ?_); rintro e w7 ⟨rfl, hb⟩; refine ⟨_, rfl, ?_⟩; have n0_ := Aside0.mk (below_step (by repeat (first | (with_reducible first | exact HB.out | apply below_alloc | apply pw_below_drewN | apply below_drew1) | exact HB.out)) hb); clear HB; have HB := n0_; clear n0_; (try clear hb); (try clear hb2); (try clear hk); (try clear hi)) | (go_at_call 23; (with_reducible refine (tree_Match.calls k (⟨#[97, 47, 42, 42, 47, 99, 63]⟩ : ByteArray) (⟨#[97, 47, 98, 47, 98, 47, 99, 100]⟩ : ByteArray) true _ A3.out).mono ?_); rintro e w8 ⟨rfl, hb⟩; have n0_ := Aside0.mk (below_step (by repeat (first | (with_reducible first | exact HB.out | apply below_alloc | apply pw_below_drewN | apply below_drew1) | exact HB.out)) hb); clear HB; have HB := n0_; clear n0_; (try clear hb); (try clear hb2); (try clear hk); (try clear hi)) | (go_at_call 23; (with_reducible refine (tree_Match.calls k (⟨#[42]⟩ : ByteArray) (⟨#[97, 47, 98]⟩ : ByteArray) true _ A5.out).mono ?_); rintro e w9 ⟨rfl, hb⟩; have n0_ := Aside0.mk (below_step (by repeat (first | (with_reducible first | exact HB.out | apply below_alloc | apply pw_below_drewN | apply below_drew1) | exact HB.out)) hb); clear HB; have HB := n0_; clear n0_; (try clear hb); (try clear hb2); (try clear hk); (try clear hi)))
        go_ret
        exact ⟨by first | rfl | (simp [errW_none, errW_some] <;> rfl) | (simp [*, errW_none, errW_some] <;> rfl), by repeat (first | (with_reducible first | exact HB.out | apply below_alloc | apply pw_below_drewN | apply below_drew1) | exact HB.out)⟩
      · replace c6 := Bool.eq_false_iff.mpr c6
        subst c6
        have H1 : ((tree_Check.f k (([(⟨(⟨#[97]⟩ : ByteArray), 0, (⟨#[]⟩ : ByteArray)⟩ : S58), (⟨(⟨#[97, 47, 98]⟩ : ByteArray), 0, (⟨#[]⟩ : ByteArray)⟩ : S58)] : List (S58)))).bind fun t192 => (some (t192 == 9))) = some r := by rw [if_neg (show ¬ (false = true) by decide)] at H; exact H
        clear H
        have H := H1
        clear H1
        obtain ⟨y189, hy189⟩ : ∃ y_ : List (S58), y_ = (([(⟨(⟨#[97]⟩ : ByteArray), 0, (⟨#[]⟩ : ByteArray)⟩ : S58), (⟨(⟨#[97, 47, 98]⟩ : ByteArray), 0, (⟨#[]⟩ : ByteArray)⟩ : S58)] : List (S58))) := ⟨_, rfl⟩
        replace H : ((tree_Check.f k y189).bind fun t192 => (some (t192 == 9))) = some r := by first | (rw [hy189]; with_reducible exact H) | (have H2_ := (Option.bind_some _ _).symm.trans H; rw [hy189]; with_reducible exact H2_) | (have H2_ := (Option.bind_some _ _).symm.trans H; with_reducible exact H2_) | with_reducible exact H | (rw [hy189]; exact H) | exact H
        have Ny189 := Aside0.mk hy189
        clear hy189
        replace H := Option.bind_eq_some_iff.mp H
        obtain ⟨t192, A100, H⟩ := H
        replace H : (some (t192 == 9)) = some r := H
        have A10 := Aside0.mk A100
        clear A100
        obtain rfl := Option.some.inj H
        go_enter Tryd.func16, Tryd.ntmps16
        go_wp2_with (first | ((with_reducible refine gate_callee (f := 18) rfl ?_); refine goesL_ (some 1) rfl rfl Tryd.func18 (by kernel_rfl) rfl #[.string (⟨#[97, 47, 98]⟩ : ByteArray), .string (⟨#[97, 45, 98]⟩ : ByteArray)] rfl (by (try simp only [List.map_toArray, List.map_cons, List.map_nil]); first | done | rfl | (simp only [List.length_drop, List.length_take]; rfl)) ?_; (with_reducible refine (tree_Order.calls k (⟨#[97, 47, 98]⟩ : ByteArray) (⟨#[97, 45, 98]⟩ : ByteArray) t186 _ A1.out).mono ?_); rintro e w11 ⟨rfl, hb⟩; refine ⟨_, rfl, ?_⟩; have n0_ := Aside0.mk (below_step (by repeat (first | (with_reducible first | exact HB.out | apply below_alloc | apply pw_below_drewN | apply below_drew1) | exact HB.out)) hb); clear HB; have HB := n0_; clear n0_; (try clear hb); (try clear hb2); (try clear hk); (try clear hi)) | (go_at_call 23; (with_reducible refine (tree_Match.calls k (⟨#[97, 47, 42, 42, 47, 99, 63]⟩ : ByteArray) (⟨#[97, 47, 98, 47, 98, 47, 99, 100]⟩ : ByteArray) true _ A3.out).mono ?_); rintro e w12 ⟨rfl, hb⟩; have n0_ := Aside0.mk (below_step (by repeat (first | (with_reducible first | exact HB.out | apply below_alloc | apply pw_below_drewN | apply below_drew1) | exact HB.out)) hb); clear HB; have HB := n0_; clear n0_; (try clear hb); (try clear hb2); (try clear hk); (try clear hi)) | (go_at_call 23; (with_reducible refine (tree_Match.calls k (⟨#[42]⟩ : ByteArray) (⟨#[97, 47, 98]⟩ : ByteArray) false _ A5.out).mono ?_); rintro e w13 ⟨rfl, hb⟩; have n0_ := Aside0.mk (below_step (by repeat (first | (with_reducible first | exact HB.out | apply below_alloc | apply pw_below_drewN | apply below_drew1) | exact HB.out)) hb); clear HB; have HB := n0_; clear n0_; (try clear hb); (try clear hb2); (try clear hk); (try clear hi)) | ((with_reducible refine gate_dst (N := 13) rfl ?_); (try (refine gate_guard (by rfl) ?_; dsimp only)); refine Kd.R_lit k58 _ 58 ?hg (N := 13) ?hd (xs := ([(⟨(⟨#[97]⟩ : ByteArray), 0, (⟨#[]⟩ : ByteArray)⟩ : S58), (⟨(⟨#[97, 47, 98]⟩ : ByteArray), 0, (⟨#[]⟩ : ByteArray)⟩ : S58)] : List (S58))) (inner := [.string (⟨#[97]⟩ : ByteArray), .int .i64 0, .string (⟨#[]⟩ : ByteArray), .string (⟨#[97, 47, 98]⟩ : ByteArray), .int .i64 0, .string (⟨#[]⟩ : ByteArray)]) (ok := fun _ => True) (okp := fun _ => True) ?hr ?hp (fun _ hk => hk) trivial (Below.refl _ _) (Nat.le_refl _) (by simp) ?_; (case hd => rfl); (case hg => rfl); (case hr => first | (go_simp; done) | (go_simp; rfl)); (case hp => exact (Reps.c3 (show Kd.M k58 _ _ _ (⟨(⟨#[97]⟩ : ByteArray), 0, (⟨#[]⟩ : ByteArray)⟩ : S58) [.string (⟨#[97]⟩ : ByteArray), .int .i64 0, .string (⟨#[]⟩ : ByteArray)] from (k58_mkM _ _ _ (⟨(⟨#[97]⟩ : ByteArray), 0, (⟨#[]⟩ : ByteArray)⟩ : S58) )) (Reps.c3 (show Kd.M k58 _ _ _ (⟨(⟨#[97, 47, 98]⟩ : ByteArray), 0, (⟨#[]⟩ : ByteArray)⟩ : S58) [.string (⟨#[97, 47, 98]⟩ : ByteArray), .int .i64 0, .string (⟨#[]⟩ : ByteArray)] from (k58_mkM _ _ _ (⟨(⟨#[97, 47, 98]⟩ : ByteArray), 0, (⟨#[]⟩ : ByteArray)⟩ : S58) )) (Reps.none _ _)))); intro v190 w14 ho15 hb hg_ hnew_; clear hg_ hnew_; (first | rw [← Ny189.out] at ho15 | (simp only [Int.reduceToNat] at ho15; rw [← Ny189.out] at ho15)); have n0_ := Aside0.mk (Kd.R_lower ho15 (below_size (by repeat (first | (with_reducible first | exact HB.out | apply below_alloc | apply pw_below_drewN | apply below_drew1) | exact HB.out)))); have n1_ := Aside0.mk (below_step (by repeat (first | (with_reducible first | exact HB.out | apply below_alloc | apply pw_below_drewN | apply below_drew1) | exact HB.out)) hb); clear HB; have HO191 := n0_; have HB := n1_; clear n0_ n1_; clear hb ho15; obtain ⟨Ao16, co16, eo16⟩ := Kd.R_slice HO191.out; subst eo16) | (go_at_call 19; (with_reducible refine (tree_Check.calls k _ _ y189 t192 _ ?side1 ?side2 A10.out).mono ?_); (case side1 => repeat (first | exact (Kd.R_reads' HO191.out).2.2 | (with_reducible refine Kd.C_alloc ?_ _) | (with_reducible refine Kd.C_drewN ?_ _) | (with_reducible refine Kd.C_drew ?_))); (case side2 => exact (Kd.R_reads' HO191.out).2.1); rintro e w17 ⟨rfl, hb⟩; have n0_ := Aside0.mk (Kd.R_below (by (with_reducible repeat (first | apply Kd.R_alloc | apply Kd.R_drewN | apply Kd.R_drew)); exact HO191.out) hb); have n1_ := Aside0.mk (below_step (by repeat (first | (with_reducible first | exact HB.out | apply below_alloc | apply pw_below_drewN | apply below_drew1) | exact HB.out)) hb); clear HO191; clear HB; have HO191 := n0_; have HB := n1_; clear n0_ n1_; (try clear hb); (try clear hb2); (try clear hk); (try clear hi)))
        go_ret
        exact ⟨by first | rfl | (simp [errW_none, errW_some] <;> rfl) | (simp [*, errW_none, errW_some] <;> rfl), by repeat (first | (with_reducible first | exact HB.out | apply below_alloc | apply pw_below_drewN | apply below_drew1) | exact HB.out)⟩
    · replace c4 := Bool.eq_false_iff.mpr c4
      subst c4
      have H1 : (some false) = some r := by rw [if_neg (show ¬ (false = true) by decide)] at H; exact H
      clear H
      have H := H1
      clear H1
      obtain rfl := Option.some.inj H
      go_enter Tryd.func16, Tryd.ntmps16
      go_wp2_with (first | ((with_reducible refine gate_callee (f := 18) rfl ?_); refine goesL_ (some 1) rfl rfl Tryd.func18 (by kernel_rfl) rfl #[.string (⟨#[97, 47, 98]⟩ : ByteArray), .string (⟨#[97, 45, 98]⟩ : ByteArray)] rfl (by (try simp only [List.map_toArray, List.map_cons, List.map_nil]); first | done | rfl | (simp only [List.length_drop, List.length_take]; rfl)) ?_; (with_reducible refine (tree_Order.calls k (⟨#[97, 47, 98]⟩ : ByteArray) (⟨#[97, 45, 98]⟩ : ByteArray) t186 _ A1.out).mono ?_); rintro e w18 ⟨rfl, hb⟩; refine ⟨_, rfl, ?_⟩; have n0_ := Aside0.mk (below_step (by repeat (first | (with_reducible first | exact HB.out | apply below_alloc | apply pw_below_drewN | apply below_drew1) | exact HB.out)) hb); clear HB; have HB := n0_; clear n0_; (try clear hb); (try clear hb2); (try clear hk); (try clear hi)) | (go_at_call 23; (with_reducible refine (tree_Match.calls k (⟨#[97, 47, 42, 42, 47, 99, 63]⟩ : ByteArray) (⟨#[97, 47, 98, 47, 98, 47, 99, 100]⟩ : ByteArray) false _ A3.out).mono ?_); rintro e w19 ⟨rfl, hb⟩; have n0_ := Aside0.mk (below_step (by repeat (first | (with_reducible first | exact HB.out | apply below_alloc | apply pw_below_drewN | apply below_drew1) | exact HB.out)) hb); clear HB; have HB := n0_; clear n0_; (try clear hb); (try clear hb2); (try clear hk); (try clear hi)))
      go_ret
      exact ⟨by first | rfl | (simp [errW_none, errW_some] <;> rfl) | (simp [*, errW_none, errW_some] <;> rfl), by repeat (first | (with_reducible first | exact HB.out | apply below_alloc | apply pw_below_drewN | apply below_drew1) | exact HB.out)⟩
  · rw [if_neg c2] at H
    have c2b0 : decide (t186 < 0) = false := decide_eq_false c2
    clear c2
    obtain rfl := Option.some.inj H
    go_enter Tryd.func16, Tryd.ntmps16
    go_wp2_with (first | ((with_reducible refine gate_callee (f := 18) rfl ?_); refine goesL_ (some 1) rfl rfl Tryd.func18 (by kernel_rfl) rfl #[.string (⟨#[97, 47, 98]⟩ : ByteArray), .string (⟨#[97, 45, 98]⟩ : ByteArray)] rfl (by (try simp only [List.map_toArray, List.map_cons, List.map_nil]); first | done | rfl | (simp only [List.length_drop, List.length_take]; rfl)) ?_; (with_reducible refine (tree_Order.calls k (⟨#[97, 47, 98]⟩ : ByteArray) (⟨#[97, 45, 98]⟩ : ByteArray) t186 _ A1.out).mono ?_); rintro e w20 ⟨rfl, hb⟩; refine ⟨_, rfl, ?_⟩; have n0_ := Aside0.mk (below_step (by repeat (first | (with_reducible first | exact HB.out | apply below_alloc | apply pw_below_drewN | apply below_drew1) | exact HB.out)) hb); clear HB; have HB := n0_; clear n0_; (try clear hb); (try clear hb2); (try clear hk); (try clear hi)))
    go_ret
    exact ⟨by first | rfl | (simp [errW_none, errW_some] <;> rfl) | (simp [*, errW_none, errW_some] <;> rfl), by repeat (first | (with_reducible first | exact HB.out | apply below_alloc | apply pw_below_drewN | apply below_drew1) | exact HB.out)⟩

end Go.Proofs.YtafjlibcdlihcaaDoor.G
