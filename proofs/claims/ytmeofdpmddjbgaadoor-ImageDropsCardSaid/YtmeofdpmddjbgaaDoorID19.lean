/- Texts of this session's claim of ImageDrops, less what its theorem does not reach. No condition. -/
import Derived.Test.YtmeofdpmddjbgaaDoorID12
import Derived.Test.YtmeofdpmddjbgaaDoorID13
import Derived.Test.YtmeofdpmddjbgaaDoorID14
import Derived.Test.YtmeofdpmddjbgaaDoorID15
import Derived.Test.YtmeofdpmddjbgaaDoorID17
import Derived.Test.YtmeofdpmddjbgaaDoorID18
section
namespace Go.Proofs.YtmeofdpmddjbgaaDoor.G
open Go.RowKit Go.Proofs.YtmeofdpmddjbgaaDoorW.PrintWords Go.Proofs.YtmeofdpmddjbgaaDoorW.PrintLast Go.Proofs.YtmeofdpmddjbgaaDoorW.PrintMore
attribute [local go_sem] max2_int min2_int max_two min_two max_three min_three max_four min_four   -- for this text's walks alone
set_option linter.unusedVariables false
set_option linter.unusedSimpArgs false
def barqueref10_Drop.l0 : Nat → ByteArray → List (S33) → List (S33) → Int → Option (ByteArray × Int)
  | 0, _, _, _, _ => none
  | k + 1, x1, x6, x8, x9 => if x9 < (x6.length : Int) then (if 0 ≤ x9 then (if ((rd_T33 x6 x9).f0).toList = x1.toList then (barqueref10_Drop.l0 k x1 x6 x8 (wrap64 (x9 + 1))) else ((barqueref09_Within.f ((rd_T33 x6 x9).f0) x1).bind fun t414 => (if t414 = true then (barqueref10_Drop.l0 k x1 x6 x8 (wrap64 (x9 + 1))) else (if x8.length < 3518437208883 then (barqueref10_Drop.l0 k x1 x6 (x8 ++ [(⟨(rd_T33 x6 x9).f0, (rd_T33 x6 x9).f1, (rd_T33 x6 x9).f2⟩ : S33)]) (wrap64 (x9 + 1))) else (none))))) else (none)) else (if (x8.length : Int) = (x6.length : Int) then (some ((⟨#[]⟩ : ByteArray), 8)) else ((barqueref10_Of.f k x8).bind fun bt419 => (some (bt419.1, bt419.2))))
def barqueref10_Drop.f (k : Nat) (a0 : ByteArray) (a1 : ByteArray) : Option (ByteArray × Int) := (barqueref10_Tree.f k a0).bind fun bt408 => (if bt408.2 = 0 then (barqueref10_Drop.l0 k a1 bt408.1 ([] : List (S33)) 0) else (some ((⟨#[]⟩ : ByteArray), bt408.2)))
theorem barqueref10_Drop.mono_l : ∀ k, (∀ y0 y1 y2 y3, LeO (barqueref10_Drop.l0 k y0 y1 y2 y3) (barqueref10_Drop.l0 (k + 1) y0 y1 y2 y3))
  | 0 => fun _ _ _ _ r h => by simp [barqueref10_Drop.l0] at h
  | k + 1 => by
    have ih0 := barqueref10_Drop.mono_l k
    · intro y0 y1 y2 y3
      unfold barqueref10_Drop.l0
      repeat' first
      | (with_reducible exact ih0 _ _ _ _)
      | (with_reducible exact barqueref10_Of.mono _ _)
      | (with_reducible exact barqueref10_Tree.mono _ _)
      | (with_reducible exact LeO.refl _)
      | (with_reducible exact LeO.none _)
      | (with_reducible refine LeO.ite ?_ ?_)
      | (with_reducible refine LeO.bind ?_ (fun _ => ?_))
      | exact ih0 _ _ _ _
      | exact barqueref10_Of.mono _ _
      | exact barqueref10_Tree.mono _ _
      | exact LeO.none _
      | refine LeO.ite ?_ ?_
      | refine LeO.bind ?_ (fun _ => ?_)
theorem barqueref10_Drop.mono : ∀ a0 a1 k, LeO (barqueref10_Drop.f k a0 a1) (barqueref10_Drop.f (k + 1) a0 a1) := by
  intro a0 a1 k
  have ih0 := barqueref10_Drop.mono_l k
  unfold barqueref10_Drop.f
  repeat' first
      | (with_reducible exact ih0 _ _ _ _)
      | (with_reducible exact barqueref10_Of.mono _ _)
      | (with_reducible exact barqueref10_Tree.mono _ _)
      | (with_reducible exact LeO.refl _)
      | (with_reducible exact LeO.none _)
      | (with_reducible refine LeO.ite ?_ ?_)
      | (with_reducible refine LeO.bind ?_ (fun _ => ?_))
      | exact ih0 _ _ _ _
      | exact barqueref10_Of.mono _ _
      | exact barqueref10_Tree.mono _ _
      | exact LeO.none _
      | refine LeO.ite ?_ ?_
      | refine LeO.bind ?_ (fun _ => ?_)
set_option maxHeartbeats 8000000 in
set_option maxRecDepth 100000 in
theorem barqueref10_Drop.calls (k : Nat) (a0 : ByteArray) (a1 : ByteArray) (r1 : ByteArray) (r2 : Int) (w : World) (h : barqueref10_Drop.f k a0 a1 = some (r1, r2)) :
    Calls Tryd.prog 21 #[.string a0, .string a1] w fun e w' => e = .returned (.tuple #[.string r1, .int .i64 r2]) ∧ Below w.heap.size w w' := by
  have hu33 := Tryd.underlying33
  have HB := Aside0.mk (Below.refl w.heap.size w)
  have H : ((barqueref10_Tree.f k a0).bind fun bt408 => (if bt408.2 = 0 then (barqueref10_Drop.l0 k a1 bt408.1 ([] : List (S33)) 0) else (some ((⟨#[]⟩ : ByteArray), bt408.2)))) = some (r1, r2) := h
  clear h
  replace H := Option.bind_eq_some_iff.mp H
  obtain ⟨⟨t408, t409⟩, A30, H⟩ := H
  replace H : (if t409 = 0 then (barqueref10_Drop.l0 k a1 t408 ([] : List (S33)) 0) else (some ((⟨#[]⟩ : ByteArray), t409))) = some (r1, r2) := H
  have A3 := Aside0.mk A30
  clear A30
  by_cases c4 : t409 = 0
  · rw [if_pos c4] at H
    have c4b0 : (t409 == 0) = true := beq_iff_eq.mpr c4
    have c4b1 : (t409 != 0) = false := bne_eq_false_iff_eq.mpr c4
    clear c4
    have H' := Aside0.mk H
    clear H
    go_enter Tryd.func21, Tryd.ntmps21
    go_wp2_with (first | ((with_reducible refine gate_callee (f := 18) rfl ?_); refine goesL_ (some 12) rfl rfl Tryd.func18 (by kernel_rfl) rfl #[.string a0] rfl (by (try simp only [List.map_toArray, List.map_cons, List.map_nil]); first | done | rfl | (simp only [List.length_drop, List.length_take]; rfl)) ?_; (with_reducible refine (barqueref10_Tree.calls k a0 t408 t409 _ A3.out).mono ?_); rintro e w5 ⟨v410, rfl, ho0, hb⟩; refine ⟨_, rfl, ?_⟩; have n0_ := Aside0.mk (Kd.R_lower ho0 (below_size (by repeat (first | (with_reducible first | exact HB.out | apply below_alloc | apply pw_below_drewN | apply below_drew1) | exact HB.out)))); have n1_ := Aside0.mk (below_step (by repeat (first | (with_reducible first | exact HB.out | apply below_alloc | apply pw_below_drewN | apply below_drew1) | exact HB.out)) hb); clear HB; have HO411 := n0_; have HB := n1_; clear n0_ n1_; (try clear hb); (try clear hb2); (try clear hk); (try clear hi); (try clear ho0)))
    go_loopg [8, 9] k (fun kq v8 v9 w' => ∃ (x8_1 : List (S33)) (x9_1 : Int), v9 = .int .i64 x9_1 ∧ Aside0 (barqueref10_Drop.l0 kq a1 t408 x8_1 x9_1 = some (r1, r2)) ∧ Aside0 (kq ≤ k) ∧ Aside0 (Kd.R k33 33 w' w.heap.size (fun k_ => some k_ ≠ (v8 : Value).ownBlock) v410 t408) ∧ Aside0 (Kd.R k33 33 w' w.heap.size (fun k_ => some k_ ≠ (v410 : Value).ownBlock) v8 x8_1) ∧ Aside0 (Below w.heap.size w w'))
    case atStart => exact ⟨(([] : List (S33))), (0), (by first | rfl | (simp; done) | (simp [*]; done)), H', ⟨Nat.le_refl _⟩, ⟨by (with_reducible repeat (first | apply Kd.R_alloc | apply Kd.R_drewN | apply Kd.R_drew)); exact Kd.R_mono HO411.out (fun _ hk => (by simp [Value.ownBlock]))⟩, ⟨by first | exact Kd.R_nil _ _ _ _ _ | exact Kd.N_nil _ _ _ _ _ | exact Kd.V_nil _ _ _ _ _ | exact Kd.Q_nil _ _ _ _ _ | exact Kd.S_nil _ _ _ _ _⟩, ⟨by repeat (first | (with_reducible first | exact HB.out | apply below_alloc | apply pw_below_drewN | apply below_drew1) | exact HB.out)⟩⟩
    case round =>
      clear H'
      try clear c1
      try clear c2
      try clear p2
      try clear c4
      try clear c4b0
      try clear c4b1
      obtain ⟨x8_1, x9_1, rfl, HA, HK1, HO_6, HO_8, HB⟩ := hrel
      cases gk with
      | zero => exact absurd HA.out (by simp [barqueref10_Drop.l0])
      | succ k1 =>
        have H := HA.out
        clear HA
        simp only [barqueref10_Drop.l0] at H
        by_cases c6 : x9_1 < (t408.length : Int)
        · rw [if_pos c6] at H
          have c6b0 : decide (x9_1 < (t408.length : Int)) = true := decide_eq_true c6
          clear c6
          by_cases c7 : 0 ≤ x9_1
          · rw [if_pos c7] at H
            have c7b0 : decide (0 ≤ x9_1) = true := decide_eq_true c7
            clear c7
            by_cases c8 : ((rd_T33 t408 x9_1).f0).toList = a1.toList
            · rw [if_pos c8] at H
              have c8b0 : (((rd_T33 t408 x9_1).f0).toList == a1.toList) = true := beq_iff_eq.mpr c8
              have c8b1 : (((rd_T33 t408 x9_1).f0).toList != a1.toList) = false := bne_eq_false_iff_eq.mpr c8
              clear c8
              have H' := Aside0.mk H
              clear H
              obtain ⟨Ao9, co9, eo9⟩ := Kd.R_slice HO_6.out
              subst eo9
              have p412 : 0 ≤ (x9_1 : Int) := of_decide_eq_true (by first | (with_reducible assumption) | assumption)
              have q412 : x9_1 < (t408.length : Int) := of_decide_eq_true (by first | (with_reducible assumption) | assumption)
              obtain ⟨ad412, e412, hx412_0, hx412_1, hx412_2⟩ := at_T33 (Kd.R_reads' HO_6.out).2.2 x9_1 p412 q412
              cases e412
              replace p412 := eq_true p412
              replace q412 := eq_true q412
              go_wp2
              go_roundg k1
              case measure => have := HK1.out; omega
              case rel => exact ⟨(x8_1), (wrap64 (x9_1 + 1)), (by first | rfl | (simp; done) | (simp [*]; done)), H', ⟨by have := HK1.out; omega⟩, ⟨by (with_reducible repeat (first | apply Kd.R_alloc | apply Kd.R_drewN | apply Kd.R_drew)); exact HO_6.out⟩, ⟨by (with_reducible repeat (first | apply Kd.R_alloc | apply Kd.R_drewN | apply Kd.R_drew)); exact HO_8.out⟩, ⟨by repeat (first | (with_reducible first | exact HB.out | apply below_alloc | apply pw_below_drewN | apply below_drew1) | exact HB.out)⟩⟩
            · rw [if_neg c8] at H
              have c8b0 : (((rd_T33 t408 x9_1).f0).toList == a1.toList) = false := beq_eq_false_iff_ne.mpr c8
              have c8b1 : (((rd_T33 t408 x9_1).f0).toList != a1.toList) = true := bne_iff_ne.mpr c8
              replace H := Option.bind_eq_some_iff.mp H
              obtain ⟨t414, A100, H⟩ := H
              replace H : (if t414 = true then (barqueref10_Drop.l0 k1 a1 t408 x8_1 (wrap64 (x9_1 + 1))) else (if x8_1.length < 3518437208883 then (barqueref10_Drop.l0 k1 a1 t408 (x8_1 ++ [(⟨(rd_T33 t408 x9_1).f0, (rd_T33 t408 x9_1).f1, (rd_T33 t408 x9_1).f2⟩ : S33)]) (wrap64 (x9_1 + 1))) else (none))) = some (r1, r2) := H
              have A10 := Aside0.mk A100
              clear A100
              by_cases c11 : t414 = true
              · subst c11
                have H1 : (barqueref10_Drop.l0 k1 a1 t408 x8_1 (wrap64 (x9_1 + 1))) = some (r1, r2) := by rw [if_pos rfl] at H; exact H
                clear H
                have H := H1
                clear H1
                have H' := Aside0.mk H
                clear H
                obtain ⟨Ao12, co12, eo12⟩ := Kd.R_slice HO_6.out
                subst eo12
                have p412 : 0 ≤ (x9_1 : Int) := of_decide_eq_true (by first | (with_reducible assumption) | assumption)
                have q412 : x9_1 < (t408.length : Int) := of_decide_eq_true (by first | (with_reducible assumption) | assumption)
                obtain ⟨ad412, e412, hx412_0, hx412_1, hx412_2⟩ := at_T33 (Kd.R_reads' HO_6.out).2.2 x9_1 p412 q412
                cases e412
                replace p412 := eq_true p412
                replace q412 := eq_true q412
                have p413 : 0 ≤ (x9_1 : Int) := of_decide_eq_true (by first | (with_reducible assumption) | assumption)
                have q413 : x9_1 < (t408.length : Int) := of_decide_eq_true (by first | (with_reducible assumption) | assumption)
                obtain ⟨ad413, e413, hx413_0, hx413_1, hx413_2⟩ := at_T33 (Kd.R_reads' HO_6.out).2.2 x9_1 p413 q413
                obtain rfl : ad412 = ad413 := (by injection e413)
                replace p413 := eq_true p413
                replace q413 := eq_true q413
                go_wp2_with (first | (go_at_call 40; (with_reducible refine (barqueref09_Within.calls ((rd_T33 t408 x9_1).f0) a1 true _ A10.out).mono ?_); rintro e w' ⟨rfl, ⟨nd, rfl⟩⟩))
                go_roundg k1
                case measure => have := HK1.out; omega
                case rel => exact ⟨(x8_1), (wrap64 (x9_1 + 1)), (by first | rfl | (simp; done) | (simp [*]; done)), H', ⟨by have := HK1.out; omega⟩, ⟨by (with_reducible repeat (first | apply Kd.R_alloc | apply Kd.R_drewN | apply Kd.R_drew)); exact HO_6.out⟩, ⟨by (with_reducible repeat (first | apply Kd.R_alloc | apply Kd.R_drewN | apply Kd.R_drew)); exact HO_8.out⟩, ⟨by repeat (first | (with_reducible first | exact HB.out | apply below_alloc | apply pw_below_drewN | apply below_drew1) | exact HB.out)⟩⟩
              · replace c11 := Bool.eq_false_iff.mpr c11
                subst c11
                have H1 : (if x8_1.length < 3518437208883 then (barqueref10_Drop.l0 k1 a1 t408 (x8_1 ++ [(⟨(rd_T33 t408 x9_1).f0, (rd_T33 t408 x9_1).f1, (rd_T33 t408 x9_1).f2⟩ : S33)]) (wrap64 (x9_1 + 1))) else (none)) = some (r1, r2) := by rw [if_neg (show ¬ (false = true) by decide)] at H; exact H
                clear H
                have H := H1
                clear H1
                by_cases c13 : x8_1.length < 3518437208883
                · rw [if_pos c13] at H
                  have LMc13 := Aside0.mk c13
                  clear c13
                  obtain ⟨y416, hy416⟩ : ∃ y_ : List (S33), y_ = (x8_1 ++ [(⟨(rd_T33 t408 x9_1).f0, (rd_T33 t408 x9_1).f1, (rd_T33 t408 x9_1).f2⟩ : S33)]) := ⟨_, rfl⟩
                  replace H : (barqueref10_Drop.l0 k1 a1 t408 y416 (wrap64 (x9_1 + 1))) = some (r1, r2) := by first | (rw [hy416]; with_reducible exact H) | (have H2_ := (Option.bind_some _ _).symm.trans H; rw [hy416]; with_reducible exact H2_) | (have H2_ := (Option.bind_some _ _).symm.trans H; with_reducible exact H2_) | with_reducible exact H | (rw [hy416]; exact H) | exact H
                  have Ny416 := Aside0.mk hy416
                  clear hy416
                  have H' := Aside0.mk H
                  clear H
                  obtain ⟨Ao14, co14, eo14⟩ := Kd.R_slice HO_6.out
                  subst eo14
                  have p412 : 0 ≤ (x9_1 : Int) := of_decide_eq_true (by first | (with_reducible assumption) | assumption)
                  have q412 : x9_1 < (t408.length : Int) := of_decide_eq_true (by first | (with_reducible assumption) | assumption)
                  obtain ⟨ad412, e412, hx412_0, hx412_1, hx412_2⟩ := at_T33 (Kd.R_reads' HO_6.out).2.2 x9_1 p412 q412
                  cases e412
                  replace p412 := eq_true p412
                  replace q412 := eq_true q412
                  have p413 : 0 ≤ (x9_1 : Int) := of_decide_eq_true (by first | (with_reducible assumption) | assumption)
                  have q413 : x9_1 < (t408.length : Int) := of_decide_eq_true (by first | (with_reducible assumption) | assumption)
                  obtain ⟨ad413, e413, hx413_0, hx413_1, hx413_2⟩ := at_T33 (Kd.R_reads' HO_6.out).2.2 x9_1 p413 q413
                  obtain rfl : ad412 = ad413 := (by injection e413)
                  replace p413 := eq_true p413
                  replace q413 := eq_true q413
                  go_wp2_with (first | (go_at_call 40; (with_reducible refine (barqueref09_Within.calls ((rd_T33 t408 x9_1).f0) a1 false _ A10.out).mono ?_); rintro e w' ⟨rfl, ⟨nd, rfl⟩⟩; have p415 : 0 ≤ (x9_1 : Int) := of_decide_eq_true (by first | (with_reducible assumption) | assumption); have q415 : x9_1 < (t408.length : Int) := of_decide_eq_true (by first | (with_reducible assumption) | assumption); obtain ⟨ad415, e415, hx415_0, hx415_1, hx415_2⟩ := at_T33 (Kd.R_reads' HO_6.out).2.2 x9_1 p415 q415; obtain rfl : ad412 = ad415 := (by injection e415); replace p415 := eq_true p415; replace q415 := eq_true q415) | ((with_reducible refine gate_builtin (b := .append) (xs := #[.tmp 41, .tmp 46]) rfl ?_); at_builtin; refine Kd.R_append k33 (w0 := w) w.heap.size rfl (.tmp 41) (.tmp 46) 22 33 (.agg #[(.string ⟨#[]⟩), (.int .i64 0), (.string ⟨#[]⟩)]) 40 rfl Tryd.underlying22 info33 rfl (by decide) (by omega) u8 x8_1 (⟨(rd_T33 t408 x9_1).f0, (rd_T33 t408 x9_1).f1, (rd_T33 t408 x9_1).f2⟩ : S33) [.string ((rd_T33 t408 x9_1).f0), .int .i64 ((rd_T33 t408 x9_1).f1), .string ((rd_T33 t408 x9_1).f2)] (fun k_ => some k_ ≠ (.slice (some ad412) t408.length co14 : Value).ownBlock) (fun _ => False) rfl rfl ?aP (fun _ hk => hk.elim) ?aF ?aO ?aB ?aS ?aL ?_; (case aP => exact k33_mkM _ _ _ (⟨(rd_T33 t408 x9_1).f0, (rd_T33 t408 x9_1).f1, (rd_T33 t408 x9_1).f2⟩ : S33)); (case aB => exact (by repeat (first | (with_reducible first | exact HB.out | apply below_alloc | apply pw_below_drewN | apply below_drew1) | exact HB.out))); (case aF => exact (fun k_ hk => Kd.fresh' (Kd.R_lt (by (with_reducible repeat (first | apply Kd.R_alloc | apply Kd.R_drewN | apply Kd.R_drew)); exact HO_6.out)) k_ hk)); (case aO => exact (by (with_reducible repeat (first | apply Kd.R_alloc | apply Kd.R_drewN | apply Kd.R_drew)); exact HO_8.out)); (case aS => exact (below_size (by repeat (first | (with_reducible first | exact HB.out | apply below_alloc | apply pw_below_drewN | apply below_drew1) | exact HB.out)))); (case aL => have := LMc13.out; omega); intro v417 w15 ho hb hg hat; rw [← Ny416.out] at ho; have n0_ := Aside0.mk (Kd.R_after (ok := (fun _ => True)) (by (with_reducible repeat (first | apply Kd.R_alloc | apply Kd.R_drewN | apply Kd.R_drew)); exact Kd.R_mono HO_6.out (fun _ hk => ⟨trivial, hk⟩)) hg hat); have n1_ := Aside0.mk (hb); have n2_ := Aside0.mk (ho); clear HO_6; clear HB; clear HO_8; have HO_6 := n0_; have HB := n1_; have HO418 := n2_; clear n0_ n1_ n2_; clear ho hb hg hat))
                  go_roundg k1
                  case measure => have := HK1.out; omega
                  case rel => exact ⟨(y416), (wrap64 (x9_1 + 1)), (by first | rfl | (simp; done) | (simp [*]; done)), H', ⟨by have := HK1.out; omega⟩, ⟨by (with_reducible repeat (first | apply Kd.R_alloc | apply Kd.R_drewN | apply Kd.R_drew)); exact Kd.R_mono HO_6.out (fun _ hk => hk.2)⟩, ⟨by (with_reducible repeat (first | apply Kd.R_alloc | apply Kd.R_drewN | apply Kd.R_drew)); exact HO418.out⟩, ⟨by repeat (first | (with_reducible first | exact HB.out | apply below_alloc | apply pw_below_drewN | apply below_drew1) | exact HB.out)⟩⟩
                · rw [if_neg c13] at H
                  exact absurd H (by simp)
          · rw [if_neg c7] at H
            exact absurd H (by simp)
        · rw [if_neg c6] at H
          have c6b0 : decide (x9_1 < (t408.length : Int)) = false := decide_eq_false c6
          clear c6
          by_cases c16 : (x8_1.length : Int) = (t408.length : Int)
          · rw [if_pos c16] at H
            have c16b0 : ((x8_1.length : Int) == (t408.length : Int)) = true := beq_iff_eq.mpr c16
            have c16b1 : ((x8_1.length : Int) != (t408.length : Int)) = false := bne_eq_false_iff_eq.mpr c16
            have c16b2 : (x8_1.length == t408.length) = true := by first | simpa using c16 | (simp at c16 ⊢; omega)
            clear c16
            simp only [Option.some.injEq, Prod.mk.injEq] at H
            obtain ⟨rfl, rfl⟩ := H
            obtain ⟨Ao17, co17, eo17⟩ := Kd.R_slice HO_6.out
            subst eo17
            obtain ⟨Ao18, co18, eo18⟩ := Kd.R_slice HO_8.out
            subst eo18
            go_wp2
            go_ret2
            exact ⟨by first | rfl | (simp [errW_none, errW_some] <;> rfl) | (simp [*, errW_none, errW_some] <;> rfl), by repeat (first | (with_reducible first | exact HB.out | apply below_alloc | apply pw_below_drewN | apply below_drew1) | exact HB.out)⟩
          · rw [if_neg c16] at H
            have c16b0 : ((x8_1.length : Int) == (t408.length : Int)) = false := beq_eq_false_iff_ne.mpr c16
            have c16b1 : ((x8_1.length : Int) != (t408.length : Int)) = true := bne_iff_ne.mpr c16
            have c16b2 : (x8_1.length == t408.length) = false := by first | simpa using c16 | (simp at c16 ⊢; omega)
            replace H := Option.bind_eq_some_iff.mp H
            obtain ⟨⟨t419, t420⟩, A190, H⟩ := H
            replace H : (some (t419, t420)) = some (r1, r2) := H
            have A19 := Aside0.mk A190
            clear A190
            simp only [Option.some.injEq, Prod.mk.injEq] at H
            obtain ⟨rfl, rfl⟩ := H
            obtain ⟨Ao20, co20, eo20⟩ := Kd.R_slice HO_6.out
            subst eo20
            obtain ⟨Ao21, co21, eo21⟩ := Kd.R_slice HO_8.out
            subst eo21
            go_wp2_with (first | ((with_reducible refine gate_callee (f := 13) rfl ?_); refine goesL_ (some 54) rfl rfl Tryd.func13 (by kernel_rfl) rfl #[.slice Ao21 x8_1.length co21] rfl (by (try simp only [List.map_toArray, List.map_cons, List.map_nil]); first | done | rfl | (simp only [List.length_drop, List.length_take]; rfl)) ?_; (with_reducible refine (barqueref10_Of.calls k1 _ _ x8_1 t419 t420 _ ?side1 ?side2 A19.out).mono ?_); (case side1 => repeat (first | exact (Kd.R_reads' HO_8.out).2.2 | (with_reducible refine Kd.C_alloc ?_ _) | (with_reducible refine Kd.C_drewN ?_ _) | (with_reducible refine Kd.C_drew ?_))); (case side2 => exact (Kd.R_reads' HO_8.out).2.1); rintro e w22 ⟨rfl, hb⟩; refine ⟨_, rfl, ?_⟩; have n0_ := Aside0.mk (Kd.R_below (by (with_reducible repeat (first | apply Kd.R_alloc | apply Kd.R_drewN | apply Kd.R_drew)); exact HO_6.out) hb); have n1_ := Aside0.mk (Kd.R_below (by (with_reducible repeat (first | apply Kd.R_alloc | apply Kd.R_drewN | apply Kd.R_drew)); exact HO_8.out) hb); have n2_ := Aside0.mk (below_step (by repeat (first | (with_reducible first | exact HB.out | apply below_alloc | apply pw_below_drewN | apply below_drew1) | exact HB.out)) hb); clear HO_6; clear HO_8; clear HB; have HO_6 := n0_; have HO_8 := n1_; have HB := n2_; clear n0_ n1_ n2_; (try clear hb); (try clear hb2); (try clear hk); (try clear hi)))
            go_ret2
            exact ⟨by first | rfl | (simp [errW_none, errW_some] <;> rfl) | (simp [*, errW_none, errW_some] <;> rfl), by repeat (first | (with_reducible first | exact HB.out | apply below_alloc | apply pw_below_drewN | apply below_drew1) | exact HB.out)⟩
  · rw [if_neg c4] at H
    have c4b0 : (t409 == 0) = false := beq_eq_false_iff_ne.mpr c4
    have c4b1 : (t409 != 0) = true := bne_iff_ne.mpr c4
    simp only [Option.some.injEq, Prod.mk.injEq] at H
    obtain ⟨rfl, rfl⟩ := H
    go_enter Tryd.func21, Tryd.ntmps21
    go_wp2_with (first | ((with_reducible refine gate_callee (f := 18) rfl ?_); refine goesL_ (some 12) rfl rfl Tryd.func18 (by kernel_rfl) rfl #[.string a0] rfl (by (try simp only [List.map_toArray, List.map_cons, List.map_nil]); first | done | rfl | (simp only [List.length_drop, List.length_take]; rfl)) ?_; (with_reducible refine (barqueref10_Tree.calls k a0 t408 t409 _ A3.out).mono ?_); rintro e w23 ⟨v410, rfl, ho0, hb⟩; refine ⟨_, rfl, ?_⟩; have n0_ := Aside0.mk (Kd.R_lower ho0 (below_size (by repeat (first | (with_reducible first | exact HB.out | apply below_alloc | apply pw_below_drewN | apply below_drew1) | exact HB.out)))); have n1_ := Aside0.mk (below_step (by repeat (first | (with_reducible first | exact HB.out | apply below_alloc | apply pw_below_drewN | apply below_drew1) | exact HB.out)) hb); clear HB; have HO411 := n0_; have HB := n1_; clear n0_ n1_; (try clear hb); (try clear hb2); (try clear hk); (try clear hi); (try clear ho0)))
    go_ret2
    exact ⟨by first | rfl | (simp [errW_none, errW_some] <;> rfl) | (simp [*, errW_none, errW_some] <;> rfl), by repeat (first | (with_reducible first | exact HB.out | apply below_alloc | apply pw_below_drewN | apply below_drew1) | exact HB.out)⟩
end Go.Proofs.YtmeofdpmddjbgaaDoor.G
end
section
namespace Go.Proofs.YtmeofdpmddjbgaaDoor.G
open Go.RowKit Go.Proofs.YtmeofdpmddjbgaaDoorW.PrintWords Go.Proofs.YtmeofdpmddjbgaaDoorW.PrintLast Go.Proofs.YtmeofdpmddjbgaaDoorW.PrintMore
set_option linter.unusedVariables false
set_option linter.unusedSimpArgs false
/-- Does a file stay, when a path goes? -/
def stays (p : ByteArray) (x : S33) : Bool := if x.f0.toList = p.toList then false else !(withinB x.f0.data.toList p.data.toList)
def dropE (s p : ByteArray) : ByteArray × Int := if (treeE s).2 = 0 then (if ((treeE s).1.filter (stays p)).length = (treeE s).1.length then (⟨#[]⟩, 8) else imageE ((treeE s).1.filter (stays p))) else (⟨#[]⟩, (treeE s).2)
theorem filter_snoc_ (p : ByteArray) (l : List S33) (i : Nat) (h : i < l.length) : (l.take (i + 1)).filter (stays p) = if stays p (l[i]'h) = true then (l.take i).filter (stays p) ++ [l[i]'h] else (l.take i).filter (stays p) := by
  rw [List.take_succ_eq_append_getElem h, List.filter_append]
  cases e : stays p (l[i]'h) <;> simp [List.filter_cons, e]
theorem drop_end (l : List S33) (hl : l.length ≤ 256) (out : List S33) (ho : out.length ≤ 256) : Ev (fun k => if (out.length : Int) = (l.length : Int) then some ((⟨#[]⟩ : ByteArray), (8 : Int)) else ((image_Of.f k out).bind fun bt406 => (some (bt406.1, bt406.2)))) (if out.length = l.length then (⟨#[]⟩, 8) else imageE out) := by
  by_cases c : out.length = l.length
  · have c2 : (out.length : Int) = (l.length : Int) := by omega
    simp only [c, ↓reduceIte]
    exact Ev.now _
  · have c2 : ¬ (out.length : Int) = (l.length : Int) := by omega
    simp only [c, c2, ↓reduceIte]
    exact Ev.bind (imageOf_ev out (by omega)) (Ev.now _)
theorem refdrop_end (l : List S33) (hl : l.length ≤ 256) (out : List S33) (ho : out.length ≤ 256) : Ev (fun k => if (out.length : Int) = (l.length : Int) then some ((⟨#[]⟩ : ByteArray), (8 : Int)) else ((barqueref10_Of.f k out).bind fun bt406 => (some (bt406.1, bt406.2)))) (if out.length = l.length then (⟨#[]⟩, 8) else imageE out) := by
  by_cases c : out.length = l.length
  · have c2 : (out.length : Int) = (l.length : Int) := by omega
    simp only [c, ↓reduceIte]
    exact Ev.now _
  · have c2 : ¬ (out.length : Int) = (l.length : Int) := by omega
    simp only [c, c2, ↓reduceIte]
    exact Ev.bind (refOf_ev out (by omega)) (Ev.now _)
theorem filt_len (p : ByteArray) (l : List S33) (i : Nat) (hl : l.length ≤ 256) : ((l.take i).filter (stays p)).length ≤ 256 :=
  Nat.le_trans (List.length_filter_le _ _) (by rw [List.length_take]; omega)
theorem imagedrop_l0 (p : ByteArray) (l : List S33) (hl : l.length ≤ 256) : ∀ (d i : Nat), l.length - i = d → i ≤ l.length →
    Ev (fun k => image_Drop.l0 k p l ((l.take i).filter (stays p)) l (l.length : Int) (i : Int)) (if (l.filter (stays p)).length = l.length then (⟨#[]⟩, 8) else imageE (l.filter (stays p))) := by
  intro d
  induction d with
  | zero =>
    intro i hd hi
    have e : i = l.length := by omega
    subst e
    have hfl := filt_len p l l.length hl
    rw [List.take_length] at hfl ⊢
    apply Ev.step
    · intro k; rw [image_Drop.l0]
    have c1 : ¬ ((l.length : Int) < (l.length : Int)) := Int.lt_irrefl _
    simp only [c1, ↓reduceIte]
    exact drop_end l hl _ hfl
  | succ d ih =>
    intro i hd hi
    have hlt : i < l.length := by omega
    have ih := ih (i + 1) (by omega) (by omega)
    have hs := filter_snoc_ p l i hlt
    have hfl := filt_len p l i hl
    have c1 : ((i : Int) < (l.length : Int)) := by omega
    have c2 : (0 : Int) ≤ (i : Int) := by omega
    have c4 : ((l.take i).filter (stays p)).length < 3518437208883 := by omega
    have hw : wrap64 ((i : Int) + 1) = ((i + 1 : Nat) : Int) := by rw [w64_ (by omega) (by omega)]; omega
    have hr : rd_T33 l (i : Int) = l[i]'hlt := rdF_nat l i hlt
    obtain ⟨x, hx⟩ : ∃ x, l[i]'hlt = x := ⟨_, rfl⟩
    rw [hx] at hs hr
    rw [hs] at ih
    apply Ev.step
    · intro k; rw [image_Drop.l0]
    unfold stays at ih
    by_cases q : x.f0.toList = p.toList
    · rw [if_pos q] at ih
      simp only [Bool.false_eq_true, ↓reduceIte] at ih
      simp only [c1, c2, hr, q, ↓reduceIte, hw]
      exact ih
    · rw [if_neg q] at ih
      simp only [c1, c2, c4, hr, q, ↓reduceIte, hw, within_f, Option.bind_some]
      by_cases q2 : withinB x.f0.data.toList p.data.toList = true
      · simp only [q2, ↓reduceIte, Bool.not_true, Bool.false_eq_true] at ih ⊢
        exact ih
      · have q3 : withinB x.f0.data.toList p.data.toList = false := by simpa using q2
        simp only [q3, ↓reduceIte, Bool.not_false, Bool.false_eq_true] at ih ⊢
        exact ih
theorem refdrop_l0 (p : ByteArray) (hp : p.size ≤ 140737488351232) (l : List S33) (hl : l.length ≤ 256) : ∀ (d i : Nat), l.length - i = d → i ≤ l.length →
    Ev (fun k => barqueref10_Drop.l0 k p l ((l.take i).filter (stays p)) (i : Int)) (if (l.filter (stays p)).length = l.length then (⟨#[]⟩, 8) else imageE (l.filter (stays p))) := by
  intro d
  induction d with
  | zero =>
    intro i hd hi
    have e : i = l.length := by omega
    subst e
    have hfl := filt_len p l l.length hl
    rw [List.take_length] at hfl ⊢
    apply Ev.step
    · intro k; rw [barqueref10_Drop.l0]
    have c1 : ¬ ((l.length : Int) < (l.length : Int)) := Int.lt_irrefl _
    simp only [c1, ↓reduceIte]
    exact refdrop_end l hl _ hfl
  | succ d ih =>
    intro i hd hi
    have hlt : i < l.length := by omega
    have ih := ih (i + 1) (by omega) (by omega)
    have hs := filter_snoc_ p l i hlt
    have hfl := filt_len p l i hl
    have c1 : ((i : Int) < (l.length : Int)) := by omega
    have c2 : (0 : Int) ≤ (i : Int) := by omega
    have c4 : ((l.take i).filter (stays p)).length < 3518437208883 := by omega
    have hw : wrap64 ((i : Int) + 1) = ((i + 1 : Nat) : Int) := by rw [w64_ (by omega) (by omega)]; omega
    have hr : rd_T33 l (i : Int) = l[i]'hlt := rdF_nat l i hlt
    obtain ⟨x, hx⟩ : ∃ x, l[i]'hlt = x := ⟨_, rfl⟩
    rw [hx] at hs hr
    rw [hs] at ih
    have hwi := refwithin_f x.f0 p hp
    apply Ev.step
    · intro k; rw [barqueref10_Drop.l0]
    unfold stays at ih
    by_cases q : x.f0.toList = p.toList
    · rw [if_pos q] at ih
      simp only [Bool.false_eq_true, ↓reduceIte] at ih
      simp only [c1, c2, hr, q, ↓reduceIte, hw]
      exact ih
    · rw [if_neg q] at ih
      simp only [c1, c2, c4, hr, q, ↓reduceIte, hw, hwi, Option.bind_some]
      by_cases q2 : withinB x.f0.data.toList p.data.toList = true
      · simp only [q2, ↓reduceIte, Bool.not_true, Bool.false_eq_true] at ih ⊢
        exact ih
      · have q3 : withinB x.f0.data.toList p.data.toList = false := by simpa using q2
        simp only [q3, ↓reduceIte, Bool.not_false, Bool.false_eq_true] at ih ⊢
        exact ih
theorem imagedrop_ev (s p : ByteArray) (hs : s.size ≤ 140737488351232) : Ev (fun k => image_Drop.f k s p) (dropE s p) := by
  unfold image_Drop.f dropE
  have hl := treeE_length s
  refine Ev.bind (imagetree_ev s hs) ?_
  by_cases g : (treeE s).2 = 0
  · simp only [g, ↓reduceIte]
    exact imagedrop_l0 p _ hl _ 0 rfl (Nat.zero_le _)
  · simp only [g, ↓reduceIte]
    exact Ev.now _
theorem refdrop_ev (s p : ByteArray) (hs : s.size ≤ 140737488351232) (hp : p.size ≤ 140737488351232) : Ev (fun k => barqueref10_Drop.f k s p) (dropE s p) := by
  unfold barqueref10_Drop.f dropE
  have hl := treeE_length s
  refine Ev.bind (reftree_ev s hs) ?_
  by_cases g : (treeE s).2 = 0
  · simp only [g, ↓reduceIte]
    exact refdrop_l0 p hp _ hl _ 0 rfl (Nat.zero_le _)
  · simp only [g, ↓reduceIte]
    exact Ev.now _
end Go.Proofs.YtmeofdpmddjbgaaDoor.G
end
section
namespace Go.Proofs.YtmeofdpmddjbgaaDoor.G
open Go.RowKit Go.Proofs.YtmeofdpmddjbgaaDoorW.PrintWords Go.Proofs.YtmeofdpmddjbgaaDoorW.PrintLast Go.Proofs.YtmeofdpmddjbgaaDoorW.PrintMore
attribute [local go_sem] max2_int min2_int max_two min_two max_three min_three max_four min_four   -- for this text's walks alone
set_option linter.unusedVariables false
set_option linter.unusedSimpArgs false
def barquelaw10_ImageDrops.f (k : Nat) (a0 : ByteArray) (a1 : ByteArray) : Option (Bool) := (barquelaw10_cut.f a0).bind fun t421 => ((image_Drop.f k t421 a1).bind fun bt422 => ((barqueref10_Drop.f k t421 a1).bind fun bt424 => (if bt422.1.toList = bt424.1.toList then (if bt422.2 = bt424.2 then ((barquelaw10_awake.f k).bind fun t426 => (some t426)) else (some false)) else (some false))))
theorem barquelaw10_ImageDrops.mono : ∀ a0 a1 k, LeO (barquelaw10_ImageDrops.f k a0 a1) (barquelaw10_ImageDrops.f (k + 1) a0 a1) := by
  intro a0 a1 k
  unfold barquelaw10_ImageDrops.f
  repeat' first
      | (with_reducible exact barquelaw10_awake.mono _)
      | (with_reducible exact barqueref10_Drop.mono _ _ _)
      | (with_reducible exact image_Drop.mono _ _ _)
      | (with_reducible exact LeO.refl _)
      | (with_reducible exact LeO.none _)
      | (with_reducible refine LeO.ite ?_ ?_)
      | (with_reducible refine LeO.bind ?_ (fun _ => ?_))
      | exact barquelaw10_awake.mono _
      | exact barqueref10_Drop.mono _ _ _
      | exact image_Drop.mono _ _ _
      | exact LeO.none _
      | refine LeO.ite ?_ ?_
      | refine LeO.bind ?_ (fun _ => ?_)
set_option maxHeartbeats 8000000 in
set_option maxRecDepth 100000 in
theorem barquelaw10_ImageDrops.calls (k : Nat) (a0 : ByteArray) (a1 : ByteArray) (r : Bool) (w : World) (h : barquelaw10_ImageDrops.f k a0 a1 = some r) :
    Calls Tryd.prog 7 #[.string a0, .string a1] w fun e w' => e = .returned (.bool r) ∧ Below w.heap.size w w' := by
  have HB := Aside0.mk (Below.refl w.heap.size w)
  have H : ((barquelaw10_cut.f a0).bind fun t421 => ((image_Drop.f k t421 a1).bind fun bt422 => ((barqueref10_Drop.f k t421 a1).bind fun bt424 => (if bt422.1.toList = bt424.1.toList then (if bt422.2 = bt424.2 then ((barquelaw10_awake.f k).bind fun t426 => (some t426)) else (some false)) else (some false))))) = some r := h
  clear h
  replace H := Option.bind_eq_some_iff.mp H
  obtain ⟨t421, A30, H⟩ := H
  replace H : ((image_Drop.f k t421 a1).bind fun bt422 => ((barqueref10_Drop.f k t421 a1).bind fun bt424 => (if bt422.1.toList = bt424.1.toList then (if bt422.2 = bt424.2 then ((barquelaw10_awake.f k).bind fun t426 => (some t426)) else (some false)) else (some false)))) = some r := H
  have A3 := Aside0.mk A30
  clear A30
  replace H := Option.bind_eq_some_iff.mp H
  obtain ⟨⟨t422, t423⟩, A40, H⟩ := H
  replace H : ((barqueref10_Drop.f k t421 a1).bind fun bt424 => (if t422.toList = bt424.1.toList then (if t423 = bt424.2 then ((barquelaw10_awake.f k).bind fun t426 => (some t426)) else (some false)) else (some false))) = some r := H
  have A4 := Aside0.mk A40
  clear A40
  replace H := Option.bind_eq_some_iff.mp H
  obtain ⟨⟨t424, t425⟩, A50, H⟩ := H
  replace H : (if t422.toList = t424.toList then (if t423 = t425 then ((barquelaw10_awake.f k).bind fun t426 => (some t426)) else (some false)) else (some false)) = some r := H
  have A5 := Aside0.mk A50
  clear A50
  by_cases c6 : t422.toList = t424.toList
  · rw [if_pos c6] at H
    have c6b0 : (t422.toList == t424.toList) = true := beq_iff_eq.mpr c6
    have c6b1 : (t422.toList != t424.toList) = false := bne_eq_false_iff_eq.mpr c6
    clear c6
    by_cases c7 : t423 = t425
    · rw [if_pos c7] at H
      have c7b0 : (t423 == t425) = true := beq_iff_eq.mpr c7
      have c7b1 : (t423 != t425) = false := bne_eq_false_iff_eq.mpr c7
      clear c7
      replace H := Option.bind_eq_some_iff.mp H
      obtain ⟨t426, A80, H⟩ := H
      replace H : (some t426) = some r := H
      have A8 := Aside0.mk A80
      clear A80
      obtain rfl := Option.some.inj H
      go_enter Tryd.func7, Tryd.ntmps7
      go_wp2_with (first | ((with_reducible refine gate_callee (f := 16) rfl ?_); refine goesL_ (some 10) rfl rfl Tryd.func16 (by kernel_rfl) rfl #[.string a0] rfl (by (try simp only [List.map_toArray, List.map_cons, List.map_nil]); first | done | rfl | (simp only [List.length_drop, List.length_take]; rfl)) ?_; (with_reducible refine (barquelaw10_cut.calls a0 t421 _ A3.out).mono ?_); rintro e w' ⟨rfl, ⟨nd, rfl⟩⟩; refine ⟨_, rfl, ?_⟩) | ((with_reducible refine gate_callee (f := 20) rfl ?_); refine goesL_ (some 14) rfl rfl Tryd.func20 (by kernel_rfl) rfl #[.string t421, .string a1] rfl (by (try simp only [List.map_toArray, List.map_cons, List.map_nil]); first | done | rfl | (simp only [List.length_drop, List.length_take]; rfl)) ?_; (with_reducible refine (image_Drop.calls k t421 a1 t422 t423 _ A4.out).mono ?_); rintro e w9 ⟨rfl, hb⟩; refine ⟨_, rfl, ?_⟩; have n0_ := Aside0.mk (below_step (by repeat (first | (with_reducible first | exact HB.out | apply below_alloc | apply pw_below_drewN | apply below_drew1) | exact HB.out)) hb); clear HB; have HB := n0_; clear n0_; (try clear hb); (try clear hb2); (try clear hk); (try clear hi)) | ((with_reducible refine gate_callee (f := 21) rfl ?_); refine goesL_ (some 20) rfl rfl Tryd.func21 (by kernel_rfl) rfl #[.string t421, .string a1] rfl (by (try simp only [List.map_toArray, List.map_cons, List.map_nil]); first | done | rfl | (simp only [List.length_drop, List.length_take]; rfl)) ?_; (with_reducible refine (barqueref10_Drop.calls k t421 a1 t424 t425 _ A5.out).mono ?_); rintro e w10 ⟨rfl, hb⟩; refine ⟨_, rfl, ?_⟩; have n0_ := Aside0.mk (below_step (by repeat (first | (with_reducible first | exact HB.out | apply below_alloc | apply pw_below_drewN | apply below_drew1) | exact HB.out)) hb); clear HB; have HB := n0_; clear n0_; (try clear hb); (try clear hb2); (try clear hk); (try clear hi)) | (go_at_call 15; (with_reducible refine (barquelaw10_awake.calls k  t426 _ A8.out).mono ?_); rintro e w11 ⟨rfl, hb⟩; have n0_ := Aside0.mk (below_step (by repeat (first | (with_reducible first | exact HB.out | apply below_alloc | apply pw_below_drewN | apply below_drew1) | exact HB.out)) hb); clear HB; have HB := n0_; clear n0_; (try clear hb); (try clear hb2); (try clear hk); (try clear hi)))
      go_ret
      exact ⟨by first | rfl | (simp [errW_none, errW_some] <;> rfl) | (simp [*, errW_none, errW_some] <;> rfl), by repeat (first | (with_reducible first | exact HB.out | apply below_alloc | apply pw_below_drewN | apply below_drew1) | exact HB.out)⟩
    · rw [if_neg c7] at H
      have c7b0 : (t423 == t425) = false := beq_eq_false_iff_ne.mpr c7
      have c7b1 : (t423 != t425) = true := bne_iff_ne.mpr c7
      obtain rfl := Option.some.inj H
      go_enter Tryd.func7, Tryd.ntmps7
      go_wp2_with (first | ((with_reducible refine gate_callee (f := 16) rfl ?_); refine goesL_ (some 10) rfl rfl Tryd.func16 (by kernel_rfl) rfl #[.string a0] rfl (by (try simp only [List.map_toArray, List.map_cons, List.map_nil]); first | done | rfl | (simp only [List.length_drop, List.length_take]; rfl)) ?_; (with_reducible refine (barquelaw10_cut.calls a0 t421 _ A3.out).mono ?_); rintro e w' ⟨rfl, ⟨nd, rfl⟩⟩; refine ⟨_, rfl, ?_⟩) | ((with_reducible refine gate_callee (f := 20) rfl ?_); refine goesL_ (some 14) rfl rfl Tryd.func20 (by kernel_rfl) rfl #[.string t421, .string a1] rfl (by (try simp only [List.map_toArray, List.map_cons, List.map_nil]); first | done | rfl | (simp only [List.length_drop, List.length_take]; rfl)) ?_; (with_reducible refine (image_Drop.calls k t421 a1 t422 t423 _ A4.out).mono ?_); rintro e w12 ⟨rfl, hb⟩; refine ⟨_, rfl, ?_⟩; have n0_ := Aside0.mk (below_step (by repeat (first | (with_reducible first | exact HB.out | apply below_alloc | apply pw_below_drewN | apply below_drew1) | exact HB.out)) hb); clear HB; have HB := n0_; clear n0_; (try clear hb); (try clear hb2); (try clear hk); (try clear hi)) | ((with_reducible refine gate_callee (f := 21) rfl ?_); refine goesL_ (some 20) rfl rfl Tryd.func21 (by kernel_rfl) rfl #[.string t421, .string a1] rfl (by (try simp only [List.map_toArray, List.map_cons, List.map_nil]); first | done | rfl | (simp only [List.length_drop, List.length_take]; rfl)) ?_; (with_reducible refine (barqueref10_Drop.calls k t421 a1 t424 t425 _ A5.out).mono ?_); rintro e w13 ⟨rfl, hb⟩; refine ⟨_, rfl, ?_⟩; have n0_ := Aside0.mk (below_step (by repeat (first | (with_reducible first | exact HB.out | apply below_alloc | apply pw_below_drewN | apply below_drew1) | exact HB.out)) hb); clear HB; have HB := n0_; clear n0_; (try clear hb); (try clear hb2); (try clear hk); (try clear hi)))
      go_ret
      exact ⟨by first | rfl | (simp [errW_none, errW_some] <;> rfl) | (simp [*, errW_none, errW_some] <;> rfl), by repeat (first | (with_reducible first | exact HB.out | apply below_alloc | apply pw_below_drewN | apply below_drew1) | exact HB.out)⟩
  · rw [if_neg c6] at H
    have c6b0 : (t422.toList == t424.toList) = false := beq_eq_false_iff_ne.mpr c6
    have c6b1 : (t422.toList != t424.toList) = true := bne_iff_ne.mpr c6
    obtain rfl := Option.some.inj H
    go_enter Tryd.func7, Tryd.ntmps7
    go_wp2_with (first | ((with_reducible refine gate_callee (f := 16) rfl ?_); refine goesL_ (some 10) rfl rfl Tryd.func16 (by kernel_rfl) rfl #[.string a0] rfl (by (try simp only [List.map_toArray, List.map_cons, List.map_nil]); first | done | rfl | (simp only [List.length_drop, List.length_take]; rfl)) ?_; (with_reducible refine (barquelaw10_cut.calls a0 t421 _ A3.out).mono ?_); rintro e w' ⟨rfl, ⟨nd, rfl⟩⟩; refine ⟨_, rfl, ?_⟩) | ((with_reducible refine gate_callee (f := 20) rfl ?_); refine goesL_ (some 14) rfl rfl Tryd.func20 (by kernel_rfl) rfl #[.string t421, .string a1] rfl (by (try simp only [List.map_toArray, List.map_cons, List.map_nil]); first | done | rfl | (simp only [List.length_drop, List.length_take]; rfl)) ?_; (with_reducible refine (image_Drop.calls k t421 a1 t422 t423 _ A4.out).mono ?_); rintro e w14 ⟨rfl, hb⟩; refine ⟨_, rfl, ?_⟩; have n0_ := Aside0.mk (below_step (by repeat (first | (with_reducible first | exact HB.out | apply below_alloc | apply pw_below_drewN | apply below_drew1) | exact HB.out)) hb); clear HB; have HB := n0_; clear n0_; (try clear hb); (try clear hb2); (try clear hk); (try clear hi)) | ((with_reducible refine gate_callee (f := 21) rfl ?_); refine goesL_ (some 20) rfl rfl Tryd.func21 (by kernel_rfl) rfl #[.string t421, .string a1] rfl (by (try simp only [List.map_toArray, List.map_cons, List.map_nil]); first | done | rfl | (simp only [List.length_drop, List.length_take]; rfl)) ?_; (with_reducible refine (barqueref10_Drop.calls k t421 a1 t424 t425 _ A5.out).mono ?_); rintro e w15 ⟨rfl, hb⟩; refine ⟨_, rfl, ?_⟩; have n0_ := Aside0.mk (below_step (by repeat (first | (with_reducible first | exact HB.out | apply below_alloc | apply pw_below_drewN | apply below_drew1) | exact HB.out)) hb); clear HB; have HB := n0_; clear n0_; (try clear hb); (try clear hb2); (try clear hk); (try clear hi)))
    go_ret
    exact ⟨by first | rfl | (simp [errW_none, errW_some] <;> rfl) | (simp [*, errW_none, errW_some] <;> rfl), by repeat (first | (with_reducible first | exact HB.out | apply below_alloc | apply pw_below_drewN | apply below_drew1) | exact HB.out)⟩
end Go.Proofs.YtmeofdpmddjbgaaDoor.G
end
section
namespace Go.Proofs.YtmeofdpmddjbgaaDoor.G
open Go.RowKit Go.Proofs.YtmeofdpmddjbgaaDoorW.PrintWords Go.Proofs.YtmeofdpmddjbgaaDoorW.PrintLast Go.Proofs.YtmeofdpmddjbgaaDoorW.PrintMore
set_option linter.unusedVariables false
set_option linter.unusedSimpArgs false
theorem ImageDrops_pure (s p : ByteArray) (hs : s.size ≤ 140737488351232) (hp : p.size ≤ 140737488351232) : ∃ k, barquelaw10_ImageDrops.f k s p = some true := by
  refine Ev.rounds ?_
  unfold barquelaw10_ImageDrops.f
  obtain ⟨t, h1, h2⟩ := cut_f s
  simp only [h2, Option.bind_some]
  refine Ev.bind (imagedrop_ev t p (by omega)) (Ev.bind (refdrop_ev t p (by omega) hp) ?_)
  simp only [↓reduceIte]
  exact Ev.bind awakeI_ev (Ev.now _)
end Go.Proofs.YtmeofdpmddjbgaaDoor.G
end
