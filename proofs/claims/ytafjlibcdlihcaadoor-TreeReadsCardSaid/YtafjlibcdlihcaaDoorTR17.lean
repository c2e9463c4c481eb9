/- Texts of this session's claim of TreeReads, less what its theorem does not reach. No condition. -/
import Derived.Test.YtafjlibcdlihcaaDoorTR12
import Derived.Test.YtafjlibcdlihcaaDoorTR13
import Derived.Test.YtafjlibcdlihcaaDoorTR14
import Derived.Test.YtafjlibcdlihcaaDoorTR15
import Derived.Test.YtafjlibcdlihcaaDoorTR16
section
namespace Go.Proofs.YtafjlibcdlihcaaDoor.G
open Go.RowKit Go.Proofs.YtafjlibcdlihcaaDoorW.PrintWords Go.Proofs.YtafjlibcdlihcaaDoorW.PrintLast Go.Proofs.YtafjlibcdlihcaaDoorW.PrintMore
attribute [local go_sem] max2_int min2_int max_two min_two max_three min_three max_four min_four   -- for this text's walks alone
set_option linter.unusedVariables false
set_option linter.unusedSimpArgs false
def tree_Of.l0 : Nat → List (S56) → ByteArray → Int → Int → ByteArray → Int → Int → Option ((List (S56)) × Int)
 | 0, _, _, _, _, _, _, _ => none
 | k + 1, x5, x6, x15, x16, x651000, x651001, x651002 => if x16 < x15 then ((code_Reader_Count.f k x651000 x651001 x651002 200).bind fun bt655 => ((code_Reader_Text.f k bt655.2.1 bt655.2.2.1 bt655.2.2.2 200).bind fun bt659 => ((code_Reader_Num.f k bt659.2.1 bt659.2.2.1 bt659.2.2.2).bind fun bt663 => ((code_Reader_Num.f k bt663.2.1 bt663.2.2.1 bt663.2.2.2).bind fun bt667 => ((code_Reader_Raw.f bt667.2.1 bt667.2.2.1 bt667.2.2.2 32).bind fun bt671 => ((code_Reader_Err.f bt671.2.1 bt671.2.2.1 bt671.2.2.2).bind fun bt676 => (if bt676.1 = 0 then (if bt655.1 > (x6.size : Int) then (some (([] : List (S56)), 5)) else (if 0 ≤ bt655.1 then (if bt655.1 ≤ (x6.size : Int) then (if (x6.extract 0 (bt655.1 : Int).toNat).size + bt659.1.size ≤ 9223372036854775807 then ((tree_shared.f k x6 ((x6.extract 0 (bt655.1 : Int).toNat) ++ bt659.1)).bind fun t684 => (if t684 = bt655.1 then (if x5.length < 2932031007402 then (tree_Of.l0 k (x5 ++ [(⟨(x6.extract 0 (bt655.1 : Int).toNat) ++ bt659.1, bt663.1, bt667.1, bt671.1⟩ : S56)]) ((x6.extract 0 (bt655.1 : Int).toNat) ++ bt659.1) x15 (wrap64 (x16 + 1)) bt676.2.1 bt676.2.2.1 bt676.2.2.2) else (none)) else (some (([] : List (S56)), 5)))) else (none)) else (none)) else (none))) else ((code_Reader_Err.f bt676.2.1 bt676.2.2.1 bt676.2.2.2).bind fun bt680 => (some (([] : List (S56)), bt680.1)))))))))) else ((code_Reader_End.f k x651000 x651001 x651002).bind fun bt688 => (if bt688.1 = 0 then ((tree_Right.f k x5).bind fun t692 => (if t692 = 0 then (some (x5, 0)) else (some (([] : List (S56)), t692)))) else (some (([] : List (S56)), bt688.1))))
def tree_Of.f (k : Nat) (a0 : ByteArray) : Option ((List (S56)) × Int) := (code_Read.f a0).bind fun bt647 => ((code_Reader_Count.f k bt647.1 bt647.2.1 bt647.2.2 256).bind fun bt651 => (tree_Of.l0 k ([] : List (S56)) (⟨#[]⟩ : ByteArray) bt651.1 0 bt651.2.1 bt651.2.2.1 bt651.2.2.2))
theorem tree_Of.mono_l : ∀ k, (∀ y0 y1 y2 y3 y4 y5 y6, LeO (tree_Of.l0 k y0 y1 y2 y3 y4 y5 y6) (tree_Of.l0 (k + 1) y0 y1 y2 y3 y4 y5 y6))
 | 0 => fun _ _ _ _ _ _ _ r h => by simp [tree_Of.l0] at h
 | k + 1 => by
  have ih0 := tree_Of.mono_l k
  ·intro y0 y1 y2 y3 y4 y5 y6
   unfold tree_Of.l0
   repeat' first
   | (with_reducible exact ih0 _ _ _ _ _ _ _)
   | (with_reducible exact code_Reader_Count.mono _ _ _ _ _)
   | (with_reducible exact code_Reader_End.mono _ _ _ _)
   | (with_reducible exact code_Reader_Num.mono _ _ _ _)
   | (with_reducible exact code_Reader_Text.mono _ _ _ _ _)
   | (with_reducible exact tree_Right.mono _ _)
   | (with_reducible exact tree_shared.mono _ _ _)
   | (with_reducible exact LeO.refl _)
   | (with_reducible exact LeO.none _)
   | (with_reducible refine LeO.ite ?_ ?_)
   | (with_reducible refine LeO.bind ?_ (fun _ => ?_))
   | exact ih0 _ _ _ _ _ _ _
   | exact code_Reader_Count.mono _ _ _ _ _
   | exact code_Reader_End.mono _ _ _ _
   | exact code_Reader_Num.mono _ _ _ _
   | exact code_Reader_Text.mono _ _ _ _ _
   | exact tree_Right.mono _ _
   | exact tree_shared.mono _ _ _
   | exact LeO.none _
   | refine LeO.ite ?_ ?_
   | refine LeO.bind ?_ (fun _ => ?_)
theorem tree_Of.mono : ∀ a0 k, LeO (tree_Of.f k a0) (tree_Of.f (k + 1) a0) := by
 intro a0 k
 have ih0 := tree_Of.mono_l k
 unfold tree_Of.f
 repeat' first
   | (with_reducible exact ih0 _ _ _ _ _ _ _)
   | (with_reducible exact code_Reader_Count.mono _ _ _ _ _)
   | (with_reducible exact code_Reader_End.mono _ _ _ _)
   | (with_reducible exact code_Reader_Num.mono _ _ _ _)
   | (with_reducible exact code_Reader_Text.mono _ _ _ _ _)
   | (with_reducible exact tree_Right.mono _ _)
   | (with_reducible exact tree_shared.mono _ _ _)
   | (with_reducible exact LeO.refl _)
   | (with_reducible exact LeO.none _)
   | (with_reducible refine LeO.ite ?_ ?_)
   | (with_reducible refine LeO.bind ?_ (fun _ => ?_))
   | exact ih0 _ _ _ _ _ _ _
   | exact code_Reader_Count.mono _ _ _ _ _
   | exact code_Reader_End.mono _ _ _ _
   | exact code_Reader_Num.mono _ _ _ _
   | exact code_Reader_Text.mono _ _ _ _ _
   | exact tree_Right.mono _ _
   | exact tree_shared.mono _ _ _
   | exact LeO.none _
   | refine LeO.ite ?_ ?_
   | refine LeO.bind ?_ (fun _ => ?_)
set_option maxHeartbeats 8000000 in
set_option maxRecDepth 100000 in
theorem tree_Of.calls (k : Nat) (a0 : ByteArray) (r1 : List (S56)) (r2 : Int) (w : World) (h : tree_Of.f k a0 = some (r1, r2)) :
  Calls Tryd.prog 39 #[.string a0] w fun e w' => ∃ v0_ : Value, e = .returned (.tuple #[v0_, .int .i64 r2]) ∧ Kd.R k56 56 w' w.heap.size (fun _ => True) v0_ r1 ∧ Below w.heap.size w w' := by
 have hu56 := Tryd.underlying56
 have HB := Aside0.mk (Below.refl w.heap.size w)
 have H : ((code_Read.f a0).bind fun bt647 => ((code_Reader_Count.f k bt647.1 bt647.2.1 bt647.2.2 256).bind fun bt651 => (tree_Of.l0 k ([] : List (S56)) (⟨#[]⟩ : ByteArray) bt651.1 0 bt651.2.1 bt651.2.2.1 bt651.2.2.2))) = some (r1, r2) := h
 clear h
 replace H := Option.bind_eq_some_iff.mp H
 obtain ⟨⟨t647, t648, t649⟩, A20, H⟩ := H
 replace H : ((code_Reader_Count.f k t647 t648 t649 256).bind fun bt651 => (tree_Of.l0 k ([] : List (S56)) (⟨#[]⟩ : ByteArray) bt651.1 0 bt651.2.1 bt651.2.2.1 bt651.2.2.2)) = some (r1, r2) := H
 have A2 := Aside0.mk A20
 clear A20
 replace H := Option.bind_eq_some_iff.mp H
 obtain ⟨⟨t651, t652, t653, t654⟩, A30, H⟩ := H
 replace H : (tree_Of.l0 k ([] : List (S56)) (⟨#[]⟩ : ByteArray) t651 0 t652 t653 t654) = some (r1, r2) := H
 have A3 := Aside0.mk A30
 clear A30
 have H' := Aside0.mk H
 clear H
 go_enter Tryd.func39, Tryd.ntmps39
 go_wp2_with (first | ((with_reducible refine gate_callee (f := 69) rfl ?_); refine goesL_ (some 13) rfl rfl Tryd.func69 (by kernel_rfl) rfl #[.string a0] rfl (by (try simp only [List.map_toArray, List.map_cons, List.map_nil]); first | done | rfl | (simp only [List.length_drop, List.length_take]; rfl)) ?_; (with_reducible refine (code_Read.calls a0 t647 t648 t649 w _ ?side1 A2.out).mono ?_); (case side1 => repeat (first | (with_reducible first | exact HB.out | apply below_alloc | apply pw_below_drewN | apply below_drew1) | exact HB.out)); rintro e w4 ⟨g650, rfl, hi, hb, hb2⟩; refine ⟨_, rfl, ?_⟩; have n0_ := Aside0.mk (hb); have n1_ := Aside0.mk (hi); clear HB; have HB := n0_; have HI650 := n1_; clear n0_ n1_; (try clear hb); (try clear hb2); (try clear hk); (try clear hi)) | ((with_reducible refine gate_callee (f := 70) rfl ?_); refine goesL_ (some 15) rfl rfl Tryd.func70 (by kernel_rfl) rfl #[.pointer (some ⟨g650, 0, none⟩), .int .i64 256] rfl (by (try simp only [List.map_toArray, List.map_cons, List.map_nil]); first | done | rfl | (simp only [List.length_drop, List.length_take]; rfl)) ?_; (with_reducible refine (code_Reader_Count.calls k g650 t647 t648 t649 256 t651 t652 t653 t654 w _ ?side1 ?side2 A3.out).mono ?_); (case side1 => repeat (first | (with_reducible first | exact HI650.out | apply IsS105.alloc | apply IsS105.drewN | apply IsS105.drew | apply IsS105.set_0 | apply IsS105.set_1 | apply IsS105.set_2) | exact HI650.out)); (case side2 => repeat (first | (with_reducible first | exact HB.out | apply below_alloc | apply pw_below_drewN | apply below_drew1 | refine below_set ?_ (IsS105.ge HI650.out)) | exact HB.out)); rintro e w5 ⟨rfl, hi, hb, hk⟩; refine ⟨_, rfl, ?_⟩; have n0_ := Aside0.mk (hb); have n1_ := Aside0.mk (hi); clear HB; clear HI650; have HB := n0_; have HI650 := n1_; clear n0_ n1_; (try clear hb); (try clear hb2); (try clear hk); (try clear hi)))
 go_loopg [5, 6, 16] k (fun kq v5 v6 v16 w' => ∃ (x5_1 : List (S56)) (x6_1 : ByteArray) (x16_1 : Int) (x651000_1 : ByteArray) (x651001_1 : Int) (x651002_1 : Int), v6 = .string x6_1 ∧ v16 = .int .i64 x16_1 ∧ Aside0 (tree_Of.l0 kq x5_1 x6_1 t651 x16_1 x651000_1 x651001_1 x651002_1 = some (r1, r2)) ∧ Aside0 (kq ≤ k) ∧ Aside0 (Kd.R k56 56 w' w.heap.size (fun _ => True) v5 x5_1) ∧ Aside0 (IsS105 w w' g650 x651000_1 x651001_1 x651002_1) ∧ Aside0 (Below w.heap.size w w'))
 case atStart => exact ⟨(([] : List (S56))), ((⟨#[]⟩ : ByteArray)), (0), (t652), (t653), (t654), (by first | rfl | (simp; done) | (simp [*]; done)), (by first | rfl | (simp; done) | (simp [*]; done)), H', ⟨Nat.le_refl _⟩, ⟨by first | exact Kd.R_nil _ _ _ _ _ | exact Kd.N_nil _ _ _ _ _ | exact Kd.V_nil _ _ _ _ _ | exact Kd.Q_nil _ _ _ _ _ | exact Kd.S_nil _ _ _ _ _⟩, ⟨by repeat (first | (with_reducible first | exact HI650.out | apply IsS105.alloc | apply IsS105.drewN | apply IsS105.drew | apply IsS105.set_0 | apply IsS105.set_1 | apply IsS105.set_2) | exact HI650.out)⟩, ⟨by repeat (first | (with_reducible first | exact HB.out | apply below_alloc | apply pw_below_drewN | apply below_drew1 | refine below_set ?_ (IsS105.ge HI650.out)) | exact HB.out)⟩⟩
 case round =>
  clear H'
  try clear p2
  try clear c3
  obtain ⟨x5_1, x6_1, x16_1, x651000_1, x651001_1, x651002_1, rfl, rfl, HA, HK1, HO_5, HI650, HB⟩ := hrel
  cases gk with
  | zero => exact absurd HA.out (by simp [tree_Of.l0])
  | succ k1 =>
   have H := HA.out
   clear HA
   simp only [tree_Of.l0] at H
   by_cases c6 : x16_1 < t651
   ·rw [if_pos c6] at H
    have c6b0 : decide (x16_1 < t651) = true := decide_eq_true c6
    clear c6
    replace H := Option.bind_eq_some_iff.mp H
    obtain ⟨⟨t655, t656, t657, t658⟩, A70, H⟩ := H
    replace H : ((code_Reader_Text.f k1 t656 t657 t658 200).bind fun bt659 => ((code_Reader_Num.f k1 bt659.2.1 bt659.2.2.1 bt659.2.2.2).bind fun bt663 => ((code_Reader_Num.f k1 bt663.2.1 bt663.2.2.1 bt663.2.2.2).bind fun bt667 => ((code_Reader_Raw.f bt667.2.1 bt667.2.2.1 bt667.2.2.2 32).bind fun bt671 => ((code_Reader_Err.f bt671.2.1 bt671.2.2.1 bt671.2.2.2).bind fun bt676 => (if bt676.1 = 0 then (if t655 > (x6_1.size : Int) then (some (([] : List (S56)), 5)) else (if 0 ≤ t655 then (if t655 ≤ (x6_1.size : Int) then (if (x6_1.extract 0 (t655 : Int).toNat).size + bt659.1.size ≤ 9223372036854775807 then ((tree_shared.f k1 x6_1 ((x6_1.extract 0 (t655 : Int).toNat) ++ bt659.1)).bind fun t684 => (if t684 = t655 then (if x5_1.length < 2932031007402 then (tree_Of.l0 k1 (x5_1 ++ [(⟨(x6_1.extract 0 (t655 : Int).toNat) ++ bt659.1, bt663.1, bt667.1, bt671.1⟩ : S56)]) ((x6_1.extract 0 (t655 : Int).toNat) ++ bt659.1) t651 (wrap64 (x16_1 + 1)) bt676.2.1 bt676.2.2.1 bt676.2.2.2) else (none)) else (some (([] : List (S56)), 5)))) else (none)) else (none)) else (none))) else ((code_Reader_Err.f bt676.2.1 bt676.2.2.1 bt676.2.2.2).bind fun bt680 => (some (([] : List (S56)), bt680.1))))))))) = some (r1, r2) := H
    have A7 := Aside0.mk A70
    clear A70
    replace H := Option.bind_eq_some_iff.mp H
    obtain ⟨⟨t659, t660, t661, t662⟩, A80, H⟩ := H
    replace H : ((code_Reader_Num.f k1 t660 t661 t662).bind fun bt663 => ((code_Reader_Num.f k1 bt663.2.1 bt663.2.2.1 bt663.2.2.2).bind fun bt667 => ((code_Reader_Raw.f bt667.2.1 bt667.2.2.1 bt667.2.2.2 32).bind fun bt671 => ((code_Reader_Err.f bt671.2.1 bt671.2.2.1 bt671.2.2.2).bind fun bt676 => (if bt676.1 = 0 then (if t655 > (x6_1.size : Int) then (some (([] : List (S56)), 5)) else (if 0 ≤ t655 then (if t655 ≤ (x6_1.size : Int) then (if (x6_1.extract 0 (t655 : Int).toNat).size + t659.size ≤ 9223372036854775807 then ((tree_shared.f k1 x6_1 ((x6_1.extract 0 (t655 : Int).toNat) ++ t659)).bind fun t684 => (if t684 = t655 then (if x5_1.length < 2932031007402 then (tree_Of.l0 k1 (x5_1 ++ [(⟨(x6_1.extract 0 (t655 : Int).toNat) ++ t659, bt663.1, bt667.1, bt671.1⟩ : S56)]) ((x6_1.extract 0 (t655 : Int).toNat) ++ t659) t651 (wrap64 (x16_1 + 1)) bt676.2.1 bt676.2.2.1 bt676.2.2.2) else (none)) else (some (([] : List (S56)), 5)))) else (none)) else (none)) else (none))) else ((code_Reader_Err.f bt676.2.1 bt676.2.2.1 bt676.2.2.2).bind fun bt680 => (some (([] : List (S56)), bt680.1)))))))) = some (r1, r2) := H
    have A8 := Aside0.mk A80
    clear A80
    replace H := Option.bind_eq_some_iff.mp H
    obtain ⟨⟨t663, t664, t665, t666⟩, A90, H⟩ := H
    replace H : ((code_Reader_Num.f k1 t664 t665 t666).bind fun bt667 => ((code_Reader_Raw.f bt667.2.1 bt667.2.2.1 bt667.2.2.2 32).bind fun bt671 => ((code_Reader_Err.f bt671.2.1 bt671.2.2.1 bt671.2.2.2).bind fun bt676 => (if bt676.1 = 0 then (if t655 > (x6_1.size : Int) then (some (([] : List (S56)), 5)) else (if 0 ≤ t655 then (if t655 ≤ (x6_1.size : Int) then (if (x6_1.extract 0 (t655 : Int).toNat).size + t659.size ≤ 9223372036854775807 then ((tree_shared.f k1 x6_1 ((x6_1.extract 0 (t655 : Int).toNat) ++ t659)).bind fun t684 => (if t684 = t655 then (if x5_1.length < 2932031007402 then (tree_Of.l0 k1 (x5_1 ++ [(⟨(x6_1.extract 0 (t655 : Int).toNat) ++ t659, t663, bt667.1, bt671.1⟩ : S56)]) ((x6_1.extract 0 (t655 : Int).toNat) ++ t659) t651 (wrap64 (x16_1 + 1)) bt676.2.1 bt676.2.2.1 bt676.2.2.2) else (none)) else (some (([] : List (S56)), 5)))) else (none)) else (none)) else (none))) else ((code_Reader_Err.f bt676.2.1 bt676.2.2.1 bt676.2.2.2).bind fun bt680 => (some (([] : List (S56)), bt680.1))))))) = some (r1, r2) := H
    have A9 := Aside0.mk A90
    clear A90
    replace H := Option.bind_eq_some_iff.mp H
    obtain ⟨⟨t667, t668, t669, t670⟩, A100, H⟩ := H
    replace H : ((code_Reader_Raw.f t668 t669 t670 32).bind fun bt671 => ((code_Reader_Err.f bt671.2.1 bt671.2.2.1 bt671.2.2.2).bind fun bt676 => (if bt676.1 = 0 then (if t655 > (x6_1.size : Int) then (some (([] : List (S56)), 5)) else (if 0 ≤ t655 then (if t655 ≤ (x6_1.size : Int) then (if (x6_1.extract 0 (t655 : Int).toNat).size + t659.size ≤ 9223372036854775807 then ((tree_shared.f k1 x6_1 ((x6_1.extract 0 (t655 : Int).toNat) ++ t659)).bind fun t684 => (if t684 = t655 then (if x5_1.length < 2932031007402 then (tree_Of.l0 k1 (x5_1 ++ [(⟨(x6_1.extract 0 (t655 : Int).toNat) ++ t659, t663, t667, bt671.1⟩ : S56)]) ((x6_1.extract 0 (t655 : Int).toNat) ++ t659) t651 (wrap64 (x16_1 + 1)) bt676.2.1 bt676.2.2.1 bt676.2.2.2) else (none)) else (some (([] : List (S56)), 5)))) else (none)) else (none)) else (none))) else ((code_Reader_Err.f bt676.2.1 bt676.2.2.1 bt676.2.2.2).bind fun bt680 => (some (([] : List (S56)), bt680.1)))))) = some (r1, r2) := H
    have A10 := Aside0.mk A100
    clear A100
    replace H := Option.bind_eq_some_iff.mp H
    obtain ⟨⟨t671, t672, t673, t674⟩, A110, H⟩ := H
    replace H : ((code_Reader_Err.f t672 t673 t674).bind fun bt676 => (if bt676.1 = 0 then (if t655 > (x6_1.size : Int) then (some (([] : List (S56)), 5)) else (if 0 ≤ t655 then (if t655 ≤ (x6_1.size : Int) then (if (x6_1.extract 0 (t655 : Int).toNat).size + t659.size ≤ 9223372036854775807 then ((tree_shared.f k1 x6_1 ((x6_1.extract 0 (t655 : Int).toNat) ++ t659)).bind fun t684 => (if t684 = t655 then (if x5_1.length < 2932031007402 then (tree_Of.l0 k1 (x5_1 ++ [(⟨(x6_1.extract 0 (t655 : Int).toNat) ++ t659, t663, t667, t671⟩ : S56)]) ((x6_1.extract 0 (t655 : Int).toNat) ++ t659) t651 (wrap64 (x16_1 + 1)) bt676.2.1 bt676.2.2.1 bt676.2.2.2) else (none)) else (some (([] : List (S56)), 5)))) else (none)) else (none)) else (none))) else ((code_Reader_Err.f bt676.2.1 bt676.2.2.1 bt676.2.2.2).bind fun bt680 => (some (([] : List (S56)), bt680.1))))) = some (r1, r2) := H
    have A11 := Aside0.mk A110
    clear A110
    replace H := Option.bind_eq_some_iff.mp H
    obtain ⟨⟨t676, t677, t678, t679⟩, A120, H⟩ := H
    replace H : (if t676 = 0 then (if t655 > (x6_1.size : Int) then (some (([] : List (S56)), 5)) else (if 0 ≤ t655 then (if t655 ≤ (x6_1.size : Int) then (if (x6_1.extract 0 (t655 : Int).toNat).size + t659.size ≤ 9223372036854775807 then ((tree_shared.f k1 x6_1 ((x6_1.extract 0 (t655 : Int).toNat) ++ t659)).bind fun t684 => (if t684 = t655 then (if x5_1.length < 2932031007402 then (tree_Of.l0 k1 (x5_1 ++ [(⟨(x6_1.extract 0 (t655 : Int).toNat) ++ t659, t663, t667, t671⟩ : S56)]) ((x6_1.extract 0 (t655 : Int).toNat) ++ t659) t651 (wrap64 (x16_1 + 1)) t677 t678 t679) else (none)) else (some (([] : List (S56)), 5)))) else (none)) else (none)) else (none))) else ((code_Reader_Err.f t677 t678 t679).bind fun bt680 => (some (([] : List (S56)), bt680.1)))) = some (r1, r2) := H
    have A12 := Aside0.mk A120
    clear A120
    by_cases c13 : t676 = 0
    ·rw [if_pos c13] at H
     have c13b0 : (t676 == 0) = true := beq_iff_eq.mpr c13
     have c13b1 : (t676 != 0) = false := bne_eq_false_iff_eq.mpr c13
     clear c13
     by_cases c14 : t655 > (x6_1.size : Int)
     ·rw [if_pos c14] at H
      have c14b0 : decide ((x6_1.size : Int) < t655) = true := decide_eq_true c14
      clear c14
      simp only [Option.some.injEq, Prod.mk.injEq] at H
      obtain ⟨rfl, rfl⟩ := H
      go_wp2_with (first | ((with_reducible refine gate_callee (f := 70) rfl ?_); refine goesL_ (some 19) rfl rfl Tryd.func70 (by kernel_rfl) rfl #[.pointer (some ⟨g650, 0, none⟩), .int .i64 200] rfl (by (try simp only [List.map_toArray, List.map_cons, List.map_nil]); first | done | rfl | (simp only [List.length_drop, List.length_take]; rfl)) ?_; (with_reducible refine (code_Reader_Count.calls k1 g650 x651000_1 x651001_1 x651002_1 200 t655 t656 t657 t658 w _ ?side1 ?side2 A7.out).mono ?_); (case side1 => repeat (first | (with_reducible first | exact HI650.out | apply IsS105.alloc | apply IsS105.drewN | apply IsS105.drew | apply IsS105.set_0 | apply IsS105.set_1 | apply IsS105.set_2) | exact HI650.out)); (case side2 => repeat (first | (with_reducible first | exact HB.out | apply below_alloc | apply pw_below_drewN | apply below_drew1 | refine below_set ?_ (IsS105.ge HI650.out)) | exact HB.out)); rintro e w15 ⟨rfl, hi, hb, hk⟩; refine ⟨_, rfl, ?_⟩; have n0_ := Aside0.mk (Kd.R_mono (Kd.R_keep (IsS105.apart (show IsS105 w _ g650 x651000_1 x651001_1 x651002_1 from by repeat (first | (with_reducible first | exact HI650.out | apply IsS105.alloc | apply IsS105.drewN | apply IsS105.drew | apply IsS105.set_0 | apply IsS105.set_1 | apply IsS105.set_2) | exact HI650.out)) (by (with_reducible repeat (first | apply Kd.R_alloc | apply Kd.R_drewN | apply Kd.R_drew)); exact HO_5.out) (by decide)) hk (fun _ h => h.2)) (fun _ h => h.1)); have n1_ := Aside0.mk (hb); have n2_ := Aside0.mk (hi); clear HO_5; clear HB; clear HI650; have HO_5 := n0_; have HB := n1_; have HI650 := n2_; clear n0_ n1_ n2_; (try clear hb); (try clear hb2); (try clear hk); (try clear hi)) | ((with_reducible refine gate_callee (f := 71) rfl ?_); refine goesL_ (some 21) rfl rfl Tryd.func71 (by kernel_rfl) rfl #[.pointer (some ⟨g650, 0, none⟩), .int .i64 200] rfl (by (try simp only [List.map_toArray, List.map_cons, List.map_nil]); first | done | rfl | (simp only [List.length_drop, List.length_take]; rfl)) ?_; (with_reducible refine (code_Reader_Text.calls k1 g650 t656 t657 t658 200 t659 t660 t661 t662 w _ ?side1 ?side2 A8.out).mono ?_); (case side1 => repeat (first | (with_reducible first | exact HI650.out | apply IsS105.alloc | apply IsS105.drewN | apply IsS105.drew | apply IsS105.set_0 | apply IsS105.set_1 | apply IsS105.set_2) | exact HI650.out)); (case side2 => repeat (first | (with_reducible first | exact HB.out | apply below_alloc | apply pw_below_drewN | apply below_drew1 | refine below_set ?_ (IsS105.ge HI650.out)) | exact HB.out)); rintro e w16 ⟨rfl, hi, hb, hk⟩; refine ⟨_, rfl, ?_⟩; have n0_ := Aside0.mk (Kd.R_mono (Kd.R_keep (IsS105.apart (show IsS105 w _ g650 t656 t657 t658 from by repeat (first | (with_reducible first | exact HI650.out | apply IsS105.alloc | apply IsS105.drewN | apply IsS105.drew | apply IsS105.set_0 | apply IsS105.set_1 | apply IsS105.set_2) | exact HI650.out)) (by (with_reducible repeat (first | apply Kd.R_alloc | apply Kd.R_drewN | apply Kd.R_drew)); exact HO_5.out) (by decide)) hk (fun _ h => h.2)) (fun _ h => h.1)); have n1_ := Aside0.mk (hb); have n2_ := Aside0.mk (hi); clear HO_5; clear HB; clear HI650; have HO_5 := n0_; have HB := n1_; have HI650 := n2_; clear n0_ n1_ n2_; (try clear hb); (try clear hb2); (try clear hk); (try clear hi)) | ((with_reducible refine gate_callee (f := 72) rfl ?_); refine goesL_ (some 23) rfl rfl Tryd.func72 (by kernel_rfl) rfl #[.pointer (some ⟨g650, 0, none⟩)] rfl (by (try simp only [List.map_toArray, List.map_cons, List.map_nil]); first | done | rfl | (simp only [List.length_drop, List.length_take]; rfl)) ?_; (with_reducible refine (code_Reader_Num.calls k1 g650 t660 t661 t662 t663 t664 t665 t666 w _ ?side1 ?side2 A9.out).mono ?_); (case side1 => repeat (first | (with_reducible first | exact HI650.out | apply IsS105.alloc | apply IsS105.drewN | apply IsS105.drew | apply IsS105.set_0 | apply IsS105.set_1 | apply IsS105.set_2) | exact HI650.out)); (case side2 => repeat (first | (with_reducible first | exact HB.out | apply below_alloc | apply pw_below_drewN | apply below_drew1 | refine below_set ?_ (IsS105.ge HI650.out)) | exact HB.out)); rintro e w17 ⟨rfl, hi, hb, hk⟩; refine ⟨_, rfl, ?_⟩; have n0_ := Aside0.mk (Kd.R_mono (Kd.R_keep (IsS105.apart (show IsS105 w _ g650 t660 t661 t662 from by repeat (first | (with_reducible first | exact HI650.out | apply IsS105.alloc | apply IsS105.drewN | apply IsS105.drew | apply IsS105.set_0 | apply IsS105.set_1 | apply IsS105.set_2) | exact HI650.out)) (by (with_reducible repeat (first | apply Kd.R_alloc | apply Kd.R_drewN | apply Kd.R_drew)); exact HO_5.out) (by decide)) hk (fun _ h => h.2)) (fun _ h => h.1)); have n1_ := Aside0.mk (hb); have n2_ := Aside0.mk (hi); clear HO_5; clear HB; clear HI650; have HO_5 := n0_; have HB := n1_; have HI650 := n2_; clear n0_ n1_ n2_; (try clear hb); (try clear hb2); (try clear hk); (try clear hi)) | ((with_reducible refine gate_callee (f := 72) rfl ?_); refine goesL_ (some 25) rfl rfl Tryd.func72 (by kernel_rfl) rfl #[.pointer (some ⟨g650, 0, none⟩)] rfl (by (try simp only [List.map_toArray, List.map_cons, List.map_nil]); first | done | rfl | (simp only [List.length_drop, List.length_take]; rfl)) ?_; (with_reducible refine (code_Reader_Num.calls k1 g650 t664 t665 t666 t667 t668 t669 t670 w _ ?side1 ?side2 A10.out).mono ?_); (case side1 => repeat (first | (with_reducible first | exact HI650.out | apply IsS105.alloc | apply IsS105.drewN | apply IsS105.drew | apply IsS105.set_0 | apply IsS105.set_1 | apply IsS105.set_2) | exact HI650.out)); (case side2 => repeat (first | (with_reducible first | exact HB.out | apply below_alloc | apply pw_below_drewN | apply below_drew1 | refine below_set ?_ (IsS105.ge HI650.out)) | exact HB.out)); rintro e w18 ⟨rfl, hi, hb, hk⟩; refine ⟨_, rfl, ?_⟩; have n0_ := Aside0.mk (Kd.R_mono (Kd.R_keep (IsS105.apart (show IsS105 w _ g650 t664 t665 t666 from by repeat (first | (with_reducible first | exact HI650.out | apply IsS105.alloc | apply IsS105.drewN | apply IsS105.drew | apply IsS105.set_0 | apply IsS105.set_1 | apply IsS105.set_2) | exact HI650.out)) (by (with_reducible repeat (first | apply Kd.R_alloc | apply Kd.R_drewN | apply Kd.R_drew)); exact HO_5.out) (by decide)) hk (fun _ h => h.2)) (fun _ h => h.1)); have n1_ := Aside0.mk (hb); have n2_ := Aside0.mk (hi); clear HO_5; clear HB; clear HI650; have HO_5 := n0_; have HB := n1_; have HI650 := n2_; clear n0_ n1_ n2_; (try clear hb); (try clear hb2); (try clear hk); (try clear hi)) | ((with_reducible refine gate_callee (f := 73) rfl ?_); refine goesL_ (some 27) rfl rfl Tryd.func73 (by kernel_rfl) rfl #[.pointer (some ⟨g650, 0, none⟩), .int .i64 32] rfl (by (try simp only [List.map_toArray, List.map_cons, List.map_nil]); first | done | rfl | (simp only [List.length_drop, List.length_take]; rfl)) ?_; (with_reducible refine (code_Reader_Raw.calls g650 t668 t669 t670 32 t671 t672 t673 t674 w _ ?side1 ?side2 A11.out).mono ?_); (case side1 => repeat (first | (with_reducible first | exact HI650.out | apply IsS105.alloc | apply IsS105.drewN | apply IsS105.drew | apply IsS105.set_0 | apply IsS105.set_1 | apply IsS105.set_2) | exact HI650.out)); (case side2 => repeat (first | (with_reducible first | exact HB.out | apply below_alloc | apply pw_below_drewN | apply below_drew1 | refine below_set ?_ (IsS105.ge HI650.out)) | exact HB.out)); rintro e w19 ⟨rfl, hi, hb, hk⟩; refine ⟨_, rfl, ?_⟩; have n0_ := Aside0.mk (Kd.R_mono (Kd.R_keep (IsS105.apart (show IsS105 w _ g650 t668 t669 t670 from by repeat (first | (with_reducible first | exact HI650.out | apply IsS105.alloc | apply IsS105.drewN | apply IsS105.drew | apply IsS105.set_0 | apply IsS105.set_1 | apply IsS105.set_2) | exact HI650.out)) (by (with_reducible repeat (first | apply Kd.R_alloc | apply Kd.R_drewN | apply Kd.R_drew)); exact HO_5.out) (by decide)) hk (fun _ h => h.2)) (fun _ h => h.1)); have n1_ := Aside0.mk (hb); have n2_ := Aside0.mk (hi); clear HO_5; clear HB; clear HI650; have HO_5 := n0_; have HB := n1_; have HI650 := n2_; clear n0_ n1_ n2_; (try clear hb); (try clear hb2); (try clear hk); (try clear hi)) | ((with_reducible refine gate_dst (N := 9) rfl ?_); refine box_event ?hg (N := 9) ?hd (cs := #[.string (⟨#[]⟩ : ByteArray), .int .i64 0, .int .i64 0, .string (⟨#[]⟩ : ByteArray)]) (t := 56) ?hr ?_; (case hd => rfl); (case hg => rfl); (case hr => first | (go_simp; done) | (go_simp; rfl)); intro gb675 hg w20 hbox hb; have n0_ := Aside0.mk (Kd.R_below (Kd.R_elderB (by (with_reducible repeat (first | apply Kd.R_alloc | apply Kd.R_drewN | apply Kd.R_drew)); exact HO_5.out) gb675 (Nat.le_of_eq hg.symm)) hb); have n1_ := Aside0.mk (IsS105.below (by repeat (first | (with_reducible first | exact HI650.out | apply IsS105.alloc | apply IsS105.drewN | apply IsS105.drew | apply IsS105.set_0 | apply IsS105.set_1 | apply IsS105.set_2) | exact HI650.out)) hb); have n2_ := Aside0.mk (below_step (by repeat (first | (with_reducible first | exact HB.out | apply below_alloc | apply pw_below_drewN | apply below_drew1 | refine below_set ?_ (IsS105.ge HI650.out)) | exact HB.out)) hb); have n3_ := Aside0.mk (hbox); have n4_ := Aside0.mk ((by rw [hg]; exact (below_size (by repeat (first | (with_reducible first | exact HB.out | apply below_alloc | apply pw_below_drewN | apply below_drew1 | refine below_set ?_ (IsS105.ge HI650.out)) | exact HB.out))) : w.heap.size ≤ gb675)); have n5_ := Aside0.mk ((by rw [hg]; exact (below_size (by repeat (first | (with_reducible first | exact HB.out | apply below_alloc | apply pw_below_drewN | apply below_drew1 | refine below_set ?_ (IsS105.ge HI650.out)) | exact HB.out))) : w.heap.size ≤ gb675)); have n6_ := Aside0.mk ((by rw [hg]; exact Nat.ne_of_lt (IsS105.lt (show IsS105 w _ g650 t672 t673 t674 from by repeat (first | (with_reducible first | exact HI650.out | apply IsS105.alloc | apply IsS105.drewN | apply IsS105.drew | apply IsS105.set_0 | apply IsS105.set_1 | apply IsS105.set_2) | exact HI650.out))) : g650 ≠ gb675)); have n7_ := Aside0.mk ((by rw [hg]; exact Nat.ne_of_gt (IsS105.lt (show IsS105 w _ g650 t672 t673 t674 from by repeat (first | (with_reducible first | exact HI650.out | apply IsS105.alloc | apply IsS105.drewN | apply IsS105.drew | apply IsS105.set_0 | apply IsS105.set_1 | apply IsS105.set_2) | exact HI650.out))) : gb675 ≠ g650)); clear HO_5; clear HI650; clear HB; have HO_5 := n0_; have HI650 := n1_; have HB := n2_; have BK675 := n3_; have GW675 := n4_; have GE675 := n5_; have NB650_675 := n6_; have NB675_650 := n7_; clear n0_ n1_ n2_ n3_ n4_ n5_ n6_ n7_; clear hb hbox hg; have hnb21 := NB675_650.out; have hnc21 := NB650_675.out; have hcz22_0 : w20.cell? ⟨gb675, 0, none⟩ = some (.string (⟨#[]⟩ : ByteArray)) := (blk_cell BK675.out 0).trans rfl; have hcz22_1 : w20.cell? ⟨gb675, 1, none⟩ = some (.int .i64 0) := (blk_cell BK675.out 1).trans rfl; have hcz22_2 : w20.cell? ⟨gb675, 2, none⟩ = some (.int .i64 0) := (blk_cell BK675.out 2).trans rfl; have hcz22_3 : w20.cell? ⟨gb675, 3, none⟩ = some (.string (⟨#[]⟩ : ByteArray)) := (blk_cell BK675.out 3).trans rfl; have hfz22_0 := blk_frozen BK675.out 0; have hfz22_1 := blk_frozen BK675.out 1; have hfz22_2 := blk_frozen BK675.out 2; have hfz22_3 := blk_frozen BK675.out 3) | ((with_reducible refine gate_callee (f := 74) rfl ?_); refine goesL_ (some 30) rfl rfl Tryd.func74 (by kernel_rfl) rfl #[.pointer (some ⟨g650, 0, none⟩)] rfl (by (try simp only [List.map_toArray, List.map_cons, List.map_nil]); first | done | rfl | (simp only [List.length_drop, List.length_take]; rfl)) ?_; (with_reducible refine (code_Reader_Err.calls g650 t672 t673 t674 t676 t677 t678 t679 w _ ?side1 ?side2 A12.out).mono ?_); (case side1 => repeat (first | (with_reducible first | exact HI650.out | apply IsS105.alloc | apply IsS105.drewN | apply IsS105.drew | apply IsS105.set_0 | apply IsS105.set_1 | apply IsS105.set_2) | refine IsS105.far ?_ NB650_675.out _ | exact HI650.out)); (case side2 => repeat (first | (with_reducible first | exact HB.out | apply below_alloc | apply pw_below_drewN | apply below_drew1 | refine below_set ?_ (IsS105.ge HI650.out) | refine below_set ?_ GE675.out) | exact HB.out)); rintro e w23 ⟨rfl, hi, hb, hk⟩; refine ⟨_, rfl, ?_⟩; have n0_ := Aside0.mk (Kd.R_mono (Kd.R_keep (IsS105.apart (show IsS105 w _ g650 t672 t673 t674 from by repeat (first | (with_reducible first | exact HI650.out | apply IsS105.alloc | apply IsS105.drewN | apply IsS105.drew | apply IsS105.set_0 | apply IsS105.set_1 | apply IsS105.set_2) | refine IsS105.far ?_ NB650_675.out _ | exact HI650.out)) (by (with_reducible repeat (first | apply Kd.R_alloc | apply Kd.R_drewN | apply Kd.R_drew)); exact (Kd.R_mono (Kd.R_far (p := ⟨gb675, 3, none⟩) (Kd.R_far (p := ⟨gb675, 2, none⟩) (Kd.R_far (p := ⟨gb675, 1, none⟩) (Kd.R_far (p := ⟨gb675, 0, none⟩) (Kd.R_mono HO_5.out (fun k_ hk => (⟨hk, hk.2⟩ : _ ∧ k_ ≠ gb675))) (fun _ hk => hk.2) (.string (⟨#[]⟩ : ByteArray))) (fun _ hk => hk.2) (.int .i64 t663)) (fun _ hk => hk.2) (.int .i64 t667)) (fun _ hk => hk.2) (.string t671)) (fun _ h_ => h_.1))) (by decide)) hk (fun _ h => h.2)) (fun _ h => h.1)); have n1_ := Aside0.mk (KeepBut.blk hk (g' := gb675) (o := .cells #[.string (⟨#[]⟩ : ByteArray), .int .i64 t663, .int .i64 t667, .string t671] 56 (0, 0)) (by (with_reducible repeat (first | refine blk_drewN ?_ _ | refine blk_drew ?_ | refine blk_alloc ?_ _)); refine blk_put (cs := #[.string (⟨#[]⟩ : ByteArray), .int .i64 t663, .int .i64 t667, .string (⟨#[]⟩ : ByteArray)]) ?_ 3 _ rfl; (with_reducible repeat (first | refine blk_drewN ?_ _ | refine blk_drew ?_ | refine blk_alloc ?_ _)); refine blk_put (cs := #[.string (⟨#[]⟩ : ByteArray), .int .i64 t663, .int .i64 0, .string (⟨#[]⟩ : ByteArray)]) ?_ 2 _ rfl; (with_reducible repeat (first | refine blk_drewN ?_ _ | refine blk_drew ?_ | refine blk_alloc ?_ _)); refine blk_put (cs := #[.string (⟨#[]⟩ : ByteArray), .int .i64 0, .int .i64 0, .string (⟨#[]⟩ : ByteArray)]) ?_ 1 _ rfl; (with_reducible repeat (first | refine blk_drewN ?_ _ | refine blk_drew ?_ | refine blk_alloc ?_ _)); refine blk_put (cs := #[.string (⟨#[]⟩ : ByteArray), .int .i64 0, .int .i64 0, .string (⟨#[]⟩ : ByteArray)]) ?_ 0 _ rfl; (with_reducible repeat (first | refine blk_drewN ?_ _ | refine blk_drew ?_ | refine blk_alloc ?_ _)); exact BK675.out) NB675_650.out (by simp)); have n2_ := Aside0.mk (hb); have n3_ := Aside0.mk (hi); clear HO_5; clear BK675; clear HB; clear HI650; have HO_5 := n0_; have BK675 := n1_; have HB := n2_; have HI650 := n3_; clear n0_ n1_ n2_ n3_; (try clear hb); (try clear hb2); (try clear hk); (try clear hi)))
      go_ret2
      exact ⟨_, by first | rfl | (simp [errW_none, errW_some] <;> rfl) | (simp [*, errW_none, errW_some] <;> rfl), by first | exact Kd.R_nil _ _ _ _ _ | exact Kd.N_nil _ _ _ _ _ | exact Kd.V_nil _ _ _ _ _ | exact Kd.Q_nil _ _ _ _ _ | exact Kd.S_nil _ _ _ _ _, by repeat (first | (with_reducible first | exact HB.out | apply below_alloc | apply pw_below_drewN | apply below_drew1 | refine below_set ?_ (IsS105.ge HI650.out) | refine below_set ?_ GE675.out) | exact HB.out)⟩
     ·rw [if_neg c14] at H
      have c14b0 : decide ((x6_1.size : Int) < t655) = false := decide_eq_false c14
      clear c14
      by_cases c24 : 0 ≤ t655
      ·rw [if_pos c24] at H
       have c24b0 := eq_true c24
       have c24b1 : decide (0 ≤ t655) = true := decide_eq_true c24
       clear c24
       by_cases c25 : t655 ≤ (x6_1.size : Int)
       ·rw [if_pos c25] at H
        have c25b0 := eq_true c25
        have c25b1 : decide (t655 ≤ (x6_1.size : Int)) = true := decide_eq_true c25
        clear c25
        by_cases c26 : (x6_1.extract 0 (t655 : Int).toNat).size + t659.size ≤ 9223372036854775807
        ·rw [if_pos c26] at H
         have c26b0 := eq_true c26
         have c26b1 : decide ((x6_1.extract 0 (t655 : Int).toNat).size + t659.size ≤ 9223372036854775807) = true := decide_eq_true c26
         try have c26b2 : (9223372036854775807 < (x6_1.extract 0 (t655 : Int).toNat).size + t659.size) = False := eq_false (Nat.not_lt.2 c26)
         (try (have c26b3 := c26b2; simp only [ByteArray.size_append] at c26b3))
         replace H := Option.bind_eq_some_iff.mp H
         obtain ⟨t684, A270, H⟩ := H
         replace H : (if t684 = t655 then (if x5_1.length < 2932031007402 then (tree_Of.l0 k1 (x5_1 ++ [(⟨(x6_1.extract 0 (t655 : Int).toNat) ++ t659, t663, t667, t671⟩ : S56)]) ((x6_1.extract 0 (t655 : Int).toNat) ++ t659) t651 (wrap64 (x16_1 + 1)) t677 t678 t679) else (none)) else (some (([] : List (S56)), 5))) = some (r1, r2) := H
         have A27 := Aside0.mk A270
         clear A270
         by_cases c28 : t684 = t655
         ·rw [if_pos c28] at H
          have c28b0 : (t684 == t655) = true := beq_iff_eq.mpr c28
          have c28b1 : (t684 != t655) = false := bne_eq_false_iff_eq.mpr c28
          clear c28
          by_cases c29 : x5_1.length < 2932031007402
          ·rw [if_pos c29] at H
           have LMc29 := Aside0.mk c29
           clear c29
           obtain ⟨y685, hy685⟩ : ∃ y_ : List (S56), y_ = (x5_1 ++ [(⟨(x6_1.extract 0 (t655 : Int).toNat) ++ t659, t663, t667, t671⟩ : S56)]) := ⟨_, rfl⟩
           replace H : (tree_Of.l0 k1 y685 ((x6_1.extract 0 (t655 : Int).toNat) ++ t659) t651 (wrap64 (x16_1 + 1)) t677 t678 t679) = some (r1, r2) := by first | (rw [hy685]; with_reducible exact H) | (have H2_ := (Option.bind_some _ _).symm.trans H; rw [hy685]; with_reducible exact H2_) | (have H2_ := (Option.bind_some _ _).symm.trans H; with_reducible exact H2_) | with_reducible exact H | (rw [hy685]; exact H) | exact H
           have Ny685 := Aside0.mk hy685
           clear hy685
           have H' := Aside0.mk H
           clear H
           go_wp2_with (first | ((with_reducible refine gate_callee (f := 70) rfl ?_); refine goesL_ (some 19) rfl rfl Tryd.func70 (by kernel_rfl) rfl #[.pointer (some ⟨g650, 0, none⟩), .int .i64 200] rfl (by (try simp only [List.map_toArray, List.map_cons, List.map_nil]); first | done | rfl | (simp only [List.length_drop, List.length_take]; rfl)) ?_; (with_reducible refine (code_Reader_Count.calls k1 g650 x651000_1 x651001_1 x651002_1 200 t655 t656 t657 t658 w _ ?side1 ?side2 A7.out).mono ?_); (case side1 => repeat (first | (with_reducible first | exact HI650.out | apply IsS105.alloc | apply IsS105.drewN | apply IsS105.drew | apply IsS105.set_0 | apply IsS105.set_1 | apply IsS105.set_2) | exact HI650.out)); (case side2 => repeat (first | (with_reducible first | exact HB.out | apply below_alloc | apply pw_below_drewN | apply below_drew1 | refine below_set ?_ (IsS105.ge HI650.out)) | exact HB.out)); rintro e w30 ⟨rfl, hi, hb, hk⟩; refine ⟨_, rfl, ?_⟩; have n0_ := Aside0.mk (Kd.R_mono (Kd.R_keep (IsS105.apart (show IsS105 w _ g650 x651000_1 x651001_1 x651002_1 from by repeat (first | (with_reducible first | exact HI650.out | apply IsS105.alloc | apply IsS105.drewN | apply IsS105.drew | apply IsS105.set_0 | apply IsS105.set_1 | apply IsS105.set_2) | exact HI650.out)) (by (with_reducible repeat (first | apply Kd.R_alloc | apply Kd.R_drewN | apply Kd.R_drew)); exact HO_5.out) (by decide)) hk (fun _ h => h.2)) (fun _ h => h.1)); have n1_ := Aside0.mk (hb); have n2_ := Aside0.mk (hi); clear HO_5; clear HB; clear HI650; have HO_5 := n0_; have HB := n1_; have HI650 := n2_; clear n0_ n1_ n2_; (try clear hb); (try clear hb2); (try clear hk); (try clear hi)) | ((with_reducible refine gate_callee (f := 71) rfl ?_); refine goesL_ (some 21) rfl rfl Tryd.func71 (by kernel_rfl) rfl #[.pointer (some ⟨g650, 0, none⟩), .int .i64 200] rfl (by (try simp only [List.map_toArray, List.map_cons, List.map_nil]); first | done | rfl | (simp only [List.length_drop, List.length_take]; rfl)) ?_; (with_reducible refine (code_Reader_Text.calls k1 g650 t656 t657 t658 200 t659 t660 t661 t662 w _ ?side1 ?side2 A8.out).mono ?_); (case side1 => repeat (first | (with_reducible first | exact HI650.out | apply IsS105.alloc | apply IsS105.drewN | apply IsS105.drew | apply IsS105.set_0 | apply IsS105.set_1 | apply IsS105.set_2) | exact HI650.out)); (case side2 => repeat (first | (with_reducible first | exact HB.out | apply below_alloc | apply pw_below_drewN | apply below_drew1 | refine below_set ?_ (IsS105.ge HI650.out)) | exact HB.out)); rintro e w31 ⟨rfl, hi, hb, hk⟩; refine ⟨_, rfl, ?_⟩; have n0_ := Aside0.mk (Kd.R_mono (Kd.R_keep (IsS105.apart (show IsS105 w _ g650 t656 t657 t658 from by repeat (first | (with_reducible first | exact HI650.out | apply IsS105.alloc | apply IsS105.drewN | apply IsS105.drew | apply IsS105.set_0 | apply IsS105.set_1 | apply IsS105.set_2) | exact HI650.out)) (by (with_reducible repeat (first | apply Kd.R_alloc | apply Kd.R_drewN | apply Kd.R_drew)); exact HO_5.out) (by decide)) hk (fun _ h => h.2)) (fun _ h => h.1)); have n1_ := Aside0.mk (hb); have n2_ := Aside0.mk (hi); clear HO_5; clear HB; clear HI650; have HO_5 := n0_; have HB := n1_; have HI650 := n2_; clear n0_ n1_ n2_; (try clear hb); (try clear hb2); (try clear hk); (try clear hi)) | ((with_reducible refine gate_callee (f := 72) rfl ?_); refine goesL_ (some 23) rfl rfl Tryd.func72 (by kernel_rfl) rfl #[.pointer (some ⟨g650, 0, none⟩)] rfl (by (try simp only [List.map_toArray, List.map_cons, List.map_nil]); first | done | rfl | (simp only [List.length_drop, List.length_take]; rfl)) ?_; (with_reducible refine (code_Reader_Num.calls k1 g650 t660 t661 t662 t663 t664 t665 t666 w _ ?side1 ?side2 A9.out).mono ?_); (case side1 => repeat (first | (with_reducible first | exact HI650.out | apply IsS105.alloc | apply IsS105.drewN | apply IsS105.drew | apply IsS105.set_0 | apply IsS105.set_1 | apply IsS105.set_2) | exact HI650.out)); (case side2 => repeat (first | (with_reducible first | exact HB.out | apply below_alloc | apply pw_below_drewN | apply below_drew1 | refine below_set ?_ (IsS105.ge HI650.out)) | exact HB.out)); rintro e w32 ⟨rfl, hi, hb, hk⟩; refine ⟨_, rfl, ?_⟩; have n0_ := Aside0.mk (Kd.R_mono (Kd.R_keep (IsS105.apart (show IsS105 w _ g650 t660 t661 t662 from by repeat (first | (with_reducible first | exact HI650.out | apply IsS105.alloc | apply IsS105.drewN | apply IsS105.drew | apply IsS105.set_0 | apply IsS105.set_1 | apply IsS105.set_2) | exact HI650.out)) (by (with_reducible repeat (first | apply Kd.R_alloc | apply Kd.R_drewN | apply Kd.R_drew)); exact HO_5.out) (by decide)) hk (fun _ h => h.2)) (fun _ h => h.1)); have n1_ := Aside0.mk (hb); have n2_ := Aside0.mk (hi); clear HO_5; clear HB; clear HI650; have HO_5 := n0_; have HB := n1_; have HI650 := n2_; clear n0_ n1_ n2_; (try clear hb); (try clear hb2); (try clear hk); (try clear hi)) | ((with_reducible refine gate_callee (f := 72) rfl ?_); refine goesL_ (some 25) rfl rfl Tryd.func72 (by kernel_rfl) rfl #[.pointer (some ⟨g650, 0, none⟩)] rfl (by (try simp only [List.map_toArray, List.map_cons, List.map_nil]); first | done | rfl | (simp only [List.length_drop, List.length_take]; rfl)) ?_; (with_reducible refine (code_Reader_Num.calls k1 g650 t664 t665 t666 t667 t668 t669 t670 w _ ?side1 ?side2 A10.out).mono ?_); (case side1 => repeat (first | (with_reducible first | exact HI650.out | apply IsS105.alloc | apply IsS105.drewN | apply IsS105.drew | apply IsS105.set_0 | apply IsS105.set_1 | apply IsS105.set_2) | exact HI650.out)); (case side2 => repeat (first | (with_reducible first | exact HB.out | apply below_alloc | apply pw_below_drewN | apply below_drew1 | refine below_set ?_ (IsS105.ge HI650.out)) | exact HB.out)); rintro e w33 ⟨rfl, hi, hb, hk⟩; refine ⟨_, rfl, ?_⟩; have n0_ := Aside0.mk (Kd.R_mono (Kd.R_keep (IsS105.apart (show IsS105 w _ g650 t664 t665 t666 from by repeat (first | (with_reducible first | exact HI650.out | apply IsS105.alloc | apply IsS105.drewN | apply IsS105.drew | apply IsS105.set_0 | apply IsS105.set_1 | apply IsS105.set_2) | exact HI650.out)) (by (with_reducible repeat (first | apply Kd.R_alloc | apply Kd.R_drewN | apply Kd.R_drew)); exact HO_5.out) (by decide)) hk (fun _ h => h.2)) (fun _ h => h.1)); have n1_ := Aside0.mk (hb); have n2_ := Aside0.mk (hi); clear HO_5; clear HB; clear HI650; have HO_5 := n0_; have HB := n1_; have HI650 := n2_; clear n0_ n1_ n2_; (try clear hb); (try clear hb2); (try clear hk); (try clear hi)) | ((with_reducible refine gate_callee (f := 73) rfl ?_); refine goesL_ (some 27) rfl rfl Tryd.func73 (by kernel_rfl) rfl #[.pointer (some ⟨g650, 0, none⟩), .int .i64 32] rfl (by (try simp only [List.map_toArray, List.map_cons, List.map_nil]); first | done | rfl | (simp only [List.length_drop, List.length_take]; rfl)) ?_; (with_reducible refine (code_Reader_Raw.calls g650 t668 t669 t670 32 t671 t672 t673 t674 w _ ?side1 ?side2 A11.out).mono ?_); (case side1 => repeat (first | (with_reducible first | exact HI650.out | apply IsS105.alloc | apply IsS105.drewN | apply IsS105.drew | apply IsS105.set_0 | apply IsS105.set_1 | apply IsS105.set_2) | exact HI650.out)); (case side2 => repeat (first | (with_reducible first | exact HB.out | apply below_alloc | apply pw_below_drewN | apply below_drew1 | refine below_set ?_ (IsS105.ge HI650.out)) | exact HB.out)); rintro e w34 ⟨rfl, hi, hb, hk⟩; refine ⟨_, rfl, ?_⟩; have n0_ := Aside0.mk (Kd.R_mono (Kd.R_keep (IsS105.apart (show IsS105 w _ g650 t668 t669 t670 from by repeat (first | (with_reducible first | exact HI650.out | apply IsS105.alloc | apply IsS105.drewN | apply IsS105.drew | apply IsS105.set_0 | apply IsS105.set_1 | apply IsS105.set_2) | exact HI650.out)) (by (with_reducible repeat (first | apply Kd.R_alloc | apply Kd.R_drewN | apply Kd.R_drew)); exact HO_5.out) (by decide)) hk (fun _ h => h.2)) (fun _ h => h.1)); have n1_ := Aside0.mk (hb); have n2_ := Aside0.mk (hi); clear HO_5; clear HB; clear HI650; have HO_5 := n0_; have HB := n1_; have HI650 := n2_; clear n0_ n1_ n2_; (try clear hb); (try clear hb2); (try clear hk); (try clear hi)) | ((with_reducible refine gate_dst (N := 9) rfl ?_); refine box_event ?hg (N := 9) ?hd (cs := #[.string (⟨#[]⟩ : ByteArray), .int .i64 0, .int .i64 0, .string (⟨#[]⟩ : ByteArray)]) (t := 56) ?hr ?_; (case hd => rfl); (case hg => rfl); (case hr => first | (go_simp; done) | (go_simp; rfl)); intro gb675 hg w35 hbox hb; have n0_ := Aside0.mk (Kd.R_below (Kd.R_elderB (by (with_reducible repeat (first | apply Kd.R_alloc | apply Kd.R_drewN | apply Kd.R_drew)); exact HO_5.out) gb675 (Nat.le_of_eq hg.symm)) hb); have n1_ := Aside0.mk (IsS105.below (by repeat (first | (with_reducible first | exact HI650.out | apply IsS105.alloc | apply IsS105.drewN | apply IsS105.drew | apply IsS105.set_0 | apply IsS105.set_1 | apply IsS105.set_2) | exact HI650.out)) hb); have n2_ := Aside0.mk (below_step (by repeat (first | (with_reducible first | exact HB.out | apply below_alloc | apply pw_below_drewN | apply below_drew1 | refine below_set ?_ (IsS105.ge HI650.out)) | exact HB.out)) hb); have n3_ := Aside0.mk (hbox); have n4_ := Aside0.mk ((by rw [hg]; exact (below_size (by repeat (first | (with_reducible first | exact HB.out | apply below_alloc | apply pw_below_drewN | apply below_drew1 | refine below_set ?_ (IsS105.ge HI650.out)) | exact HB.out))) : w.heap.size ≤ gb675)); have n5_ := Aside0.mk ((by rw [hg]; exact (below_size (by repeat (first | (with_reducible first | exact HB.out | apply below_alloc | apply pw_below_drewN | apply below_drew1 | refine below_set ?_ (IsS105.ge HI650.out)) | exact HB.out))) : w.heap.size ≤ gb675)); have n6_ := Aside0.mk ((by rw [hg]; exact Nat.ne_of_lt (IsS105.lt (show IsS105 w _ g650 t672 t673 t674 from by repeat (first | (with_reducible first | exact HI650.out | apply IsS105.alloc | apply IsS105.drewN | apply IsS105.drew | apply IsS105.set_0 | apply IsS105.set_1 | apply IsS105.set_2) | exact HI650.out))) : g650 ≠ gb675)); have n7_ := Aside0.mk ((by rw [hg]; exact Nat.ne_of_gt (IsS105.lt (show IsS105 w _ g650 t672 t673 t674 from by repeat (first | (with_reducible first | exact HI650.out | apply IsS105.alloc | apply IsS105.drewN | apply IsS105.drew | apply IsS105.set_0 | apply IsS105.set_1 | apply IsS105.set_2) | exact HI650.out))) : gb675 ≠ g650)); clear HO_5; clear HI650; clear HB; have HO_5 := n0_; have HI650 := n1_; have HB := n2_; have BK675 := n3_; have GW675 := n4_; have GE675 := n5_; have NB650_675 := n6_; have NB675_650 := n7_; clear n0_ n1_ n2_ n3_ n4_ n5_ n6_ n7_; clear hb hbox hg; have hnb36 := NB675_650.out; have hnc36 := NB650_675.out; have hcz37_0 : w35.cell? ⟨gb675, 0, none⟩ = some (.string (⟨#[]⟩ : ByteArray)) := (blk_cell BK675.out 0).trans rfl; have hcz37_1 : w35.cell? ⟨gb675, 1, none⟩ = some (.int .i64 0) := (blk_cell BK675.out 1).trans rfl; have hcz37_2 : w35.cell? ⟨gb675, 2, none⟩ = some (.int .i64 0) := (blk_cell BK675.out 2).trans rfl; have hcz37_3 : w35.cell? ⟨gb675, 3, none⟩ = some (.string (⟨#[]⟩ : ByteArray)) := (blk_cell BK675.out 3).trans rfl; have hfz37_0 := blk_frozen BK675.out 0; have hfz37_1 := blk_frozen BK675.out 1; have hfz37_2 := blk_frozen BK675.out 2; have hfz37_3 := blk_frozen BK675.out 3) | ((with_reducible refine gate_callee (f := 74) rfl ?_); refine goesL_ (some 30) rfl rfl Tryd.func74 (by kernel_rfl) rfl #[.pointer (some ⟨g650, 0, none⟩)] rfl (by (try simp only [List.map_toArray, List.map_cons, List.map_nil]); first | done | rfl | (simp only [List.length_drop, List.length_take]; rfl)) ?_; (with_reducible refine (code_Reader_Err.calls g650 t672 t673 t674 t676 t677 t678 t679 w _ ?side1 ?side2 A12.out).mono ?_); (case side1 => repeat (first | (with_reducible first | exact HI650.out | apply IsS105.alloc | apply IsS105.drewN | apply IsS105.drew | apply IsS105.set_0 | apply IsS105.set_1 | apply IsS105.set_2) | refine IsS105.far ?_ NB650_675.out _ | exact HI650.out)); (case side2 => repeat (first | (with_reducible first | exact HB.out | apply below_alloc | apply pw_below_drewN | apply below_drew1 | refine below_set ?_ (IsS105.ge HI650.out) | refine below_set ?_ GE675.out) | exact HB.out)); rintro e w38 ⟨rfl, hi, hb, hk⟩; refine ⟨_, rfl, ?_⟩; have n0_ := Aside0.mk (Kd.R_mono (Kd.R_keep (IsS105.apart (show IsS105 w _ g650 t672 t673 t674 from by repeat (first | (with_reducible first | exact HI650.out | apply IsS105.alloc | apply IsS105.drewN | apply IsS105.drew | apply IsS105.set_0 | apply IsS105.set_1 | apply IsS105.set_2) | refine IsS105.far ?_ NB650_675.out _ | exact HI650.out)) (by (with_reducible repeat (first | apply Kd.R_alloc | apply Kd.R_drewN | apply Kd.R_drew)); exact (Kd.R_mono (Kd.R_far (p := ⟨gb675, 3, none⟩) (Kd.R_far (p := ⟨gb675, 2, none⟩) (Kd.R_far (p := ⟨gb675, 1, none⟩) (Kd.R_far (p := ⟨gb675, 0, none⟩) (Kd.R_mono HO_5.out (fun k_ hk => (⟨hk, hk.2⟩ : _ ∧ k_ ≠ gb675))) (fun _ hk => hk.2) (.string (⟨#[]⟩ : ByteArray))) (fun _ hk => hk.2) (.int .i64 t663)) (fun _ hk => hk.2) (.int .i64 t667)) (fun _ hk => hk.2) (.string t671)) (fun _ h_ => h_.1))) (by decide)) hk (fun _ h => h.2)) (fun _ h => h.1)); have n1_ := Aside0.mk (KeepBut.blk hk (g' := gb675) (o := .cells #[.string (⟨#[]⟩ : ByteArray), .int .i64 t663, .int .i64 t667, .string t671] 56 (0, 0)) (by (with_reducible repeat (first | refine blk_drewN ?_ _ | refine blk_drew ?_ | refine blk_alloc ?_ _)); refine blk_put (cs := #[.string (⟨#[]⟩ : ByteArray), .int .i64 t663, .int .i64 t667, .string (⟨#[]⟩ : ByteArray)]) ?_ 3 _ rfl; (with_reducible repeat (first | refine blk_drewN ?_ _ | refine blk_drew ?_ | refine blk_alloc ?_ _)); refine blk_put (cs := #[.string (⟨#[]⟩ : ByteArray), .int .i64 t663, .int .i64 0, .string (⟨#[]⟩ : ByteArray)]) ?_ 2 _ rfl; (with_reducible repeat (first | refine blk_drewN ?_ _ | refine blk_drew ?_ | refine blk_alloc ?_ _)); refine blk_put (cs := #[.string (⟨#[]⟩ : ByteArray), .int .i64 0, .int .i64 0, .string (⟨#[]⟩ : ByteArray)]) ?_ 1 _ rfl; (with_reducible repeat (first | refine blk_drewN ?_ _ | refine blk_drew ?_ | refine blk_alloc ?_ _)); refine blk_put (cs := #[.string (⟨#[]⟩ : ByteArray), .int .i64 0, .int .i64 0, .string (⟨#[]⟩ : ByteArray)]) ?_ 0 _ rfl; (with_reducible repeat (first | refine blk_drewN ?_ _ | refine blk_drew ?_ | refine blk_alloc ?_ _)); exact BK675.out) NB675_650.out (by simp)); have n2_ := Aside0.mk (hb); have n3_ := Aside0.mk (hi); clear HO_5; clear BK675; clear HB; clear HI650; have HO_5 := n0_; have BK675 := n1_; have HB := n2_; have HI650 := n3_; clear n0_ n1_ n2_ n3_; (try clear hb); (try clear hb2); (try clear hk); (try clear hi); have hcz39_0 : w38.cell? ⟨gb675, 0, none⟩ = some (.string (⟨#[]⟩ : ByteArray)) := (blk_cell BK675.out 0).trans rfl; have hcz39_1 : w38.cell? ⟨gb675, 1, none⟩ = some (.int .i64 t663) := (blk_cell BK675.out 1).trans rfl; have hcz39_2 : w38.cell? ⟨gb675, 2, none⟩ = some (.int .i64 t667) := (blk_cell BK675.out 2).trans rfl; have hcz39_3 : w38.cell? ⟨gb675, 3, none⟩ = some (.string t671) := (blk_cell BK675.out 3).trans rfl; have hfz39_0 := blk_frozen BK675.out 0; have hfz39_1 := blk_frozen BK675.out 1; have hfz39_2 := blk_frozen BK675.out 2; have hfz39_3 := blk_frozen BK675.out 3) | ((with_reducible refine gate_callee (f := 60) rfl ?_); refine goesL_ (some 47) rfl rfl Tryd.func60 (by kernel_rfl) rfl #[.string x6_1, .string ((x6_1.extract 0 (t655 : Int).toNat) ++ t659)] rfl (by (try simp only [List.map_toArray, List.map_cons, List.map_nil]); first | done | rfl | (simp only [List.length_drop, List.length_take]; rfl)) ?_; (with_reducible refine (tree_shared.calls k1 x6_1 ((x6_1.extract 0 (t655 : Int).toNat) ++ t659) t684 _ A27.out).mono ?_); rintro e w40 ⟨rfl, hb⟩; refine ⟨_, rfl, ?_⟩; have n0_ := Aside0.mk (Kd.R_below (by (with_reducible repeat (first | apply Kd.R_alloc | apply Kd.R_drewN | apply Kd.R_drew)); exact (Kd.R_mono (Kd.R_far (p := ⟨gb675, 0, none⟩) (Kd.R_mono HO_5.out (fun k_ hk => (⟨hk, hk.2⟩ : _ ∧ k_ ≠ gb675))) (fun _ hk => hk.2) (.string ((x6_1.extract 0 (t655 : Int).toNat) ++ t659))) (fun _ h_ => h_.1))) hb); have n1_ := Aside0.mk (IsS105.below (show IsS105 w (w38.setCell ⟨gb675, 0, none⟩ (.string ((x6_1.extract 0 (t655 : Int).toNat) ++ t659))) g650 t677 t678 t679 from by repeat (first | (with_reducible first | exact HI650.out | apply IsS105.alloc | apply IsS105.drewN | apply IsS105.drew | apply IsS105.set_0 | apply IsS105.set_1 | apply IsS105.set_2) | refine IsS105.far ?_ NB650_675.out _ | exact HI650.out)) hb); have n2_ := Aside0.mk (blk_below (g := gb675) (o := .cells #[.string ((x6_1.extract 0 (t655 : Int).toNat) ++ t659), .int .i64 t663, .int .i64 t667, .string t671] 56 (0, 0)) (by (with_reducible repeat (first | refine blk_drewN ?_ _ | refine blk_drew ?_ | refine blk_alloc ?_ _)); refine blk_put (cs := #[.string (⟨#[]⟩ : ByteArray), .int .i64 t663, .int .i64 t667, .string t671]) ?_ 0 _ rfl; (with_reducible repeat (first | refine blk_drewN ?_ _ | refine blk_drew ?_ | refine blk_alloc ?_ _)); exact BK675.out) hb); have n3_ := Aside0.mk (below_step (by repeat (first | (with_reducible first | exact HB.out | apply below_alloc | apply pw_below_drewN | apply below_drew1 | refine below_set ?_ (IsS105.ge HI650.out) | refine below_set ?_ GE675.out) | exact HB.out)) hb); clear HO_5; clear HI650; clear BK675; clear HB; have HO_5 := n0_; have HI650 := n1_; have BK675 := n2_; have HB := n3_; clear n0_ n1_ n2_ n3_; (try clear hb); (try clear hb2); (try clear hk); (try clear hi); have hcz41_0 : w40.cell? ⟨gb675, 0, none⟩ = some (.string ((x6_1.extract 0 (t655 : Int).toNat) ++ t659)) := (blk_cell BK675.out 0).trans rfl; have hcz41_1 : w40.cell? ⟨gb675, 1, none⟩ = some (.int .i64 t663) := (blk_cell BK675.out 1).trans rfl; have hcz41_2 : w40.cell? ⟨gb675, 2, none⟩ = some (.int .i64 t667) := (blk_cell BK675.out 2).trans rfl; have hcz41_3 : w40.cell? ⟨gb675, 3, none⟩ = some (.string t671) := (blk_cell BK675.out 3).trans rfl; have hfz41_0 := blk_frozen BK675.out 0; have hfz41_1 := blk_frozen BK675.out 1; have hfz41_2 := blk_frozen BK675.out 2; have hfz41_3 := blk_frozen BK675.out 3) | ((with_reducible refine gate_builtin (b := .append) (xs := #[.tmp 50, .tmp 52]) rfl ?_); at_builtin; refine Kd.R_append k56 (w0 := w) w.heap.size rfl (.tmp 50) (.tmp 52) 39 56 (.agg #[(.string ⟨#[]⟩), (.int .i64 0), (.int .i64 0), (.string ⟨#[]⟩)]) 48 rfl Tryd.underlying39 info56 rfl (by decide) (by omega) u5 x5_1 (⟨(x6_1.extract 0 (t655 : Int).toNat) ++ t659, t663, t667, t671⟩ : S56) [.string ((x6_1.extract 0 (t655 : Int).toNat) ++ t659), .int .i64 t663, .int .i64 t667, .string t671] (fun k_ => k_ ≠ gb675) (fun _ => False) rfl rfl ?aP (fun _ hk => hk.elim) ?aF ?aO ?aB ?aS ?aL ?_; (case aP => exact k56_mkM _ _ _ (⟨(x6_1.extract 0 (t655 : Int).toNat) ++ t659, t663, t667, t671⟩ : S56)); (case aB => exact (by repeat (first | (with_reducible first | exact HB.out | apply below_alloc | apply pw_below_drewN | apply below_drew1 | refine below_set ?_ (IsS105.ge HI650.out) | refine below_set ?_ GE675.out) | exact HB.out))); (case aF => exact (fun k_ hk => Kd.freshB (g := gb675) (o := .cells #[.string ((x6_1.extract 0 (t655 : Int).toNat) ++ t659), .int .i64 t663, .int .i64 t667, .string t671] 56 (0, 0)) (by (with_reducible repeat (first | refine blk_drewN ?_ _ | refine blk_drew ?_ | refine blk_alloc ?_ _)); exact BK675.out) k_ hk)); (case aO => exact (by (with_reducible repeat (first | apply Kd.R_alloc | apply Kd.R_drewN | apply Kd.R_drew)); exact Kd.R_mono HO_5.out (fun _ hk => hk.2))); (case aS => exact (below_size (by repeat (first | (with_reducible first | exact HB.out | apply below_alloc | apply pw_below_drewN | apply below_drew1 | refine below_set ?_ (IsS105.ge HI650.out) | refine below_set ?_ GE675.out) | exact HB.out)))); (case aL => have := LMc29.out; omega); intro v686 w42 ho hb hg hat; rw [← Ny685.out] at ho; have n0_ := Aside0.mk (IsS105.grown (by repeat (first | (with_reducible first | exact HI650.out | apply IsS105.alloc | apply IsS105.drewN | apply IsS105.drew | apply IsS105.set_0 | apply IsS105.set_1 | apply IsS105.set_2) | refine IsS105.far ?_ NB650_675.out _ | exact HI650.out)) hg (IsS105.own_ne HI650.out HO_5.out (by decide))); have n1_ := Aside0.mk (blk_grown (g := gb675) (o := .cells #[.string ((x6_1.extract 0 (t655 : Int).toNat) ++ t659), .int .i64 t663, .int .i64 t667, .string t671] 56 (0, 0)) (by (with_reducible repeat (first | refine blk_drewN ?_ _ | refine blk_drew ?_ | refine blk_alloc ?_ _)); exact BK675.out) hg (Kd.R_away HO_5.out (fun _ hk => hk.2))); have n2_ := Aside0.mk (hb); have n3_ := Aside0.mk (ho); clear HI650; clear BK675; clear HB; clear HO_5; have HI650 := n0_; have BK675 := n1_; have HB := n2_; have HO687 := n3_; clear n0_ n1_ n2_ n3_; clear ho hb hg hat; have hcz43_0 : w42.cell? ⟨gb675, 0, none⟩ = some (.string ((x6_1.extract 0 (t655 : Int).toNat) ++ t659)) := (blk_cell BK675.out 0).trans rfl; have hcz43_1 : w42.cell? ⟨gb675, 1, none⟩ = some (.int .i64 t663) := (blk_cell BK675.out 1).trans rfl; have hcz43_2 : w42.cell? ⟨gb675, 2, none⟩ = some (.int .i64 t667) := (blk_cell BK675.out 2).trans rfl; have hcz43_3 : w42.cell? ⟨gb675, 3, none⟩ = some (.string t671) := (blk_cell BK675.out 3).trans rfl; have hfz43_0 := blk_frozen BK675.out 0; have hfz43_1 := blk_frozen BK675.out 1; have hfz43_2 := blk_frozen BK675.out 2; have hfz43_3 := blk_frozen BK675.out 3))
           go_roundg k1
           case measure => have := HK1.out; omega
           case rel => exact ⟨(y685), ((x6_1.extract 0 (t655 : Int).toNat) ++ t659), (wrap64 (x16_1 + 1)), (t677), (t678), (t679), (by first | rfl | (simp; done) | (simp [*]; done)), (by first | rfl | (simp; done) | (simp [*]; done)), H', ⟨by have := HK1.out; omega⟩, ⟨by (with_reducible repeat (first | apply Kd.R_alloc | apply Kd.R_drewN | apply Kd.R_drew)); exact Kd.R_mono HO687.out (fun _ hk => trivial)⟩, ⟨by repeat (first | (with_reducible first | exact HI650.out | apply IsS105.alloc | apply IsS105.drewN | apply IsS105.drew | apply IsS105.set_0 | apply IsS105.set_1 | apply IsS105.set_2) | refine IsS105.far ?_ NB650_675.out _ | exact HI650.out)⟩, ⟨by repeat (first | (with_reducible first | exact HB.out | apply below_alloc | apply pw_below_drewN | apply below_drew1 | refine below_set ?_ (IsS105.ge HI650.out) | refine below_set ?_ GE675.out) | exact HB.out)⟩⟩
          ·rw [if_neg c29] at H
           exact absurd H (by simp)
         ·rw [if_neg c28] at H
          have c28b0 : (t684 == t655) = false := beq_eq_false_iff_ne.mpr c28
          have c28b1 : (t684 != t655) = true := bne_iff_ne.mpr c28
          simp only [Option.some.injEq, Prod.mk.injEq] at H
          obtain ⟨rfl, rfl⟩ := H
          go_wp2_with (first | ((with_reducible refine gate_callee (f := 70) rfl ?_); refine goesL_ (some 19) rfl rfl Tryd.func70 (by kernel_rfl) rfl #[.pointer (some ⟨g650, 0, none⟩), .int .i64 200] rfl (by (try simp only [List.map_toArray, List.map_cons, List.map_nil]); first | done | rfl | (simp only [List.length_drop, List.length_take]; rfl)) ?_; (with_reducible refine (code_Reader_Count.calls k1 g650 x651000_1 x651001_1 x651002_1 200 t655 t656 t657 t658 w _ ?side1 ?side2 A7.out).mono ?_); (case side1 => repeat (first | (with_reducible first | exact HI650.out | apply IsS105.alloc | apply IsS105.drewN | apply IsS105.drew | apply IsS105.set_0 | apply IsS105.set_1 | apply IsS105.set_2) | exact HI650.out)); (case side2 => repeat (first | (with_reducible first | exact HB.out | apply below_alloc | apply pw_below_drewN | apply below_drew1 | refine below_set ?_ (IsS105.ge HI650.out)) | exact HB.out)); rintro e w44 ⟨rfl, hi, hb, hk⟩; refine ⟨_, rfl, ?_⟩; have n0_ := Aside0.mk (Kd.R_mono (Kd.R_keep (IsS105.apart (show IsS105 w _ g650 x651000_1 x651001_1 x651002_1 from by repeat (first | (with_reducible first | exact HI650.out | apply IsS105.alloc | apply IsS105.drewN | apply IsS105.drew | apply IsS105.set_0 | apply IsS105.set_1 | apply IsS105.set_2) | exact HI650.out)) (by (with_reducible repeat (first | apply Kd.R_alloc | apply Kd.R_drewN | apply Kd.R_drew)); exact HO_5.out) (by decide)) hk (fun _ h => h.2)) (fun _ h => h.1)); have n1_ := Aside0.mk (hb); have n2_ := Aside0.mk (hi); clear HO_5; clear HB; clear HI650; have HO_5 := n0_; have HB := n1_; have HI650 := n2_; clear n0_ n1_ n2_; (try clear hb); (try clear hb2); (try clear hk); (try clear hi)) | ((with_reducible refine gate_callee (f := 71) rfl ?_); refine goesL_ (some 21) rfl rfl Tryd.func71 (by kernel_rfl) rfl #[.pointer (some ⟨g650, 0, none⟩), .int .i64 200] rfl (by (try simp only [List.map_toArray, List.map_cons, List.map_nil]); first | done | rfl | (simp only [List.length_drop, List.length_take]; rfl)) ?_; (with_reducible refine (code_Reader_Text.calls k1 g650 t656 t657 t658 200 t659 t660 t661 t662 w _ ?side1 ?side2 A8.out).mono ?_); (case side1 => repeat (first | (with_reducible first | exact HI650.out | apply IsS105.alloc | apply IsS105.drewN | apply IsS105.drew | apply IsS105.set_0 | apply IsS105.set_1 | apply IsS105.set_2) | exact HI650.out)); (case side2 => repeat (first | (with_reducible first | exact HB.out | apply below_alloc | apply pw_below_drewN | apply below_drew1 | refine below_set ?_ (IsS105.ge HI650.out)) | exact HB.out)); rintro e w45 ⟨rfl, hi, hb, hk⟩; refine ⟨_, rfl, ?_⟩; have n0_ := Aside0.mk (Kd.R_mono (Kd.R_keep (IsS105.apart (show IsS105 w _ g650 t656 t657 t658 from by repeat (first | (with_reducible first | exact HI650.out | apply IsS105.alloc | apply IsS105.drewN | apply IsS105.drew | apply IsS105.set_0 | apply IsS105.set_1 | apply IsS105.set_2) | exact HI650.out)) (by (with_reducible repeat (first | apply Kd.R_alloc | apply Kd.R_drewN | apply Kd.R_drew)); exact HO_5.out) (by decide)) hk (fun _ h => h.2)) (fun _ h => h.1)); have n1_ := Aside0.mk (hb); have n2_ := Aside0.mk (hi); clear HO_5; clear HB; clear HI650; have HO_5 := n0_; have HB := n1_; have HI650 := n2_; clear n0_ n1_ n2_; (try clear hb); (try clear hb2); (try clear hk); (try clear hi)) | ((with_reducible refine gate_callee (f := 72) rfl ?_); refine goesL_ (some 23) rfl rfl Tryd.func72 (by kernel_rfl) rfl #[.pointer (some ⟨g650, 0, none⟩)] rfl (by (try simp only [List.map_toArray, List.map_cons, List.map_nil]); first | done | rfl | (simp only [List.length_drop, List.length_take]; rfl)) ?_; (with_reducible refine (code_Reader_Num.calls k1 g650 t660 t661 t662 t663 t664 t665 t666 w _ ?side1 ?side2 A9.out).mono ?_); (case side1 => repeat (first | (with_reducible first | exact HI650.out | apply IsS105.alloc | apply IsS105.drewN | apply IsS105.drew | apply IsS105.set_0 | apply IsS105.set_1 | apply IsS105.set_2) | exact HI650.out)); (case side2 => repeat (first | (with_reducible first | exact HB.out | apply below_alloc | apply pw_below_drewN | apply below_drew1 | refine below_set ?_ (IsS105.ge HI650.out)) | exact HB.out)); rintro e w46 ⟨rfl, hi, hb, hk⟩; refine ⟨_, rfl, ?_⟩; have n0_ := Aside0.mk (Kd.R_mono (Kd.R_keep (IsS105.apart (show IsS105 w _ g650 t660 t661 t662 from by repeat (first | (with_reducible first | exact HI650.out | apply IsS105.alloc | apply IsS105.drewN | apply IsS105.drew | apply IsS105.set_0 | apply IsS105.set_1 | apply IsS105.set_2) | exact HI650.out)) (by (with_reducible repeat (first | apply Kd.R_alloc | apply Kd.R_drewN | apply Kd.R_drew)); exact HO_5.out) (by decide)) hk (fun _ h => h.2)) (fun _ h => h.1)); have n1_ := Aside0.mk (hb); have n2_ := Aside0.mk (hi); clear HO_5; clear HB; clear HI650; have HO_5 := n0_; have HB := n1_; have HI650 := n2_; clear n0_ n1_ n2_; (try clear hb); (try clear hb2); (try clear hk); (try clear hi)) | ((with_reducible refine gate_callee (f := 72) rfl ?_); refine goesL_ (some 25) rfl rfl Tryd.func72 (by kernel_rfl) rfl #[.pointer (some ⟨g650, 0, none⟩)] rfl (by (try simp only [List.map_toArray, List.map_cons, List.map_nil]); first | done | rfl | (simp only [List.length_drop, List.length_take]; rfl)) ?_; (with_reducible refine (code_Reader_Num.calls k1 g650 t664 t665 t666 t667 t668 t669 t670 w _ ?side1 ?side2 A10.out).mono ?_); (case side1 => repeat (first | (with_reducible first | exact HI650.out | apply IsS105.alloc | apply IsS105.drewN | apply IsS105.drew | apply IsS105.set_0 | apply IsS105.set_1 | apply IsS105.set_2) | exact HI650.out)); (case side2 => repeat (first | (with_reducible first | exact HB.out | apply below_alloc | apply pw_below_drewN | apply below_drew1 | refine below_set ?_ (IsS105.ge HI650.out)) | exact HB.out)); rintro e w47 ⟨rfl, hi, hb, hk⟩; refine ⟨_, rfl, ?_⟩; have n0_ := Aside0.mk (Kd.R_mono (Kd.R_keep (IsS105.apart (show IsS105 w _ g650 t664 t665 t666 from by repeat (first | (with_reducible first | exact HI650.out | apply IsS105.alloc | apply IsS105.drewN | apply IsS105.drew | apply IsS105.set_0 | apply IsS105.set_1 | apply IsS105.set_2) | exact HI650.out)) (by (with_reducible repeat (first | apply Kd.R_alloc | apply Kd.R_drewN | apply Kd.R_drew)); exact HO_5.out) (by decide)) hk (fun _ h => h.2)) (fun _ h => h.1)); have n1_ := Aside0.mk (hb); have n2_ := Aside0.mk (hi); clear HO_5; clear HB; clear HI650; have HO_5 := n0_; have HB := n1_; have HI650 := n2_; clear n0_ n1_ n2_; (try clear hb); (try clear hb2); (try clear hk); (try clear hi)) | ((with_reducible refine gate_callee (f := 73) rfl ?_); refine goesL_ (some 27) rfl rfl Tryd.func73 (by kernel_rfl) rfl #[.pointer (some ⟨g650, 0, none⟩), .int .i64 32] rfl (by (try simp only [List.map_toArray, List.map_cons, List.map_nil]); first | done | rfl | (simp only [List.length_drop, List.length_take]; rfl)) ?_; (with_reducible refine (code_Reader_Raw.calls g650 t668 t669 t670 32 t671 t672 t673 t674 w _ ?side1 ?side2 A11.out).mono ?_); (case side1 => repeat (first | (with_reducible first | exact HI650.out | apply IsS105.alloc | apply IsS105.drewN | apply IsS105.drew | apply IsS105.set_0 | apply IsS105.set_1 | apply IsS105.set_2) | exact HI650.out)); (case side2 => repeat (first | (with_reducible first | exact HB.out | apply below_alloc | apply pw_below_drewN | apply below_drew1 | refine below_set ?_ (IsS105.ge HI650.out)) | exact HB.out)); rintro e w48 ⟨rfl, hi, hb, hk⟩; refine ⟨_, rfl, ?_⟩; have n0_ := Aside0.mk (Kd.R_mono (Kd.R_keep (IsS105.apart (show IsS105 w _ g650 t668 t669 t670 from by repeat (first | (with_reducible first | exact HI650.out | apply IsS105.alloc | apply IsS105.drewN | apply IsS105.drew | apply IsS105.set_0 | apply IsS105.set_1 | apply IsS105.set_2) | exact HI650.out)) (by (with_reducible repeat (first | apply Kd.R_alloc | apply Kd.R_drewN | apply Kd.R_drew)); exact HO_5.out) (by decide)) hk (fun _ h => h.2)) (fun _ h => h.1)); have n1_ := Aside0.mk (hb); have n2_ := Aside0.mk (hi); clear HO_5; clear HB; clear HI650; have HO_5 := n0_; have HB := n1_; have HI650 := n2_; clear n0_ n1_ n2_; (try clear hb); (try clear hb2); (try clear hk); (try clear hi)) | ((with_reducible refine gate_dst (N := 9) rfl ?_); refine box_event ?hg (N := 9) ?hd (cs := #[.string (⟨#[]⟩ : ByteArray), .int .i64 0, .int .i64 0, .string (⟨#[]⟩ : ByteArray)]) (t := 56) ?hr ?_; (case hd => rfl); (case hg => rfl); (case hr => first | (go_simp; done) | (go_simp; rfl)); intro gb675 hg w49 hbox hb; have n0_ := Aside0.mk (Kd.R_below (Kd.R_elderB (by (with_reducible repeat (first | apply Kd.R_alloc | apply Kd.R_drewN | apply Kd.R_drew)); exact HO_5.out) gb675 (Nat.le_of_eq hg.symm)) hb); have n1_ := Aside0.mk (IsS105.below (by repeat (first | (with_reducible first | exact HI650.out | apply IsS105.alloc | apply IsS105.drewN | apply IsS105.drew | apply IsS105.set_0 | apply IsS105.set_1 | apply IsS105.set_2) | exact HI650.out)) hb); have n2_ := Aside0.mk (below_step (by repeat (first | (with_reducible first | exact HB.out | apply below_alloc | apply pw_below_drewN | apply below_drew1 | refine below_set ?_ (IsS105.ge HI650.out)) | exact HB.out)) hb); have n3_ := Aside0.mk (hbox); have n4_ := Aside0.mk ((by rw [hg]; exact (below_size (by repeat (first | (with_reducible first | exact HB.out | apply below_alloc | apply pw_below_drewN | apply below_drew1 | refine below_set ?_ (IsS105.ge HI650.out)) | exact HB.out))) : w.heap.size ≤ gb675)); have n5_ := Aside0.mk ((by rw [hg]; exact (below_size (by repeat (first | (with_reducible first | exact HB.out | apply below_alloc | apply pw_below_drewN | apply below_drew1 | refine below_set ?_ (IsS105.ge HI650.out)) | exact HB.out))) : w.heap.size ≤ gb675)); have n6_ := Aside0.mk ((by rw [hg]; exact Nat.ne_of_lt (IsS105.lt (show IsS105 w _ g650 t672 t673 t674 from by repeat (first | (with_reducible first | exact HI650.out | apply IsS105.alloc | apply IsS105.drewN | apply IsS105.drew | apply IsS105.set_0 | apply IsS105.set_1 | apply IsS105.set_2) | exact HI650.out))) : g650 ≠ gb675)); have n7_ := Aside0.mk ((by rw [hg]; exact Nat.ne_of_gt (IsS105.lt (show IsS105 w _ g650 t672 t673 t674 from by repeat (first | (with_reducible first | exact HI650.out | apply IsS105.alloc | apply IsS105.drewN | apply IsS105.drew | apply IsS105.set_0 | apply IsS105.set_1 | apply IsS105.set_2) | exact HI650.out))) : gb675 ≠ g650)); clear HO_5; clear HI650; clear HB; have HO_5 := n0_; have HI650 := n1_; have HB := n2_; have BK675 := n3_; have GW675 := n4_; have GE675 := n5_; have NB650_675 := n6_; have NB675_650 := n7_; clear n0_ n1_ n2_ n3_ n4_ n5_ n6_ n7_; clear hb hbox hg; have hnb50 := NB675_650.out; have hnc50 := NB650_675.out; have hcz51_0 : w49.cell? ⟨gb675, 0, none⟩ = some (.string (⟨#[]⟩ : ByteArray)) := (blk_cell BK675.out 0).trans rfl; have hcz51_1 : w49.cell? ⟨gb675, 1, none⟩ = some (.int .i64 0) := (blk_cell BK675.out 1).trans rfl; have hcz51_2 : w49.cell? ⟨gb675, 2, none⟩ = some (.int .i64 0) := (blk_cell BK675.out 2).trans rfl; have hcz51_3 : w49.cell? ⟨gb675, 3, none⟩ = some (.string (⟨#[]⟩ : ByteArray)) := (blk_cell BK675.out 3).trans rfl; have hfz51_0 := blk_frozen BK675.out 0; have hfz51_1 := blk_frozen BK675.out 1; have hfz51_2 := blk_frozen BK675.out 2; have hfz51_3 := blk_frozen BK675.out 3) | ((with_reducible refine gate_callee (f := 74) rfl ?_); refine goesL_ (some 30) rfl rfl Tryd.func74 (by kernel_rfl) rfl #[.pointer (some ⟨g650, 0, none⟩)] rfl (by (try simp only [List.map_toArray, List.map_cons, List.map_nil]); first | done | rfl | (simp only [List.length_drop, List.length_take]; rfl)) ?_; (with_reducible refine (code_Reader_Err.calls g650 t672 t673 t674 t676 t677 t678 t679 w _ ?side1 ?side2 A12.out).mono ?_); (case side1 => repeat (first | (with_reducible first | exact HI650.out | apply IsS105.alloc | apply IsS105.drewN | apply IsS105.drew | apply IsS105.set_0 | apply IsS105.set_1 | apply IsS105.set_2) | refine IsS105.far ?_ NB650_675.out _ | exact HI650.out)); (case side2 => repeat (first | (with_reducible first | exact HB.out | apply below_alloc | apply pw_below_drewN | apply below_drew1 | refine below_set ?_ (IsS105.ge HI650.out) | refine below_set ?_ GE675.out) | exact HB.out)); rintro e w52 ⟨rfl, hi, hb, hk⟩; refine ⟨_, rfl, ?_⟩; have n0_ := Aside0.mk (Kd.R_mono (Kd.R_keep (IsS105.apart (show IsS105 w _ g650 t672 t673 t674 from by repeat (first | (with_reducible first | exact HI650.out | apply IsS105.alloc | apply IsS105.drewN | apply IsS105.drew | apply IsS105.set_0 | apply IsS105.set_1 | apply IsS105.set_2) | refine IsS105.far ?_ NB650_675.out _ | exact HI650.out)) (by (with_reducible repeat (first | apply Kd.R_alloc | apply Kd.R_drewN | apply Kd.R_drew)); exact (Kd.R_mono (Kd.R_far (p := ⟨gb675, 3, none⟩) (Kd.R_far (p := ⟨gb675, 2, none⟩) (Kd.R_far (p := ⟨gb675, 1, none⟩) (Kd.R_far (p := ⟨gb675, 0, none⟩) (Kd.R_mono HO_5.out (fun k_ hk => (⟨hk, hk.2⟩ : _ ∧ k_ ≠ gb675))) (fun _ hk => hk.2) (.string (⟨#[]⟩ : ByteArray))) (fun _ hk => hk.2) (.int .i64 t663)) (fun _ hk => hk.2) (.int .i64 t667)) (fun _ hk => hk.2) (.string t671)) (fun _ h_ => h_.1))) (by decide)) hk (fun _ h => h.2)) (fun _ h => h.1)); have n1_ := Aside0.mk (KeepBut.blk hk (g' := gb675) (o := .cells #[.string (⟨#[]⟩ : ByteArray), .int .i64 t663, .int .i64 t667, .string t671] 56 (0, 0)) (by (with_reducible repeat (first | refine blk_drewN ?_ _ | refine blk_drew ?_ | refine blk_alloc ?_ _)); refine blk_put (cs := #[.string (⟨#[]⟩ : ByteArray), .int .i64 t663, .int .i64 t667, .string (⟨#[]⟩ : ByteArray)]) ?_ 3 _ rfl; (with_reducible repeat (first | refine blk_drewN ?_ _ | refine blk_drew ?_ | refine blk_alloc ?_ _)); refine blk_put (cs := #[.string (⟨#[]⟩ : ByteArray), .int .i64 t663, .int .i64 0, .string (⟨#[]⟩ : ByteArray)]) ?_ 2 _ rfl; (with_reducible repeat (first | refine blk_drewN ?_ _ | refine blk_drew ?_ | refine blk_alloc ?_ _)); refine blk_put (cs := #[.string (⟨#[]⟩ : ByteArray), .int .i64 0, .int .i64 0, .string (⟨#[]⟩ : ByteArray)]) ?_ 1 _ rfl; (with_reducible repeat (first | refine blk_drewN ?_ _ | refine blk_drew ?_ | refine blk_alloc ?_ _)); refine blk_put (cs := #[.string (⟨#[]⟩ : ByteArray), .int .i64 0, .int .i64 0, .string (⟨#[]⟩ : ByteArray)]) ?_ 0 _ rfl; (with_reducible repeat (first | refine blk_drewN ?_ _ | refine blk_drew ?_ | refine blk_alloc ?_ _)); exact BK675.out) NB675_650.out (by simp)); have n2_ := Aside0.mk (hb); have n3_ := Aside0.mk (hi); clear HO_5; clear BK675; clear HB; clear HI650; have HO_5 := n0_; have BK675 := n1_; have HB := n2_; have HI650 := n3_; clear n0_ n1_ n2_ n3_; (try clear hb); (try clear hb2); (try clear hk); (try clear hi); have hcz53_0 : w52.cell? ⟨gb675, 0, none⟩ = some (.string (⟨#[]⟩ : ByteArray)) := (blk_cell BK675.out 0).trans rfl; have hcz53_1 : w52.cell? ⟨gb675, 1, none⟩ = some (.int .i64 t663) := (blk_cell BK675.out 1).trans rfl; have hcz53_2 : w52.cell? ⟨gb675, 2, none⟩ = some (.int .i64 t667) := (blk_cell BK675.out 2).trans rfl; have hcz53_3 : w52.cell? ⟨gb675, 3, none⟩ = some (.string t671) := (blk_cell BK675.out 3).trans rfl; have hfz53_0 := blk_frozen BK675.out 0; have hfz53_1 := blk_frozen BK675.out 1; have hfz53_2 := blk_frozen BK675.out 2; have hfz53_3 := blk_frozen BK675.out 3) | ((with_reducible refine gate_callee (f := 60) rfl ?_); refine goesL_ (some 47) rfl rfl Tryd.func60 (by kernel_rfl) rfl #[.string x6_1, .string ((x6_1.extract 0 (t655 : Int).toNat) ++ t659)] rfl (by (try simp only [List.map_toArray, List.map_cons, List.map_nil]); first | done | rfl | (simp only [List.length_drop, List.length_take]; rfl)) ?_; (with_reducible refine (tree_shared.calls k1 x6_1 ((x6_1.extract 0 (t655 : Int).toNat) ++ t659) t684 _ A27.out).mono ?_); rintro e w54 ⟨rfl, hb⟩; refine ⟨_, rfl, ?_⟩; have n0_ := Aside0.mk (Kd.R_below (by (with_reducible repeat (first | apply Kd.R_alloc | apply Kd.R_drewN | apply Kd.R_drew)); exact (Kd.R_mono (Kd.R_far (p := ⟨gb675, 0, none⟩) (Kd.R_mono HO_5.out (fun k_ hk => (⟨hk, hk.2⟩ : _ ∧ k_ ≠ gb675))) (fun _ hk => hk.2) (.string ((x6_1.extract 0 (t655 : Int).toNat) ++ t659))) (fun _ h_ => h_.1))) hb); have n1_ := Aside0.mk (IsS105.below (show IsS105 w (w52.setCell ⟨gb675, 0, none⟩ (.string ((x6_1.extract 0 (t655 : Int).toNat) ++ t659))) g650 t677 t678 t679 from by repeat (first | (with_reducible first | exact HI650.out | apply IsS105.alloc | apply IsS105.drewN | apply IsS105.drew | apply IsS105.set_0 | apply IsS105.set_1 | apply IsS105.set_2) | refine IsS105.far ?_ NB650_675.out _ | exact HI650.out)) hb); have n2_ := Aside0.mk (blk_below (g := gb675) (o := .cells #[.string ((x6_1.extract 0 (t655 : Int).toNat) ++ t659), .int .i64 t663, .int .i64 t667, .string t671] 56 (0, 0)) (by (with_reducible repeat (first | refine blk_drewN ?_ _ | refine blk_drew ?_ | refine blk_alloc ?_ _)); refine blk_put (cs := #[.string (⟨#[]⟩ : ByteArray), .int .i64 t663, .int .i64 t667, .string t671]) ?_ 0 _ rfl; (with_reducible repeat (first | refine blk_drewN ?_ _ | refine blk_drew ?_ | refine blk_alloc ?_ _)); exact BK675.out) hb); have n3_ := Aside0.mk (below_step (by repeat (first | (with_reducible first | exact HB.out | apply below_alloc | apply pw_below_drewN | apply below_drew1 | refine below_set ?_ (IsS105.ge HI650.out) | refine below_set ?_ GE675.out) | exact HB.out)) hb); clear HO_5; clear HI650; clear BK675; clear HB; have HO_5 := n0_; have HI650 := n1_; have BK675 := n2_; have HB := n3_; clear n0_ n1_ n2_ n3_; (try clear hb); (try clear hb2); (try clear hk); (try clear hi)))
          go_ret2
          exact ⟨_, by first | rfl | (simp [errW_none, errW_some] <;> rfl) | (simp [*, errW_none, errW_some] <;> rfl), by first | exact Kd.R_nil _ _ _ _ _ | exact Kd.N_nil _ _ _ _ _ | exact Kd.V_nil _ _ _ _ _ | exact Kd.Q_nil _ _ _ _ _ | exact Kd.S_nil _ _ _ _ _, by repeat (first | (with_reducible first | exact HB.out | apply below_alloc | apply pw_below_drewN | apply below_drew1 | refine below_set ?_ (IsS105.ge HI650.out) | refine below_set ?_ GE675.out) | exact HB.out)⟩
        ·rw [if_neg c26] at H
         exact absurd H (by simp)
       ·rw [if_neg c25] at H
        exact absurd H (by simp)
      ·rw [if_neg c24] at H
       exact absurd H (by simp)
    ·rw [if_neg c13] at H
     have c13b0 : (t676 == 0) = false := beq_eq_false_iff_ne.mpr c13
     have c13b1 : (t676 != 0) = true := bne_iff_ne.mpr c13
     replace H := Option.bind_eq_some_iff.mp H
     obtain ⟨⟨t680, t681, t682, t683⟩, A550, H⟩ := H
     replace H : (some (([] : List (S56)), t680)) = some (r1, r2) := H
     have A55 := Aside0.mk A550
     clear A550
     simp only [Option.some.injEq, Prod.mk.injEq] at H
     obtain ⟨rfl, rfl⟩ := H
     go_wp2_with (first | ((with_reducible refine gate_callee (f := 70) rfl ?_); refine goesL_ (some 19) rfl rfl Tryd.func70 (by kernel_rfl) rfl #[.pointer (some ⟨g650, 0, none⟩), .int .i64 200] rfl (by (try simp only [List.map_toArray, List.map_cons, List.map_nil]); first | done | rfl | (simp only [List.length_drop, List.length_take]; rfl)) ?_; (with_reducible refine (code_Reader_Count.calls k1 g650 x651000_1 x651001_1 x651002_1 200 t655 t656 t657 t658 w _ ?side1 ?side2 A7.out).mono ?_); (case side1 => repeat (first | (with_reducible first | exact HI650.out | apply IsS105.alloc | apply IsS105.drewN | apply IsS105.drew | apply IsS105.set_0 | apply IsS105.set_1 | apply IsS105.set_2) | exact HI650.out)); (case side2 => repeat (first | (with_reducible first | exact HB.out | apply below_alloc | apply pw_below_drewN | apply below_drew1 | refine below_set ?_ (IsS105.ge HI650.out)) | exact HB.out)); rintro e w56 ⟨rfl, hi, hb, hk⟩; refine ⟨_, rfl, ?_⟩; have n0_ := Aside0.mk (Kd.R_mono (Kd.R_keep (IsS105.apart (show IsS105 w _ g650 x651000_1 x651001_1 x651002_1 from by repeat (first | (with_reducible first | exact HI650.out | apply IsS105.alloc | apply IsS105.drewN | apply IsS105.drew | apply IsS105.set_0 | apply IsS105.set_1 | apply IsS105.set_2) | exact HI650.out)) (by (with_reducible repeat (first | apply Kd.R_alloc | apply Kd.R_drewN | apply Kd.R_drew)); exact HO_5.out) (by decide)) hk (fun _ h => h.2)) (fun _ h => h.1)); have n1_ := Aside0.mk (hb); have n2_ := Aside0.mk (hi); clear HO_5; clear HB; clear HI650; have HO_5 := n0_; have HB := n1_; have HI650 := n2_; clear n0_ n1_ n2_; (try clear hb); (try clear hb2); (try clear hk); (try clear hi)) | ((with_reducible refine gate_callee (f := 71) rfl ?_); refine goesL_ (some 21) rfl rfl Tryd.func71 (by kernel_rfl) rfl #[.pointer (some ⟨g650, 0, none⟩), .int .i64 200] rfl (by (try simp only [List.map_toArray, List.map_cons, List.map_nil]); first | done | rfl | (simp only [List.length_drop, List.length_take]; rfl)) ?_; (with_reducible refine (code_Reader_Text.calls k1 g650 t656 t657 t658 200 t659 t660 t661 t662 w _ ?side1 ?side2 A8.out).mono ?_); (case side1 => repeat (first | (with_reducible first | exact HI650.out | apply IsS105.alloc | apply IsS105.drewN | apply IsS105.drew | apply IsS105.set_0 | apply IsS105.set_1 | apply IsS105.set_2) | exact HI650.out)); (case side2 => repeat (first | (with_reducible first | exact HB.out | apply below_alloc | apply pw_below_drewN | apply below_drew1 | refine below_set ?_ (IsS105.ge HI650.out)) | exact HB.out)); rintro e w57 ⟨rfl, hi, hb, hk⟩; refine ⟨_, rfl, ?_⟩; have n0_ := Aside0.mk (Kd.R_mono (Kd.R_keep (IsS105.apart (show IsS105 w _ g650 t656 t657 t658 from by repeat (first | (with_reducible first | exact HI650.out | apply IsS105.alloc | apply IsS105.drewN | apply IsS105.drew | apply IsS105.set_0 | apply IsS105.set_1 | apply IsS105.set_2) | exact HI650.out)) (by (with_reducible repeat (first | apply Kd.R_alloc | apply Kd.R_drewN | apply Kd.R_drew)); exact HO_5.out) (by decide)) hk (fun _ h => h.2)) (fun _ h => h.1)); have n1_ := Aside0.mk (hb); have n2_ := Aside0.mk (hi); clear HO_5; clear HB; clear HI650; have HO_5 := n0_; have HB := n1_; have HI650 := n2_; clear n0_ n1_ n2_; (try clear hb); (try clear hb2); (try clear hk); (try clear hi)) | ((with_reducible refine gate_callee (f := 72) rfl ?_); refine goesL_ (some 23) rfl rfl Tryd.func72 (by kernel_rfl) rfl #[.pointer (some ⟨g650, 0, none⟩)] rfl (by (try simp only [List.map_toArray, List.map_cons, List.map_nil]); first | done | rfl | (simp only [List.length_drop, List.length_take]; rfl)) ?_; (with_reducible refine (code_Reader_Num.calls k1 g650 t660 t661 t662 t663 t664 t665 t666 w _ ?side1 ?side2 A9.out).mono ?_); (case side1 => repeat (first | (with_reducible first | exact HI650.out | apply IsS105.alloc | apply IsS105.drewN | apply IsS105.drew | apply IsS105.set_0 | apply IsS105.set_1 | apply IsS105.set_2) | exact HI650.out)); (case side2 => repeat (first | (with_reducible first | exact HB.out | apply below_alloc | apply pw_below_drewN | apply below_drew1 | refine below_set ?_ (IsS105.ge HI650.out)) | exact HB.out)); rintro e w58 ⟨rfl, hi, hb, hk⟩; refine ⟨_, rfl, ?_⟩; have n0_ := Aside0.mk (Kd.R_mono (Kd.R_keep (IsS105.apart (show IsS105 w _ g650 t660 t661 t662 from by repeat (first | (with_reducible first | exact HI650.out | apply IsS105.alloc | apply IsS105.drewN | apply IsS105.drew | apply IsS105.set_0 | apply IsS105.set_1 | apply IsS105.set_2) | exact HI650.out)) (by (with_reducible repeat (first | apply Kd.R_alloc | apply Kd.R_drewN | apply Kd.R_drew)); exact HO_5.out) (by decide)) hk (fun _ h => h.2)) (fun _ h => h.1)); have n1_ := Aside0.mk (hb); have n2_ := Aside0.mk (hi); clear HO_5; clear HB; clear HI650; have HO_5 := n0_; have HB := n1_; have HI650 := n2_; clear n0_ n1_ n2_; (try clear hb); (try clear hb2); (try clear hk); (try clear hi)) | ((with_reducible refine gate_callee (f := 72) rfl ?_); refine goesL_ (some 25) rfl rfl Tryd.func72 (by kernel_rfl) rfl #[.pointer (some ⟨g650, 0, none⟩)] rfl (by (try simp only [List.map_toArray, List.map_cons, List.map_nil]); first | done | rfl | (simp only [List.length_drop, List.length_take]; rfl)) ?_; (with_reducible refine (code_Reader_Num.calls k1 g650 t664 t665 t666 t667 t668 t669 t670 w _ ?side1 ?side2 A10.out).mono ?_); (case side1 => repeat (first | (with_reducible first | exact HI650.out | apply IsS105.alloc | apply IsS105.drewN | apply IsS105.drew | apply IsS105.set_0 | apply IsS105.set_1 | apply IsS105.set_2) | exact HI650.out)); (case side2 => repeat (first | (with_reducible first | exact HB.out | apply below_alloc | apply pw_below_drewN | apply below_drew1 | refine below_set ?_ (IsS105.ge HI650.out)) | exact HB.out)); rintro e w59 ⟨rfl, hi, hb, hk⟩; refine ⟨_, rfl, ?_⟩; have n0_ := Aside0.mk (Kd.R_mono (Kd.R_keep (IsS105.apart (show IsS105 w _ g650 t664 t665 t666 from by repeat (first | (with_reducible first | exact HI650.out | apply IsS105.alloc | apply IsS105.drewN | apply IsS105.drew | apply IsS105.set_0 | apply IsS105.set_1 | apply IsS105.set_2) | exact HI650.out)) (by (with_reducible repeat (first | apply Kd.R_alloc | apply Kd.R_drewN | apply Kd.R_drew)); exact HO_5.out) (by decide)) hk (fun _ h => h.2)) (fun _ h => h.1)); have n1_ := Aside0.mk (hb); have n2_ := Aside0.mk (hi); clear HO_5; clear HB; clear HI650; have HO_5 := n0_; have HB := n1_; have HI650 := n2_; clear n0_ n1_ n2_; (try clear hb); (try clear hb2); (try clear hk); (try clear hi)) | ((with_reducible refine gate_callee (f := 73) rfl ?_); refine goesL_ (some 27) rfl rfl Tryd.func73 (by kernel_rfl) rfl #[.pointer (some ⟨g650, 0, none⟩), .int .i64 32] rfl (by (try simp only [List.map_toArray, List.map_cons, List.map_nil]); first | done | rfl | (simp only [List.length_drop, List.length_take]; rfl)) ?_; (with_reducible refine (code_Reader_Raw.calls g650 t668 t669 t670 32 t671 t672 t673 t674 w _ ?side1 ?side2 A11.out).mono ?_); (case side1 => repeat (first | (with_reducible first | exact HI650.out | apply IsS105.alloc | apply IsS105.drewN | apply IsS105.drew | apply IsS105.set_0 | apply IsS105.set_1 | apply IsS105.set_2) | exact HI650.out)); (case side2 => repeat (first | (with_reducible first | exact HB.out | apply below_alloc | apply pw_below_drewN | apply below_drew1 | refine below_set ?_ (IsS105.ge HI650.out)) | exact HB.out)); rintro e w60 ⟨rfl, hi, hb, hk⟩; refine ⟨_, rfl, ?_⟩; have n0_ := Aside0.mk (Kd.R_mono (Kd.R_keep (IsS105.apart (show IsS105 w _ g650 t668 t669 t670 from by repeat (first | (with_reducible first | exact HI650.out | apply IsS105.alloc | apply IsS105.drewN | apply IsS105.drew | apply IsS105.set_0 | apply IsS105.set_1 | apply IsS105.set_2) | exact HI650.out)) (by (with_reducible repeat (first | apply Kd.R_alloc | apply Kd.R_drewN | apply Kd.R_drew)); exact HO_5.out) (by decide)) hk (fun _ h => h.2)) (fun _ h => h.1)); have n1_ := Aside0.mk (hb); have n2_ := Aside0.mk (hi); clear HO_5; clear HB; clear HI650; have HO_5 := n0_; have HB := n1_; have HI650 := n2_; clear n0_ n1_ n2_; (try clear hb); (try clear hb2); (try clear hk); (try clear hi)) | ((with_reducible refine gate_dst (N := 9) rfl ?_); refine box_event ?hg (N := 9) ?hd (cs := #[.string (⟨#[]⟩ : ByteArray), .int .i64 0, .int .i64 0, .string (⟨#[]⟩ : ByteArray)]) (t := 56) ?hr ?_; (case hd => rfl); (case hg => rfl); (case hr => first | (go_simp; done) | (go_simp; rfl)); intro gb675 hg w61 hbox hb; have n0_ := Aside0.mk (Kd.R_below (Kd.R_elderB (by (with_reducible repeat (first | apply Kd.R_alloc | apply Kd.R_drewN | apply Kd.R_drew)); exact HO_5.out) gb675 (Nat.le_of_eq hg.symm)) hb); have n1_ := Aside0.mk (IsS105.below (by repeat (first | (with_reducible first | exact HI650.out | apply IsS105.alloc | apply IsS105.drewN | apply IsS105.drew | apply IsS105.set_0 | apply IsS105.set_1 | apply IsS105.set_2) | exact HI650.out)) hb); have n2_ := Aside0.mk (below_step (by repeat (first | (with_reducible first | exact HB.out | apply below_alloc | apply pw_below_drewN | apply below_drew1 | refine below_set ?_ (IsS105.ge HI650.out)) | exact HB.out)) hb); have n3_ := Aside0.mk (hbox); have n4_ := Aside0.mk ((by rw [hg]; exact (below_size (by repeat (first | (with_reducible first | exact HB.out | apply below_alloc | apply pw_below_drewN | apply below_drew1 | refine below_set ?_ (IsS105.ge HI650.out)) | exact HB.out))) : w.heap.size ≤ gb675)); have n5_ := Aside0.mk ((by rw [hg]; exact (below_size (by repeat (first | (with_reducible first | exact HB.out | apply below_alloc | apply pw_below_drewN | apply below_drew1 | refine below_set ?_ (IsS105.ge HI650.out)) | exact HB.out))) : w.heap.size ≤ gb675)); have n6_ := Aside0.mk ((by rw [hg]; exact Nat.ne_of_lt (IsS105.lt (show IsS105 w _ g650 t672 t673 t674 from by repeat (first | (with_reducible first | exact HI650.out | apply IsS105.alloc | apply IsS105.drewN | apply IsS105.drew | apply IsS105.set_0 | apply IsS105.set_1 | apply IsS105.set_2) | exact HI650.out))) : g650 ≠ gb675)); have n7_ := Aside0.mk ((by rw [hg]; exact Nat.ne_of_gt (IsS105.lt (show IsS105 w _ g650 t672 t673 t674 from by repeat (first | (with_reducible first | exact HI650.out | apply IsS105.alloc | apply IsS105.drewN | apply IsS105.drew | apply IsS105.set_0 | apply IsS105.set_1 | apply IsS105.set_2) | exact HI650.out))) : gb675 ≠ g650)); clear HO_5; clear HI650; clear HB; have HO_5 := n0_; have HI650 := n1_; have HB := n2_; have BK675 := n3_; have GW675 := n4_; have GE675 := n5_; have NB650_675 := n6_; have NB675_650 := n7_; clear n0_ n1_ n2_ n3_ n4_ n5_ n6_ n7_; clear hb hbox hg; have hnb62 := NB675_650.out; have hnc62 := NB650_675.out; have hcz63_0 : w61.cell? ⟨gb675, 0, none⟩ = some (.string (⟨#[]⟩ : ByteArray)) := (blk_cell BK675.out 0).trans rfl; have hcz63_1 : w61.cell? ⟨gb675, 1, none⟩ = some (.int .i64 0) := (blk_cell BK675.out 1).trans rfl; have hcz63_2 : w61.cell? ⟨gb675, 2, none⟩ = some (.int .i64 0) := (blk_cell BK675.out 2).trans rfl; have hcz63_3 : w61.cell? ⟨gb675, 3, none⟩ = some (.string (⟨#[]⟩ : ByteArray)) := (blk_cell BK675.out 3).trans rfl; have hfz63_0 := blk_frozen BK675.out 0; have hfz63_1 := blk_frozen BK675.out 1; have hfz63_2 := blk_frozen BK675.out 2; have hfz63_3 := blk_frozen BK675.out 3) | ((with_reducible refine gate_callee (f := 74) rfl ?_); refine goesL_ (some 30) rfl rfl Tryd.func74 (by kernel_rfl) rfl #[.pointer (some ⟨g650, 0, none⟩)] rfl (by (try simp only [List.map_toArray, List.map_cons, List.map_nil]); first | done | rfl | (simp only [List.length_drop, List.length_take]; rfl)) ?_; (with_reducible refine (code_Reader_Err.calls g650 t672 t673 t674 t676 t677 t678 t679 w _ ?side1 ?side2 A12.out).mono ?_); (case side1 => repeat (first | (with_reducible first | exact HI650.out | apply IsS105.alloc | apply IsS105.drewN | apply IsS105.drew | apply IsS105.set_0 | apply IsS105.set_1 | apply IsS105.set_2) | refine IsS105.far ?_ NB650_675.out _ | exact HI650.out)); (case side2 => repeat (first | (with_reducible first | exact HB.out | apply below_alloc | apply pw_below_drewN | apply below_drew1 | refine below_set ?_ (IsS105.ge HI650.out) | refine below_set ?_ GE675.out) | exact HB.out)); rintro e w64 ⟨rfl, hi, hb, hk⟩; refine ⟨_, rfl, ?_⟩; have n0_ := Aside0.mk (Kd.R_mono (Kd.R_keep (IsS105.apart (show IsS105 w _ g650 t672 t673 t674 from by repeat (first | (with_reducible first | exact HI650.out | apply IsS105.alloc | apply IsS105.drewN | apply IsS105.drew | apply IsS105.set_0 | apply IsS105.set_1 | apply IsS105.set_2) | refine IsS105.far ?_ NB650_675.out _ | exact HI650.out)) (by (with_reducible repeat (first | apply Kd.R_alloc | apply Kd.R_drewN | apply Kd.R_drew)); exact (Kd.R_mono (Kd.R_far (p := ⟨gb675, 3, none⟩) (Kd.R_far (p := ⟨gb675, 2, none⟩) (Kd.R_far (p := ⟨gb675, 1, none⟩) (Kd.R_far (p := ⟨gb675, 0, none⟩) (Kd.R_mono HO_5.out (fun k_ hk => (⟨hk, hk.2⟩ : _ ∧ k_ ≠ gb675))) (fun _ hk => hk.2) (.string (⟨#[]⟩ : ByteArray))) (fun _ hk => hk.2) (.int .i64 t663)) (fun _ hk => hk.2) (.int .i64 t667)) (fun _ hk => hk.2) (.string t671)) (fun _ h_ => h_.1))) (by decide)) hk (fun _ h => h.2)) (fun _ h => h.1)); have n1_ := Aside0.mk (KeepBut.blk hk (g' := gb675) (o := .cells #[.string (⟨#[]⟩ : ByteArray), .int .i64 t663, .int .i64 t667, .string t671] 56 (0, 0)) (by (with_reducible repeat (first | refine blk_drewN ?_ _ | refine blk_drew ?_ | refine blk_alloc ?_ _)); refine blk_put (cs := #[.string (⟨#[]⟩ : ByteArray), .int .i64 t663, .int .i64 t667, .string (⟨#[]⟩ : ByteArray)]) ?_ 3 _ rfl; (with_reducible repeat (first | refine blk_drewN ?_ _ | refine blk_drew ?_ | refine blk_alloc ?_ _)); refine blk_put (cs := #[.string (⟨#[]⟩ : ByteArray), .int .i64 t663, .int .i64 0, .string (⟨#[]⟩ : ByteArray)]) ?_ 2 _ rfl; (with_reducible repeat (first | refine blk_drewN ?_ _ | refine blk_drew ?_ | refine blk_alloc ?_ _)); refine blk_put (cs := #[.string (⟨#[]⟩ : ByteArray), .int .i64 0, .int .i64 0, .string (⟨#[]⟩ : ByteArray)]) ?_ 1 _ rfl; (with_reducible repeat (first | refine blk_drewN ?_ _ | refine blk_drew ?_ | refine blk_alloc ?_ _)); refine blk_put (cs := #[.string (⟨#[]⟩ : ByteArray), .int .i64 0, .int .i64 0, .string (⟨#[]⟩ : ByteArray)]) ?_ 0 _ rfl; (with_reducible repeat (first | refine blk_drewN ?_ _ | refine blk_drew ?_ | refine blk_alloc ?_ _)); exact BK675.out) NB675_650.out (by simp)); have n2_ := Aside0.mk (hb); have n3_ := Aside0.mk (hi); clear HO_5; clear BK675; clear HB; clear HI650; have HO_5 := n0_; have BK675 := n1_; have HB := n2_; have HI650 := n3_; clear n0_ n1_ n2_ n3_; (try clear hb); (try clear hb2); (try clear hk); (try clear hi)) | ((with_reducible refine gate_callee (f := 74) rfl ?_); refine goesL_ (some 33) rfl rfl Tryd.func74 (by kernel_rfl) rfl #[.pointer (some ⟨g650, 0, none⟩)] rfl (by (try simp only [List.map_toArray, List.map_cons, List.map_nil]); first | done | rfl | (simp only [List.length_drop, List.length_take]; rfl)) ?_; (with_reducible refine (code_Reader_Err.calls g650 t677 t678 t679 t680 t681 t682 t683 w _ ?side1 ?side2 A55.out).mono ?_); (case side1 => repeat (first | (with_reducible first | exact HI650.out | apply IsS105.alloc | apply IsS105.drewN | apply IsS105.drew | apply IsS105.set_0 | apply IsS105.set_1 | apply IsS105.set_2) | refine IsS105.far ?_ NB650_675.out _ | exact HI650.out)); (case side2 => repeat (first | (with_reducible first | exact HB.out | apply below_alloc | apply pw_below_drewN | apply below_drew1 | refine below_set ?_ (IsS105.ge HI650.out) | refine below_set ?_ GE675.out) | exact HB.out)); rintro e w65 ⟨rfl, hi, hb, hk⟩; refine ⟨_, rfl, ?_⟩; have n0_ := Aside0.mk (Kd.R_mono (Kd.R_keep (IsS105.apart (show IsS105 w _ g650 t677 t678 t679 from by repeat (first | (with_reducible first | exact HI650.out | apply IsS105.alloc | apply IsS105.drewN | apply IsS105.drew | apply IsS105.set_0 | apply IsS105.set_1 | apply IsS105.set_2) | refine IsS105.far ?_ NB650_675.out _ | exact HI650.out)) (by (with_reducible repeat (first | apply Kd.R_alloc | apply Kd.R_drewN | apply Kd.R_drew)); exact HO_5.out) (by decide)) hk (fun _ h => h.2)) (fun _ h => h.1)); have n1_ := Aside0.mk (KeepBut.blk hk (g' := gb675) (o := .cells #[.string (⟨#[]⟩ : ByteArray), .int .i64 t663, .int .i64 t667, .string t671] 56 (0, 0)) (by (with_reducible repeat (first | refine blk_drewN ?_ _ | refine blk_drew ?_ | refine blk_alloc ?_ _)); exact BK675.out) NB675_650.out (by simp)); have n2_ := Aside0.mk (hb); have n3_ := Aside0.mk (hi); clear HO_5; clear BK675; clear HB; clear HI650; have HO_5 := n0_; have BK675 := n1_; have HB := n2_; have HI650 := n3_; clear n0_ n1_ n2_ n3_; (try clear hb); (try clear hb2); (try clear hk); (try clear hi)))
     go_ret2
     exact ⟨_, by first | rfl | (simp [errW_none, errW_some] <;> rfl) | (simp [*, errW_none, errW_some] <;> rfl), by first | exact Kd.R_nil _ _ _ _ _ | exact Kd.N_nil _ _ _ _ _ | exact Kd.V_nil _ _ _ _ _ | exact Kd.Q_nil _ _ _ _ _ | exact Kd.S_nil _ _ _ _ _, by repeat (first | (with_reducible first | exact HB.out | apply below_alloc | apply pw_below_drewN | apply below_drew1 | refine below_set ?_ (IsS105.ge HI650.out) | refine below_set ?_ GE675.out) | exact HB.out)⟩
   ·rw [if_neg c6] at H
    have c6b0 : decide (x16_1 < t651) = false := decide_eq_false c6
    clear c6
    replace H := Option.bind_eq_some_iff.mp H
    obtain ⟨⟨t688, t689, t690, t691⟩, A660, H⟩ := H
    replace H : (if t688 = 0 then ((tree_Right.f k1 x5_1).bind fun t692 => (if t692 = 0 then (some (x5_1, 0)) else (some (([] : List (S56)), t692)))) else (some (([] : List (S56)), t688))) = some (r1, r2) := H
    have A66 := Aside0.mk A660
    clear A660
    by_cases c67 : t688 = 0
    ·rw [if_pos c67] at H
     have c67b0 : (t688 == 0) = true := beq_iff_eq.mpr c67
     have c67b1 : (t688 != 0) = false := bne_eq_false_iff_eq.mpr c67
     clear c67
     replace H := Option.bind_eq_some_iff.mp H
     obtain ⟨t692, A680, H⟩ := H
     replace H : (if t692 = 0 then (some (x5_1, 0)) else (some (([] : List (S56)), t692))) = some (r1, r2) := H
     have A68 := Aside0.mk A680
     clear A680
     by_cases c69 : t692 = 0
     ·rw [if_pos c69] at H
      have c69b0 : (t692 == 0) = true := beq_iff_eq.mpr c69
      have c69b1 : (t692 != 0) = false := bne_eq_false_iff_eq.mpr c69
      clear c69
      simp only [Option.some.injEq, Prod.mk.injEq] at H
      obtain ⟨rfl, rfl⟩ := H
      go_wp2_with (first | ((with_reducible refine gate_callee (f := 75) rfl ?_); refine goesL_ (some 58) rfl rfl Tryd.func75 (by kernel_rfl) rfl #[.pointer (some ⟨g650, 0, none⟩)] rfl (by (try simp only [List.map_toArray, List.map_cons, List.map_nil]); first | done | rfl | (simp only [List.length_drop, List.length_take]; rfl)) ?_; (with_reducible refine (code_Reader_End.calls k1 g650 x651000_1 x651001_1 x651002_1 t688 t689 t690 t691 w _ ?side1 ?side2 A66.out).mono ?_); (case side1 => repeat (first | (with_reducible first | exact HI650.out | apply IsS105.alloc | apply IsS105.drewN | apply IsS105.drew | apply IsS105.set_0 | apply IsS105.set_1 | apply IsS105.set_2) | exact HI650.out)); (case side2 => repeat (first | (with_reducible first | exact HB.out | apply below_alloc | apply pw_below_drewN | apply below_drew1 | refine below_set ?_ (IsS105.ge HI650.out)) | exact HB.out)); rintro e w70 ⟨rfl, hi, hb, hk⟩; refine ⟨_, rfl, ?_⟩; have n0_ := Aside0.mk (Kd.R_mono (Kd.R_keep (IsS105.apart (show IsS105 w _ g650 x651000_1 x651001_1 x651002_1 from by repeat (first | (with_reducible first | exact HI650.out | apply IsS105.alloc | apply IsS105.drewN | apply IsS105.drew | apply IsS105.set_0 | apply IsS105.set_1 | apply IsS105.set_2) | exact HI650.out)) (by (with_reducible repeat (first | apply Kd.R_alloc | apply Kd.R_drewN | apply Kd.R_drew)); exact HO_5.out) (by decide)) hk (fun _ h => h.2)) (fun _ h => h.1)); have n1_ := Aside0.mk (hb); have n2_ := Aside0.mk (hi); clear HO_5; clear HB; clear HI650; have HO_5 := n0_; have HB := n1_; have HI650 := n2_; clear n0_ n1_ n2_; (try clear hb); (try clear hb2); (try clear hk); (try clear hi); obtain ⟨Ao71, co71, eo71⟩ := Kd.R_slice HO_5.out; subst eo71) | ((with_reducible refine gate_callee (f := 34) rfl ?_); refine goesL_ (some 63) rfl rfl Tryd.func34 (by kernel_rfl) rfl #[.slice Ao71 x5_1.length co71] rfl (by (try simp only [List.map_toArray, List.map_cons, List.map_nil]); first | done | rfl | (simp only [List.length_drop, List.length_take]; rfl)) ?_; (with_reducible refine (tree_Right.calls k1 _ _ x5_1 t692 _ ?side1 ?side2 A68.out).mono ?_); (case side1 => repeat (first | exact (Kd.R_reads' HO_5.out).2.2 | (with_reducible refine Kd.C_alloc ?_ _) | (with_reducible refine Kd.C_drewN ?_ _) | (with_reducible refine Kd.C_drew ?_))); (case side2 => exact (Kd.R_reads' HO_5.out).2.1); rintro e w72 ⟨rfl, hb⟩; refine ⟨_, rfl, ?_⟩; have n0_ := Aside0.mk (Kd.R_below (by (with_reducible repeat (first | apply Kd.R_alloc | apply Kd.R_drewN | apply Kd.R_drew)); exact HO_5.out) hb); have n1_ := Aside0.mk (IsS105.below (by repeat (first | (with_reducible first | exact HI650.out | apply IsS105.alloc | apply IsS105.drewN | apply IsS105.drew | apply IsS105.set_0 | apply IsS105.set_1 | apply IsS105.set_2) | exact HI650.out)) hb); have n2_ := Aside0.mk (below_step (by repeat (first | (with_reducible first | exact HB.out | apply below_alloc | apply pw_below_drewN | apply below_drew1 | refine below_set ?_ (IsS105.ge HI650.out)) | exact HB.out)) hb); clear HO_5; clear HI650; clear HB; have HO_5 := n0_; have HI650 := n1_; have HB := n2_; clear n0_ n1_ n2_; (try clear hb); (try clear hb2); (try clear hk); (try clear hi)))
      go_ret2
      exact ⟨_, by first | rfl | (simp [errW_none, errW_some] <;> rfl) | (simp [*, errW_none, errW_some] <;> rfl), by (with_reducible repeat (first | apply Kd.R_alloc | apply Kd.R_drewN | apply Kd.R_drew)); exact HO_5.out, by repeat (first | (with_reducible first | exact HB.out | apply below_alloc | apply pw_below_drewN | apply below_drew1 | refine below_set ?_ (IsS105.ge HI650.out)) | exact HB.out)⟩
     ·rw [if_neg c69] at H
      have c69b0 : (t692 == 0) = false := beq_eq_false_iff_ne.mpr c69
      have c69b1 : (t692 != 0) = true := bne_iff_ne.mpr c69
      simp only [Option.some.injEq, Prod.mk.injEq] at H
      obtain ⟨rfl, rfl⟩ := H
      go_wp2_with (first | ((with_reducible refine gate_callee (f := 75) rfl ?_); refine goesL_ (some 58) rfl rfl Tryd.func75 (by kernel_rfl) rfl #[.pointer (some ⟨g650, 0, none⟩)] rfl (by (try simp only [List.map_toArray, List.map_cons, List.map_nil]); first | done | rfl | (simp only [List.length_drop, List.length_take]; rfl)) ?_; (with_reducible refine (code_Reader_End.calls k1 g650 x651000_1 x651001_1 x651002_1 t688 t689 t690 t691 w _ ?side1 ?side2 A66.out).mono ?_); (case side1 => repeat (first | (with_reducible first | exact HI650.out | apply IsS105.alloc | apply IsS105.drewN | apply IsS105.drew | apply IsS105.set_0 | apply IsS105.set_1 | apply IsS105.set_2) | exact HI650.out)); (case side2 => repeat (first | (with_reducible first | exact HB.out | apply below_alloc | apply pw_below_drewN | apply below_drew1 | refine below_set ?_ (IsS105.ge HI650.out)) | exact HB.out)); rintro e w73 ⟨rfl, hi, hb, hk⟩; refine ⟨_, rfl, ?_⟩; have n0_ := Aside0.mk (Kd.R_mono (Kd.R_keep (IsS105.apart (show IsS105 w _ g650 x651000_1 x651001_1 x651002_1 from by repeat (first | (with_reducible first | exact HI650.out | apply IsS105.alloc | apply IsS105.drewN | apply IsS105.drew | apply IsS105.set_0 | apply IsS105.set_1 | apply IsS105.set_2) | exact HI650.out)) (by (with_reducible repeat (first | apply Kd.R_alloc | apply Kd.R_drewN | apply Kd.R_drew)); exact HO_5.out) (by decide)) hk (fun _ h => h.2)) (fun _ h => h.1)); have n1_ := Aside0.mk (hb); have n2_ := Aside0.mk (hi); clear HO_5; clear HB; clear HI650; have HO_5 := n0_; have HB := n1_; have HI650 := n2_; clear n0_ n1_ n2_; (try clear hb); (try clear hb2); (try clear hk); (try clear hi); obtain ⟨Ao74, co74, eo74⟩ := Kd.R_slice HO_5.out; subst eo74) | ((with_reducible refine gate_callee (f := 34) rfl ?_); refine goesL_ (some 63) rfl rfl Tryd.func34 (by kernel_rfl) rfl #[.slice Ao74 x5_1.length co74] rfl (by (try simp only [List.map_toArray, List.map_cons, List.map_nil]); first | done | rfl | (simp only [List.length_drop, List.length_take]; rfl)) ?_; (with_reducible refine (tree_Right.calls k1 _ _ x5_1 t692 _ ?side1 ?side2 A68.out).mono ?_); (case side1 => repeat (first | exact (Kd.R_reads' HO_5.out).2.2 | (with_reducible refine Kd.C_alloc ?_ _) | (with_reducible refine Kd.C_drewN ?_ _) | (with_reducible refine Kd.C_drew ?_))); (case side2 => exact (Kd.R_reads' HO_5.out).2.1); rintro e w75 ⟨rfl, hb⟩; refine ⟨_, rfl, ?_⟩; have n0_ := Aside0.mk (Kd.R_below (by (with_reducible repeat (first | apply Kd.R_alloc | apply Kd.R_drewN | apply Kd.R_drew)); exact HO_5.out) hb); have n1_ := Aside0.mk (IsS105.below (by repeat (first | (with_reducible first | exact HI650.out | apply IsS105.alloc | apply IsS105.drewN | apply IsS105.drew | apply IsS105.set_0 | apply IsS105.set_1 | apply IsS105.set_2) | exact HI650.out)) hb); have n2_ := Aside0.mk (below_step (by repeat (first | (with_reducible first | exact HB.out | apply below_alloc | apply pw_below_drewN | apply below_drew1 | refine below_set ?_ (IsS105.ge HI650.out)) | exact HB.out)) hb); clear HO_5; clear HI650; clear HB; have HO_5 := n0_; have HI650 := n1_; have HB := n2_; clear n0_ n1_ n2_; (try clear hb); (try clear hb2); (try clear hk); (try clear hi)))
      go_ret2
      exact ⟨_, by first | rfl | (simp [errW_none, errW_some] <;> rfl) | (simp [*, errW_none, errW_some] <;> rfl), by first | exact Kd.R_nil _ _ _ _ _ | exact Kd.N_nil _ _ _ _ _ | exact Kd.V_nil _ _ _ _ _ | exact Kd.Q_nil _ _ _ _ _ | exact Kd.S_nil _ _ _ _ _, by repeat (first | (with_reducible first | exact HB.out | apply below_alloc | apply pw_below_drewN | apply below_drew1 | refine below_set ?_ (IsS105.ge HI650.out)) | exact HB.out)⟩
    ·rw [if_neg c67] at H
     have c67b0 : (t688 == 0) = false := beq_eq_false_iff_ne.mpr c67
     have c67b1 : (t688 != 0) = true := bne_iff_ne.mpr c67
     simp only [Option.some.injEq, Prod.mk.injEq] at H
     obtain ⟨rfl, rfl⟩ := H
     go_wp2_with (first | ((with_reducible refine gate_callee (f := 75) rfl ?_); refine goesL_ (some 58) rfl rfl Tryd.func75 (by kernel_rfl) rfl #[.pointer (some ⟨g650, 0, none⟩)] rfl (by (try simp only [List.map_toArray, List.map_cons, List.map_nil]); first | done | rfl | (simp only [List.length_drop, List.length_take]; rfl)) ?_; (with_reducible refine (code_Reader_End.calls k1 g650 x651000_1 x651001_1 x651002_1 t688 t689 t690 t691 w _ ?side1 ?side2 A66.out).mono ?_); (case side1 => repeat (first | (with_reducible first | exact HI650.out | apply IsS105.alloc | apply IsS105.drewN | apply IsS105.drew | apply IsS105.set_0 | apply IsS105.set_1 | apply IsS105.set_2) | exact HI650.out)); (case side2 => repeat (first | (with_reducible first | exact HB.out | apply below_alloc | apply pw_below_drewN | apply below_drew1 | refine below_set ?_ (IsS105.ge HI650.out)) | exact HB.out)); rintro e w76 ⟨rfl, hi, hb, hk⟩; refine ⟨_, rfl, ?_⟩; have n0_ := Aside0.mk (Kd.R_mono (Kd.R_keep (IsS105.apart (show IsS105 w _ g650 x651000_1 x651001_1 x651002_1 from by repeat (first | (with_reducible first | exact HI650.out | apply IsS105.alloc | apply IsS105.drewN | apply IsS105.drew | apply IsS105.set_0 | apply IsS105.set_1 | apply IsS105.set_2) | exact HI650.out)) (by (with_reducible repeat (first | apply Kd.R_alloc | apply Kd.R_drewN | apply Kd.R_drew)); exact HO_5.out) (by decide)) hk (fun _ h => h.2)) (fun _ h => h.1)); have n1_ := Aside0.mk (hb); have n2_ := Aside0.mk (hi); clear HO_5; clear HB; clear HI650; have HO_5 := n0_; have HB := n1_; have HI650 := n2_; clear n0_ n1_ n2_; (try clear hb); (try clear hb2); (try clear hk); (try clear hi)))
     go_ret2
     exact ⟨_, by first | rfl | (simp [errW_none, errW_some] <;> rfl) | (simp [*, errW_none, errW_some] <;> rfl), by first | exact Kd.R_nil _ _ _ _ _ | exact Kd.N_nil _ _ _ _ _ | exact Kd.V_nil _ _ _ _ _ | exact Kd.Q_nil _ _ _ _ _ | exact Kd.S_nil _ _ _ _ _, by repeat (first | (with_reducible first | exact HB.out | apply below_alloc | apply pw_below_drewN | apply below_drew1 | refine below_set ?_ (IsS105.ge HI650.out)) | exact HB.out)⟩
end Go.Proofs.YtafjlibcdlihcaaDoor.G
end
section
namespace Go.Proofs.YtafjlibcdlihcaaDoor.G
open Go.RowKit Go.Proofs.YtafjlibcdlihcaaDoorW.PrintWords Go.Proofs.YtafjlibcdlihcaaDoorW.PrintLast Go.Proofs.YtafjlibcdlihcaaDoorW.PrintMore
attribute [local go_sem] max2_int min2_int max_two min_two max_three min_three max_four min_four   -- for this text's walks alone
set_option linter.unusedVariables false
set_option linter.unusedSimpArgs false
def barqueref01_Reader_End.f (s0_0 : ByteArray) (s0_1 : Int) (s0_2 : Int) : Option (Int × ByteArray × Int × Int) := if s0_2 = 0 then (if s0_1 < (s0_0.size : Int) then (some (4, s0_0, s0_1, 4)) else (some (s0_2, s0_0, s0_1, s0_2))) else (some (s0_2, s0_0, s0_1, s0_2))
set_option maxHeartbeats 8000000 in
set_option maxRecDepth 100000 in
theorem barqueref01_Reader_End.calls (g : Nat) (s0_0 : ByteArray) (s0_1 : Int) (s0_2 : Int) (r1 : Int) (r2 : ByteArray) (r3 : Int) (r4 : Int) (w0 w : World) (hI : IsS97 w0 w g s0_0 s0_1 s0_2) (hB : Below w0.heap.size w0 w) (h : barqueref01_Reader_End.f s0_0 s0_1 s0_2 = some (r1, r2, r3, r4)) :
  Calls Tryd.prog 80 #[.pointer (some ⟨g, 0, none⟩)] w fun e w' => e = .returned (.int .i64 r1) ∧ IsS97 w0 w' g r2 r3 r4 ∧ Below w0.heap.size w0 w' ∧ KeepBut w w' g none := by
 have HI0 := Aside0.mk hI
 have HK := Aside0.mk (KeepBut.refl w g none)
 have HL := Aside0.mk hB.size
 clear hI
 have HW0 := Aside0.mk hB.size
 have HB := Aside0.mk hB
 clear hB
 have H : (if s0_2 = 0 then (if s0_1 < (s0_0.size : Int) then (some (4, s0_0, s0_1, 4)) else (some (s0_2, s0_0, s0_1, s0_2))) else (some (s0_2, s0_0, s0_1, s0_2))) = some (r1, r2, r3, r4) := h
 clear h
 by_cases c2 : s0_2 = 0
 ·rw [if_pos c2] at H
  have c2b0 : (s0_2 == 0) = true := beq_iff_eq.mpr c2
  have c2b1 : (s0_2 != 0) = false := bne_eq_false_iff_eq.mpr c2
  clear c2
  by_cases c3 : s0_1 < (s0_0.size : Int)
  ·rw [if_pos c3] at H
   have c3b0 : decide (s0_1 < (s0_0.size : Int)) = true := decide_eq_true c3
   clear c3
   simp only [Option.some.injEq, Prod.mk.injEq] at H
   obtain ⟨rfl, rfl, rfl, rfl⟩ := H
   obtain ⟨HGz4, hgz4⟩ := HI0.out
   have hcz4_0 := cellS97_0 HGz4
   have hcz4_1 := cellS97_1 HGz4
   have hcz4_2 := cellS97_2 HGz4
   have hfz4_0 := blk_frozen HGz4 0
   have hfz4_1 := blk_frozen HGz4 1
   have hfz4_2 := blk_frozen HGz4 2
   clear HGz4 hgz4
   go_enter Tryd.func80, Tryd.ntmps80
   go_wp2
   repeat (go_quiet (fail); try go_wp2)
   go_ret
   exact ⟨by first | rfl | (simp [errW_none, errW_some] <;> rfl) | (simp [*, errW_none, errW_some] <;> rfl), by repeat (first | (with_reducible first | exact HI0.out | apply IsS97.alloc | apply IsS97.drewN | apply IsS97.drew | apply IsS97.set_0 | apply IsS97.set_1 | apply IsS97.set_2) | exact HI0.out), by repeat (first | (with_reducible first | exact HB.out | apply below_alloc | apply pw_below_drewN | apply below_drew1 | refine below_set ?_ (IsS97.ge HI0.out)) | exact HB.out), by repeat (first | (with_reducible first | exact HK.out | apply KeepBut.set_ | apply keep_drewN | apply keep_drew | apply keep_alloc) | exact HK.out)⟩
  ·rw [if_neg c3] at H
   have c3b0 : decide (s0_1 < (s0_0.size : Int)) = false := decide_eq_false c3
   clear c3
   simp only [Option.some.injEq, Prod.mk.injEq] at H
   obtain ⟨rfl, rfl, rfl, rfl⟩ := H
   obtain ⟨HGz5, hgz5⟩ := HI0.out
   have hcz5_0 := cellS97_0 HGz5
   have hcz5_1 := cellS97_1 HGz5
   have hcz5_2 := cellS97_2 HGz5
   have hfz5_0 := blk_frozen HGz5 0
   have hfz5_1 := blk_frozen HGz5 1
   have hfz5_2 := blk_frozen HGz5 2
   clear HGz5 hgz5
   go_enter Tryd.func80, Tryd.ntmps80
   go_wp2
   repeat (go_quiet (fail); try go_wp2)
   go_ret
   exact ⟨by first | rfl | (simp [errW_none, errW_some] <;> rfl) | (simp [*, errW_none, errW_some] <;> rfl), by repeat (first | (with_reducible first | exact HI0.out | apply IsS97.alloc | apply IsS97.drewN | apply IsS97.drew | apply IsS97.set_0 | apply IsS97.set_1 | apply IsS97.set_2) | exact HI0.out), by repeat (first | (with_reducible first | exact HB.out | apply below_alloc | apply pw_below_drewN | apply below_drew1 | refine below_set ?_ (IsS97.ge HI0.out)) | exact HB.out), by repeat (first | (with_reducible first | exact HK.out | apply KeepBut.set_ | apply keep_drewN | apply keep_drew | apply keep_alloc) | exact HK.out)⟩
 ·rw [if_neg c2] at H
  have c2b0 : (s0_2 == 0) = false := beq_eq_false_iff_ne.mpr c2
  have c2b1 : (s0_2 != 0) = true := bne_iff_ne.mpr c2
  simp only [Option.some.injEq, Prod.mk.injEq] at H
  obtain ⟨rfl, rfl, rfl, rfl⟩ := H
  obtain ⟨HGz6, hgz6⟩ := HI0.out
  have hcz6_0 := cellS97_0 HGz6
  have hcz6_1 := cellS97_1 HGz6
  have hcz6_2 := cellS97_2 HGz6
  have hfz6_0 := blk_frozen HGz6 0
  have hfz6_1 := blk_frozen HGz6 1
  have hfz6_2 := blk_frozen HGz6 2
  clear HGz6 hgz6
  go_enter Tryd.func80, Tryd.ntmps80
  go_wp2
  repeat (go_quiet (fail); try go_wp2)
  go_ret
  exact ⟨by first | rfl | (simp [errW_none, errW_some] <;> rfl) | (simp [*, errW_none, errW_some] <;> rfl), by repeat (first | (with_reducible first | exact HI0.out | apply IsS97.alloc | apply IsS97.drewN | apply IsS97.drew | apply IsS97.set_0 | apply IsS97.set_1 | apply IsS97.set_2) | exact HI0.out), by repeat (first | (with_reducible first | exact HB.out | apply below_alloc | apply pw_below_drewN | apply below_drew1 | refine below_set ?_ (IsS97.ge HI0.out)) | exact HB.out), by repeat (first | (with_reducible first | exact HK.out | apply KeepBut.set_ | apply keep_drewN | apply keep_drew | apply keep_alloc) | exact HK.out)⟩
end Go.Proofs.YtafjlibcdlihcaaDoor.G
end
section
namespace Go.Proofs.YtafjlibcdlihcaaDoor.G
open Go.RowKit Go.Proofs.YtafjlibcdlihcaaDoorW.PrintWords Go.Proofs.YtafjlibcdlihcaaDoorW.PrintLast Go.Proofs.YtafjlibcdlihcaaDoorW.PrintMore
set_option linter.unusedVariables false
set_option linter.unusedSimpArgs false
theorem rawS_e (s : ByteArray) (at_ : Nat) (e n : Int) (h : (rawS s at_ e n).2.2 = 0) : e = 0 := by
 unfold rawS at h
 by_cases c : e = 0
 ·exact c
 ·rw [if_neg c] at h; exact h
theorem numS_e (s : ByteArray) (at_ : Nat) (e : Int) (h : (numS s at_ e).2.2 = 0) : e = 0 := by
 unfold numS at h
 by_cases c : e = 0
 ·exact c
 ·rw [if_neg c] at h; exact h
theorem countS_e (s : ByteArray) (at_ : Nat) (e most : Int) (h : (countS s at_ e most).2.2 = 0) : e = 0 ∧ (countS s at_ e most).1 ≤ most := by
 unfold countS at h ⊢
 by_cases c : (numS s at_ e).2.2 = 0 ∧ most < (numS s at_ e).1
 ·rw [if_pos c] at h
  exact absurd h (by show ¬ (4 : Int) = 0; decide)
 ·rw [if_neg c] at h ⊢
  exact ⟨numS_e s at_ e h, by
   apply Int.not_lt.1
   exact fun q => c ⟨h, q⟩⟩
theorem rawS_size (s : ByteArray) (at_ : Nat) (e n : Int) (m : Nat) (hn : n ≤ m) : (rawS s at_ e n).1.size ≤ m := by
 unfold rawS
 split
 ·split
  ·exact Nat.zero_le _
  ·split
   ·exact Nat.zero_le _
   ·show (s.extract at_ (at_ + n.toNat)).size ≤ m
    rw [ByteArray.size_extract]
    omega
 ·exact Nat.zero_le _
theorem textS_e (s : ByteArray) (at_ : Nat) (e : Int) (most : Nat) (h : (textS s at_ e most).2.2 = 0) : e = 0 ∧ (textS s at_ e most).1.size ≤ most := by
 unfold textS at h ⊢
 have h1 := rawS_e s _ _ _ h
 obtain ⟨h2, h3⟩ := countS_e s at_ e most h1
 exact ⟨h2, rawS_size s _ _ _ most h3⟩
/-- What one item's reading gives: the count, the rest, the two numbers, the mark; each with the place and the error behind it. -/
structure ItemR where
 c : Int × Nat × Int
 t : ByteArray × Nat × Int
 m : Int × Nat × Int
 z : Int × Nat × Int
 k : ByteArray × Nat × Int
def itemR (s : ByteArray) (at_ : Nat) : ItemR :=
 let c := countS s at_ 0 200
 let t := textS s c.2.1 c.2.2 200
 let m := numS s t.2.1 t.2.2
 let z := numS s m.2.1 m.2.2
 ⟨c, t, m, z, rawS s z.2.1 z.2.2 32⟩
theorem itemR_eqs (s : ByteArray) (at_ : Nat) : (itemR s at_).c = countS s at_ 0 200 ∧ (itemR s at_).t = textS s (itemR s at_).c.2.1 (itemR s at_).c.2.2 200 ∧ (itemR s at_).m = numS s (itemR s at_).t.2.1 (itemR s at_).t.2.2 ∧ (itemR s at_).z = numS s (itemR s at_).m.2.1 (itemR s at_).m.2.2 ∧ (itemR s at_).k = rawS s (itemR s at_).z.2.1 (itemR s at_).z.2.2 32 := ⟨rfl, rfl, rfl, rfl, rfl⟩
theorem itemR_at (s : ByteArray) (at_ : Nat) (h : at_ ≤ s.size) : (itemR s at_).c.2.1 ≤ s.size ∧ (itemR s at_).t.2.1 ≤ s.size ∧ (itemR s at_).m.2.1 ≤ s.size ∧ (itemR s at_).z.2.1 ≤ s.size ∧ (itemR s at_).k.2.1 ≤ s.size := by
 have h1 := countS_at s at_ 0 200 h
 have h2 := textS_at s (itemR s at_).c.2.1 (itemR s at_).c.2.2 200 h1.2
 have h3 := numS_at s (itemR s at_).t.2.1 (itemR s at_).t.2.2 h2.2
 have h4 := numS_at s (itemR s at_).m.2.1 (itemR s at_).m.2.2 h3.2
 have h5 := rawS_at s (itemR s at_).z.2.1 (itemR s at_).z.2.2 32 h4.2
 exact ⟨h1.2, h2.2, h3.2, h4.2, h5.2⟩
theorem itemR_ok (s : ByteArray) (at_ : Nat) (h : (itemR s at_).k.2.2 = 0) : (itemR s at_).c.2.2 = 0 ∧ (itemR s at_).t.2.2 = 0 ∧ (itemR s at_).m.2.2 = 0 ∧ (itemR s at_).z.2.2 = 0 ∧ 0 ≤ (itemR s at_).c.1 ∧ (itemR s at_).c.1 ≤ 200 ∧ (itemR s at_).t.1.size ≤ 200 := by
 have h4 := rawS_e s _ _ _ h
 have h3 := numS_e s _ _ h4
 have h2 := numS_e s _ _ h3
 obtain ⟨h1, h0⟩ := textS_e s _ _ 200 h2
 obtain ⟨_, hc⟩ := countS_e s _ _ _ h1
 exact ⟨h1, h2, h3, h4, (countS_range s at_ 0 200).1, hc, h0⟩
def pathR (last : ByteArray) (r : ItemR) : ByteArray := last.extract 0 r.c.1.toNat ++ r.t.1
def ofGo (s : ByteArray) : Nat → List S56 → ByteArray → Nat → List S56 × Int
 | 0, out, _, at_ => if endS s at_ 0 = 0 then (if rightE out = 0 then (out, 0) else ([], rightE out)) else ([], endS s at_ 0)
 | d + 1, out, last, at_ =>
  if (itemR s at_).k.2.2 = 0 then
   if (last.size : Int) < (itemR s at_).c.1 then ([], 5)
   else if ((comL last.data.toList (pathR last (itemR s at_)).data.toList : Nat) : Int) = (itemR s at_).c.1 then ofGo s d (out ++ [⟨pathR last (itemR s at_), (itemR s at_).m.1, (itemR s at_).z.1, (itemR s at_).k.1⟩]) (pathR last (itemR s at_)) (itemR s at_).k.2.1
   else ([], 5)
  else ([], (itemR s at_).k.2.2)
def ofE (s : ByteArray) : List S56 × Int := if (countS s 0 0 256).2.2 = 0 then ofGo s (countS s 0 0 256).1.toNat [] ⟨#[]⟩ (countS s 0 0 256).2.1 else ([], (countS s 0 0 256).2.2)
theorem codeend_ev (s : ByteArray) (hs : s.size ≤ 140737488351232) (at_ : Nat) (e : Int) (ha : at_ ≤ s.size) : Ev (fun k => code_Reader_End.f k s (at_ : Int) e) (endS s at_ e, s, (at_ : Int), endS s at_ e) := by
 unfold code_Reader_End.f endS
 simp only [code_Reader_off.f, Option.bind_some]
 by_cases c : e = 0
 ·subst c
  have z : ((0 : Int) != 0) = false := rfl
  have w0 : wrap64 ((s.size : Int) - (at_ : Int)) = (s.size : Int) - at_ := by rw [w64_ (by omega) (by omega)]
  simp only [z, Bool.false_eq_true, ↓reduceIte, code_Reader_Left.f, Option.bind_some, w0]
  apply Ev.step
  ·intro k; rw [code_Reader_End.j0]
  by_cases c1 : at_ < s.size
  ·have c2 : decide ((s.size : Int) - (at_ : Int) > 0) = true := by simp; omega
   simp only [c1, c2, ↓reduceIte, code_Reader_fail.f, code_Reader_off.f, code_Reader_Err.f, Option.bind_some, z, Bool.false_eq_true]
   exact Ev.now _
  ·have c2 : decide ((s.size : Int) - (at_ : Int) > 0) = false := by simp; omega
   simp only [c1, c2, ↓reduceIte, code_Reader_Err.f, Option.bind_some, Bool.false_eq_true]
   exact Ev.now _
 ·have z : (e != 0) = true := by simp [c]
  simp only [z, c, ↓reduceIte]
  apply Ev.step
  ·intro k; rw [code_Reader_End.j0]
  simp only [Bool.false_eq_true, ↓reduceIte, code_Reader_Err.f, Option.bind_some]
  exact Ev.now _
theorem refend_f (s : ByteArray) (at_ : Nat) (e : Int) : barqueref01_Reader_End.f s (at_ : Int) e = some (endS s at_ e, s, (at_ : Int), endS s at_ e) := by
 unfold barqueref01_Reader_End.f endS
 by_cases c : e = 0
 ·subst c
  by_cases c1 : at_ < s.size
  ·have c2 : (at_ : Int) < (s.size : Int) := by omega
   simp only [c1, c2, ↓reduceIte]
  ·have c2 : ¬ (at_ : Int) < (s.size : Int) := by omega
   simp only [c1, c2, ↓reduceIte]
 ·simp only [c, ↓reduceIte]
theorem pathR_size (last : ByteArray) (r : ItemR) (h0 : 0 ≤ r.c.1) (h : r.c.1 ≤ 200) (ht : r.t.1.size ≤ 200) : (pathR last r).size ≤ 400 := by
 unfold pathR
 rw [ByteArray.size_append, ByteArray.size_extract]
 omega
theorem treeof_l0 (s : ByteArray) (hs : s.size ≤ 140737488351232) (cnt : Nat) (hc : cnt ≤ 256) : ∀ (d i : Nat) (out : List S56) (last : ByteArray) (at_ : Nat), cnt - i = d → i ≤ cnt → out.length ≤ 256 → last.size ≤ 400 → out.length = i → at_ ≤ s.size →
  Ev (fun k => tree_Of.l0 k out last (cnt : Int) (i : Int) s (at_ : Int) 0) (ofGo s d out last at_) := by
 intro d
 induction d with
 | zero =>
  intro i out last at_ hd hi ho hl hoi ha
  have e : i = cnt := by omega
  subst e
  apply Ev.step
  ·intro k; rw [tree_Of.l0]
  have c1 : ¬ ((i : Int) < (i : Int)) := by omega
  simp only [c1, ↓reduceIte]
  unfold ofGo
  refine Ev.bind (codeend_ev s hs at_ 0 ha) ?_
  by_cases q : endS s at_ 0 = 0
  ·simp only [q, ↓reduceIte]
   refine Ev.bind (right_ev out (by omega)) ?_
   by_cases q2 : rightE out = 0
   ·simp only [q2, ↓reduceIte]
    exact Ev.now _
   ·simp only [q2, ↓reduceIte]
    exact Ev.now _
  ·simp only [q, ↓reduceIte]
   exact Ev.now _
 | succ d ih =>
  intro i out last at_ hd hi ho hl hoi ha
  have hd1 : cnt - (i + 1) = d := by omega
  have hi1 : i + 1 ≤ cnt := by omega
  have c1 : ((i : Int) < (cnt : Int)) := by omega
  have c7 : out.length < 2932031007402 := by omega
  have ho1 : ∀ x : S56, (out ++ [x]).length ≤ 256 ∧ (out ++ [x]).length = i + 1 := fun x => by rw [List.length_append, List.length_singleton]; omega
  have hw : wrap64 ((i : Int) + 1) = ((i + 1 : Nat) : Int) := by rw [w64_ (by omega) (by omega)]; omega
  obtain ⟨e1, e2, e3, e4, e5⟩ := itemR_eqs s at_
  obtain ⟨a1, a2, a3, a4, a5⟩ := itemR_at s at_ ha
  have t1 := codecount_ev s hs at_ 0 200 ha
  rw [← e1] at t1
  have t2 := codetext_ev s hs _ (itemR s at_).c.2.2 200 a1
  rw [← e2] at t2
  have t3 := codenum_ev s hs _ (itemR s at_).t.2.2 a2
  rw [← e3] at t3
  have t4 := codenum_ev s hs _ (itemR s at_).m.2.2 a3
  rw [← e4] at t4
  have t5 := coderaw_f s hs _ (itemR s at_).z.2.2 32 a4 ⟨by decide, by decide⟩
  rw [← e5] at t5
  have hok := itemR_ok s at_
  unfold ofGo
  obtain ⟨r, hr⟩ : ∃ r, itemR s at_ = r := ⟨_, rfl⟩
  rw [hr] at t1 t2 t3 t4 t5 hok a1 a2 a3 a4 a5 ⊢
  clear e1 e2 e3 e4 e5 hr
  apply Ev.step
  ·intro k; rw [tree_Of.l0]
  simp only [c1, ↓reduceIte]
  refine Ev.bind t1 (Ev.bind t2 (Ev.bind t3 (Ev.bind t4 ?_)))
  simp only [t5, Option.bind_some, code_Reader_Err.f]
  by_cases q : r.k.2.2 = 0
  ·obtain ⟨o1, o2, o3, o4, o5, o6, o7⟩ := hok q
   simp only [q, ↓reduceIte]
   by_cases q2 : (last.size : Int) < r.c.1
   ·have q3 : r.c.1 > (last.size : Int) := q2
    simp only [q2, q3, ↓reduceIte]
    exact Ev.now _
   ·have q3 : ¬ r.c.1 > (last.size : Int) := q2
    have q4 : r.c.1 ≤ (last.size : Int) := Int.not_lt.1 q2
    have hps := pathR_size last r o5 o6 o7
    have q5 : (last.extract 0 r.c.1.toNat).size + r.t.1.size ≤ 9223372036854775807 := by
     unfold pathR at hps
     rw [ByteArray.size_append] at hps
     clear hw
     omega
    simp only [q2, q3, q4, q5, o5, ↓reduceIte]
    have hsh := shared_ev last (pathR last r) (by clear hw; omega) (by clear hw; omega)
    refine Ev.bind hsh ?_
    by_cases q6 : ((comL last.data.toList (pathR last r).data.toList : Nat) : Int) = r.c.1
    ·simp only [q6, c7, ↓reduceIte, hw]
     exact ih (i + 1) _ (pathR last r) r.k.2.1 hd1 hi1 (ho1 _).1 hps (ho1 _).2 a5
    ·simp only [q6, ↓reduceIte]
     exact Ev.now _
  ·simp only [q, ↓reduceIte]
   exact Ev.now _
theorem countS_bad (s : ByteArray) (at_ : Nat) (most : Int) (h : (countS s at_ 0 most).2.2 ≠ 0) : (countS s at_ 0 most).1 = 0 := by
 have key : ∀ (d i n a : Nat), (numGo s d i n a).2.2 ≠ 0 → (numGo s d i n a).1 = 0 := by
  intro d
  induction d with
  | zero => intro i n a h; exact absurd rfl h
  | succ d ih =>
   intro i n a h
   unfold numGo at h ⊢
   split
   ·rename_i c
    rw [if_pos c] at h
    split
    ·rfl
    ·rename_i c1
     rw [if_neg c1] at h
     split
     ·rename_i c2
      rw [if_pos c2] at h
      exact absurd rfl h
     ·rename_i c2
      rw [if_neg c2] at h
      exact ih _ _ _ h
   ·rfl
 unfold countS at h ⊢
 by_cases c : (numS s at_ 0).2.2 = 0 ∧ most < (numS s at_ 0).1
 ·rw [if_pos c]
 ·rw [if_neg c] at h ⊢
  unfold numS at h ⊢
  rw [if_pos rfl] at h ⊢
  exact key _ _ _ _ h
theorem treeof_ev (s : ByteArray) (hs : s.size ≤ 140737488351232) : Ev (fun k => tree_Of.f k s) (ofE s) := by
 unfold tree_Of.f code_Read.f ofE
 simp only [Option.bind_some]
 have t1 := codecount_ev s hs 0 0 256 (Nat.zero_le _)
 have a1 := countS_at s 0 0 256 (Nat.zero_le _)
 have r1 := countS_range s 0 0 256
 have h1 := countS_e s 0 0 256
 have h2 := countS_bad s 0 256
 obtain ⟨c, hc⟩ : ∃ c, countS s 0 0 256 = c := ⟨_, rfl⟩
 rw [hc] at t1 a1 r1 h1 h2 ⊢
 refine Ev.bind t1 ?_
 by_cases q : c.2.2 = 0
 ·obtain ⟨_, h3⟩ := h1 q
  have e : c.1 = ((c.1.toNat : Nat) : Int) := by omega
  simp only [q, ↓reduceIte]
  have := treeof_l0 s hs c.1.toNat (by omega) c.1.toNat 0 [] ⟨#[]⟩ c.2.1 (by omega) (by omega) (by simp) (by decide) rfl a1.2
  rw [← e] at this
  exact this
 ·simp only [q, ↓reduceIte, h2 q]
  apply Ev.step
  ·intro k; rw [tree_Of.l0]
  have c1 : ¬ ((0 : Int) < 0) := by decide
  simp only [c1, ↓reduceIte]
  refine Ev.bind (codeend_ev s hs c.2.1 c.2.2 a1.2) ?_
  have e : endS s c.2.1 c.2.2 = c.2.2 := by unfold endS; rw [if_neg q]
  simp only [e, q, ↓reduceIte]
  exact Ev.now _
end Go.Proofs.YtafjlibcdlihcaaDoor.G
end
section
namespace Go.Proofs.YtafjlibcdlihcaaDoor.G
open Go.RowKit Go.Proofs.YtafjlibcdlihcaaDoorW.PrintWords Go.Proofs.YtafjlibcdlihcaaDoorW.PrintLast Go.Proofs.YtafjlibcdlihcaaDoorW.PrintMore
attribute [local go_sem] max2_int min2_int max_two min_two max_three min_three max_four min_four   -- for this text's walks alone
set_option linter.unusedVariables false
set_option linter.unusedSimpArgs false
theorem eqA56 (d : Nat) (w : World) (x0 y0 : ByteArray) (x1 y1 : Int) (x2 y2 : Int) (x3 y3 : ByteArray) :
  (Op.equalIn (d + 2) 56 (.agg #[.string x0, .int .i64 x1, .int .i64 x2, .string x3]) (.agg #[.string y0, .int .i64 y1, .int .i64 y2, .string y3])).run Tryd.prog w = .ok (x0.toList == y0.toList && (x1 == y1 && (x2 == y2 && (x3.toList == y3.toList)))) w := by
 refine eqA_of Tryd.underlying56 (by kernel_rfl) ?_
 refine eqf_cons (by rfl) (by go_simp; rfl) (by go_simp; rfl) (by go_simp) ?_
 refine eqf_cons (by rfl) (by go_simp; rfl) (by go_simp; rfl) (by go_simp) ?_
 refine eqf_cons (by rfl) (by go_simp; rfl) (by go_simp; rfl) (by go_simp) ?_
 exact eqf_last (by rfl) (by go_simp; rfl) (by go_simp; rfl) (by go_simp)
end Go.Proofs.YtafjlibcdlihcaaDoor.G
end
section
namespace Go.Proofs.YtafjlibcdlihcaaDoor.G
open Go.RowKit Go.Proofs.YtafjlibcdlihcaaDoorW.PrintWords Go.Proofs.YtafjlibcdlihcaaDoorW.PrintLast Go.Proofs.YtafjlibcdlihcaaDoorW.PrintMore
attribute [local go_sem] max2_int min2_int max_two min_two max_three min_three max_four min_four   -- for this text's walks alone
set_option linter.unusedVariables false
set_option linter.unusedSimpArgs false
attribute [local go_sem high] eqA56
def barqueref09_Items.l0 : Nat → List (S56) → List (S56) → Int → Option (Bool)
 | 0, _, _, _ => none
 | k + 1, x0, x1, x5 => if x5 < (x0.length : Int) then (if 0 ≤ x5 then (if x5 < (x1.length : Int) then (if (!((((rd_T56 x0 x5).f0).toList) == (((rd_T56 x1 x5).f0).toList)) || (!(((rd_T56 x0 x5).f1) == ((rd_T56 x1 x5).f1)) || (!(((rd_T56 x0 x5).f2) == ((rd_T56 x1 x5).f2)) || (!((((rd_T56 x0 x5).f3).toList) == (((rd_T56 x1 x5).f3).toList)))))) = true then (some false) else (barqueref09_Items.l0 k x0 x1 (wrap64 (x5 + 1)))) else (none)) else (none)) else (some true)
def barqueref09_Items.f (k : Nat) (l0 : List (S56)) (l1 : List (S56)) : Option (Bool) := if (l0.length : Int) = (l1.length : Int) then (barqueref09_Items.l0 k l0 l1 0) else (some false)
theorem barqueref09_Items.mono_l : ∀ k, (∀ y0 y1 y2, LeO (barqueref09_Items.l0 k y0 y1 y2) (barqueref09_Items.l0 (k + 1) y0 y1 y2))
 | 0 => fun _ _ _ r h => by simp [barqueref09_Items.l0] at h
 | k + 1 => by
  have ih0 := barqueref09_Items.mono_l k
  ·intro y0 y1 y2
   unfold barqueref09_Items.l0
   repeat' first
   | (with_reducible exact ih0 _ _ _)
   | (with_reducible exact LeO.refl _)
   | (with_reducible exact LeO.none _)
   | (with_reducible refine LeO.ite ?_ ?_)
   | (with_reducible refine LeO.bind ?_ (fun _ => ?_))
   | exact ih0 _ _ _
   | exact LeO.none _
   | refine LeO.ite ?_ ?_
   | refine LeO.bind ?_ (fun _ => ?_)
theorem barqueref09_Items.mono : ∀ a0 a1 k, LeO (barqueref09_Items.f k a0 a1) (barqueref09_Items.f (k + 1) a0 a1) := by
 intro a0 a1 k
 have ih0 := barqueref09_Items.mono_l k
 unfold barqueref09_Items.f
 repeat' first
   | (with_reducible exact ih0 _ _ _)
   | (with_reducible exact LeO.refl _)
   | (with_reducible exact LeO.none _)
   | (with_reducible refine LeO.ite ?_ ?_)
   | (with_reducible refine LeO.bind ?_ (fun _ => ?_))
   | exact ih0 _ _ _
   | exact LeO.none _
   | refine LeO.ite ?_ ?_
   | refine LeO.bind ?_ (fun _ => ?_)
set_option maxHeartbeats 8000000 in
set_option maxRecDepth 100000 in
theorem barqueref09_Items.calls (k : Nat) (A0 : Option Addr) (c0 : Nat) (l0 : List (S56)) (A1 : Option Addr) (c1 : Nat) (l1 : List (S56)) (r : Bool) (w : World) (hr0 : Kd.C k56 w A0 l0.length l0) (hc0 : l0.length ≤ c0) (hr1 : Kd.C k56 w A1 l1.length l1) (hc1 : l1.length ≤ c1) (h : barqueref09_Items.f k l0 l1 = some r) :
  Calls Tryd.prog 41 #[.slice A0 l0.length c0, .slice A1 l1.length c1] w fun e w' => e = .returned (.bool r) ∧ Drawn0 w w' := by
 have hu56 := Tryd.underlying56
 have HR0 := Aside0.mk hr0
 have HC0 := Aside0.mk hc0
 clear hr0 hc0
 have HR1 := Aside0.mk hr1
 have HC1 := Aside0.mk hc1
 clear hr1 hc1
 have H : (if (l0.length : Int) = (l1.length : Int) then (barqueref09_Items.l0 k l0 l1 0) else (some false)) = some r := h
 clear h
 by_cases c3 : (l0.length : Int) = (l1.length : Int)
 ·rw [if_pos c3] at H
  have c3b0 : ((l0.length : Int) == (l1.length : Int)) = true := beq_iff_eq.mpr c3
  have c3b1 : ((l0.length : Int) != (l1.length : Int)) = false := bne_eq_false_iff_eq.mpr c3
  have c3b2 : (l0.length == l1.length) = true := by first | simpa using c3 | (simp at c3 ⊢; omega)
  clear c3
  have H' := Aside0.mk H
  clear H
  go_enter Tryd.func41, Tryd.ntmps41
  go_wp2
  repeat (go_quiet (fail); try go_wp2)
  go_loopg [5] k (fun kq v5 w' => ∃ (x5_1 : Int), v5 = .int .i64 x5_1 ∧ Aside0 (barqueref09_Items.l0 kq l0 l1 x5_1 = some r) ∧ Aside0 (kq ≤ k) ∧ Drawn0 w w')
  case atStart => exact ⟨(0), (by first | rfl | (simp; done) | (simp [*]; done)), H', ⟨Nat.le_refl _⟩, by repeat (first | exact Drawn0.refl _ | apply Drawn0.step)⟩
  case round =>
   clear H'
   try clear c1
   try clear p2
   try clear c3
   try clear c3b0
   try clear c3b1
   try clear c3b2
   obtain ⟨x5_1, rfl, HA, HK1, ⟨m1, rfl⟩⟩ := hrel
   cases gk with
   | zero => exact absurd HA.out (by simp [barqueref09_Items.l0])
   | succ k1 =>
    have H := HA.out
    clear HA
    simp only [barqueref09_Items.l0] at H
    by_cases c4 : x5_1 < (l0.length : Int)
    ·rw [if_pos c4] at H
     have c4b0 : decide (x5_1 < (l0.length : Int)) = true := decide_eq_true c4
     clear c4
     by_cases c5 : 0 ≤ x5_1
     ·rw [if_pos c5] at H
      have c5b0 : decide (0 ≤ x5_1) = true := decide_eq_true c5
      clear c5
      by_cases c6 : x5_1 < (l1.length : Int)
      ·rw [if_pos c6] at H
       have c6b0 : decide (x5_1 < (l1.length : Int)) = true := decide_eq_true c6
       clear c6
       by_cases c7 : (!((((rd_T56 l0 x5_1).f0).toList) == (((rd_T56 l1 x5_1).f0).toList)) || (!(((rd_T56 l0 x5_1).f1) == ((rd_T56 l1 x5_1).f1)) || (!(((rd_T56 l0 x5_1).f2) == ((rd_T56 l1 x5_1).f2)) || (!((((rd_T56 l0 x5_1).f3).toList) == (((rd_T56 l1 x5_1).f3).toList)))))) = true
       ·rw [if_pos c7] at H
        have c7b0 : (!((((rd_T56 l0 x5_1).f0).toList) == (((rd_T56 l1 x5_1).f0).toList)) || (!(((rd_T56 l0 x5_1).f1) == ((rd_T56 l1 x5_1).f1)) || (!(((rd_T56 l0 x5_1).f2) == ((rd_T56 l1 x5_1).f2)) || (!((((rd_T56 l0 x5_1).f3).toList) == (((rd_T56 l1 x5_1).f3).toList)))))) = true := c7
        clear c7
        obtain rfl := Option.some.inj H
        have p747 : 0 ≤ (x5_1 : Int) := of_decide_eq_true (by first | (with_reducible assumption) | assumption)
        have q747 : x5_1 < (l0.length : Int) := of_decide_eq_true (by first | (with_reducible assumption) | assumption)
        obtain ⟨ad747, e747, hx747_0, hx747_1, hx747_2, hx747_3⟩ := at_T56 HR0.out x5_1 p747 q747
        cases e747
        replace p747 := eq_true p747
        replace q747 := eq_true q747
        have p748 : 0 ≤ (x5_1 : Int) := of_decide_eq_true (by first | (with_reducible assumption) | assumption)
        have q748 : x5_1 < (l1.length : Int) := of_decide_eq_true (by first | (with_reducible assumption) | assumption)
        obtain ⟨ad748, e748, hx748_0, hx748_1, hx748_2, hx748_3⟩ := at_T56 HR1.out x5_1 p748 q748
        cases e748
        replace p748 := eq_true p748
        replace q748 := eq_true q748
        go_wp2
        repeat (go_quiet (fail); try go_wp2)
        go_ret
        exact ⟨by first | rfl | (simp; done) | (simp [*]; done), by repeat (first | exact Drawn0.refl _ | apply Drawn0.step)⟩
       ·rw [if_neg c7] at H
        have c7b0 : (!((((rd_T56 l0 x5_1).f0).toList) == (((rd_T56 l1 x5_1).f0).toList)) || (!(((rd_T56 l0 x5_1).f1) == ((rd_T56 l1 x5_1).f1)) || (!(((rd_T56 l0 x5_1).f2) == ((rd_T56 l1 x5_1).f2)) || (!((((rd_T56 l0 x5_1).f3).toList) == (((rd_T56 l1 x5_1).f3).toList)))))) = false := by simpa using c7
        clear c7
        have H' := Aside0.mk H
        clear H
        have p747 : 0 ≤ (x5_1 : Int) := of_decide_eq_true (by first | (with_reducible assumption) | assumption)
        have q747 : x5_1 < (l0.length : Int) := of_decide_eq_true (by first | (with_reducible assumption) | assumption)
        obtain ⟨ad747, e747, hx747_0, hx747_1, hx747_2, hx747_3⟩ := at_T56 HR0.out x5_1 p747 q747
        cases e747
        replace p747 := eq_true p747
        replace q747 := eq_true q747
        have p748 : 0 ≤ (x5_1 : Int) := of_decide_eq_true (by first | (with_reducible assumption) | assumption)
        have q748 : x5_1 < (l1.length : Int) := of_decide_eq_true (by first | (with_reducible assumption) | assumption)
        obtain ⟨ad748, e748, hx748_0, hx748_1, hx748_2, hx748_3⟩ := at_T56 HR1.out x5_1 p748 q748
        cases e748
        replace p748 := eq_true p748
        replace q748 := eq_true q748
        go_wp2
        repeat (go_quiet (fail); try go_wp2)
        go_roundg k1
        case measure => have := HK1.out; omega
        case rel => exact ⟨(wrap64 (x5_1 + 1)), (by first | rfl | (simp; done) | (simp [*]; done)), H', ⟨by have := HK1.out; omega⟩, by repeat (first | exact Drawn0.refl _ | apply Drawn0.step)⟩
      ·rw [if_neg c6] at H
       exact absurd H (by simp)
     ·rw [if_neg c5] at H
      exact absurd H (by simp)
    ·rw [if_neg c4] at H
     have c4b0 : decide (x5_1 < (l0.length : Int)) = false := decide_eq_false c4
     clear c4
     obtain rfl := Option.some.inj H
     go_wp2
     repeat (go_quiet (fail); try go_wp2)
     go_ret
     exact ⟨by first | rfl | (simp; done) | (simp [*]; done), by repeat (first | exact Drawn0.refl _ | apply Drawn0.step)⟩
 ·rw [if_neg c3] at H
  have c3b0 : ((l0.length : Int) == (l1.length : Int)) = false := beq_eq_false_iff_ne.mpr c3
  have c3b1 : ((l0.length : Int) != (l1.length : Int)) = true := bne_iff_ne.mpr c3
  have c3b2 : (l0.length == l1.length) = false := by first | simpa using c3 | (simp at c3 ⊢; omega)
  obtain rfl := Option.some.inj H
  go_enter Tryd.func41, Tryd.ntmps41
  go_wp2
  repeat (go_quiet (fail); try go_wp2)
  go_ret
  exact ⟨by first | rfl | (simp; done) | (simp [*]; done), by repeat (first | exact Drawn0.refl _ | apply Drawn0.step)⟩
end Go.Proofs.YtafjlibcdlihcaaDoor.G
end
section
namespace Go.Proofs.YtafjlibcdlihcaaDoor.G
open Go.RowKit Go.Proofs.YtafjlibcdlihcaaDoorW.PrintWords Go.Proofs.YtafjlibcdlihcaaDoorW.PrintLast Go.Proofs.YtafjlibcdlihcaaDoorW.PrintMore
set_option linter.unusedVariables false
set_option linter.unusedSimpArgs false
theorem items_l0 (l : List S56) (hl : l.length ≤ 4294967296) : ∀ (d i : Nat), l.length - i = d → i ≤ l.length → Ev (fun k => barqueref09_Items.l0 k l l i) true := by
 intro d
 induction d with
 | zero =>
  intro i hd hi
  have e : i = l.length := by omega
  subst e
  apply Ev.step
  ·intro k; rw [barqueref09_Items.l0]
  have c1 : ¬ ((l.length : Int) < (l.length : Int)) := by omega
  simp only [c1, ↓reduceIte]
  exact Ev.now _
 | succ d ih =>
  intro i hd hi
  have hlt : i < l.length := by omega
  apply Ev.step
  ·intro k; rw [barqueref09_Items.l0]
  have c1 : ((i : Int) < (l.length : Int)) := by omega
  have c2 : (0 : Int) ≤ (i : Int) := by omega
  have hw : wrap64 ((i : Int) + 1) = ((i + 1 : Nat) : Int) := by rw [w64_ (by omega) (by omega)]; omega
  simp only [c1, c2, ↓reduceIte, hw, beq_self_eq_true, Bool.not_true, Bool.or_self, Bool.false_eq_true]
  exact ih (i + 1) (by omega) (by omega)
theorem items_ev (l : List S56) (hl : l.length ≤ 4294967296) : Ev (fun k => barqueref09_Items.f k l l) true := by
 unfold barqueref09_Items.f
 simp only [↓reduceIte]
 exact items_l0 l hl l.length 0 (by omega) (by omega)
theorem ofGo_length (s : ByteArray) : ∀ (d : Nat) (out : List S56) (last : ByteArray) (at_ : Nat), (ofGo s d out last at_).1.length ≤ out.length + d
 | 0, out, last, at_ => by
  unfold ofGo
  split
  ·split
   ·exact Nat.le_refl _
   ·exact Nat.zero_le _
  ·exact Nat.zero_le _
 | d + 1, out, last, at_ => by
  unfold ofGo
  split
  ·split
   ·exact Nat.zero_le _
   ·split
    ·have := ofGo_length s d (out ++ [⟨pathR last (itemR s at_), (itemR s at_).m.1, (itemR s at_).z.1, (itemR s at_).k.1⟩]) (pathR last (itemR s at_)) (itemR s at_).k.2.1
     rw [List.length_append, List.length_singleton] at this
     omega
    ·exact Nat.zero_le _
  ·exact Nat.zero_le _
theorem ofE_length (s : ByteArray) : (ofE s).1.length ≤ 256 := by
 unfold ofE
 split
 ·rename_i q
  have h1 := countS_e s 0 0 256 q
  have h2 := ofGo_length s (countS s 0 0 256).1.toNat [] ⟨#[]⟩ (countS s 0 0 256).2.1
  rw [List.length_nil] at h2
  omega
 ·exact Nat.zero_le _
end Go.Proofs.YtafjlibcdlihcaaDoor.G
end
section
namespace Go.Proofs.YtafjlibcdlihcaaDoor.G
open Go.RowKit Go.Proofs.YtafjlibcdlihcaaDoorW.PrintWords Go.Proofs.YtafjlibcdlihcaaDoorW.PrintLast Go.Proofs.YtafjlibcdlihcaaDoorW.PrintMore
set_option linter.unusedVariables false
def new_reader.f (a0 : ByteArray) : Option (ByteArray × Int × Int) := some (a0, 0, 0)
theorem gate_box_ {P : Program} {ops : Array Oper} {rest : List Oper} {o : Oper} {a : Act} {Q : Exit → Act → World → Prop} {W : World} {t : TypeId} {x : Operand} (_ho : o.op = .box t x) (h : wpList P ops Q (o :: rest) a W) : wpList P ops Q (o :: rest) a W := h
theorem rdrL_ {P : Program} {ops : Array Oper} {rest : List Oper} {o : Oper} {a : Act} {Q : Exit → Act → World → Prop} {W : World} {N : Tmp} (hgd : o.guard = none) (hd : o.dst = some N) (s : ByteArray) {r1 : ByteArray} {r2 r3 : Int} (w0 : World) (hB : Below w0.heap.size w0 W) (hf : new_reader.f s = some (r1, r2, r3))
  (hrun : (execOp a.eval o).run P W = .ok (.value (.pointer (some ⟨W.heap.size, 0, none⟩))) (W.alloc (.cells #[.string s, .int .i64 0, .int .i64 0] 97 (0, 0))))
  (h : ∀ (e : Ending) (w' : World), (∃ g_ : Nat, e = .returned (.pointer (some ⟨g_, 0, none⟩)) ∧ IsS97 w0 w' g_ r1 r2 r3 ∧ Below w0.heap.size w0 w' ∧ Below W.heap.size W w') → ∃ v, e = .returned v ∧ wpList P ops Q rest (a.put (some N) v) w') : wpList P ops Q (o :: rest) a W := by
 have hf := Option.some.inj hf
 simp only [Prod.mk.injEq] at hf
 obtain ⟨rfl, rfl, rfl⟩ := hf
 refine box_event hgd hd hrun (fun g hg w1 hb1 hb2 => ?_)
 subst hg
 obtain ⟨v, hv, hk⟩ := h (.returned (.pointer (some ⟨W.heap.size, 0, none⟩))) w1 ⟨_, rfl, ⟨hb1, hB.size⟩, below_step hB hb2, hb2⟩
 injection hv with hv
 subst hv
 rw [hd]
 exact hk
end Go.Proofs.YtafjlibcdlihcaaDoor.G
end
