/- Texts of this session's claim of ImageMerges, less what its theorem does not reach. No condition. -/
import Derived.BigQuiet
import Derived.Deep.QuietTactic
import Derived.Test.YtmeofdpmddjbgaaDoorIM12
import Derived.Test.YtmeofdpmddjbgaaDoorIM13
import Derived.Test.YtmeofdpmddjbgaaDoorIM14
import Derived.Test.YtmeofdpmddjbgaaDoorIM16
import Derived.Test.YtmeofdpmddjbgaaDoorIM17
section
namespace Go.Proofs.YtmeofdpmddjbgaaDoor.G
open Go.RowKit Go.Proofs.YtmeofdpmddjbgaaDoorW.PrintWords Go.Proofs.YtmeofdpmddjbgaaDoorW.PrintLast Go.Proofs.YtmeofdpmddjbgaaDoorW.PrintMore
attribute [local go_sem] max2_int min2_int max_two min_two max_three min_three max_four min_four   -- for this text's walks alone
set_option linter.unusedVariables false
set_option linter.unusedSimpArgs false
def tree_Find_1.f (k : Nat) (a0_0 : ByteArray) (a0_1 : Int) (a0_2 : ByteArray) (a1 : ByteArray) : Option (Int) := (tree_Order.f k a0_0 a1).bind fun t428 => (some t428)
set_option maxHeartbeats 8000000 in
set_option maxRecDepth 100000 in
theorem tree_Find_1.calls (k : Nat) (a0_0 : ByteArray) (a0_1 : Int) (a0_2 : ByteArray) (a1 : ByteArray) (r : Int) (w : World) (h : tree_Find_1.f k a0_0 a0_1 a0_2 a1 = some r) :
  Calls Tryd.prog 67 #[.agg #[.string a0_0, .int .i64 a0_1, .string a0_2], .string a1] w fun e w' => e = .returned (.int .i64 r) ∧ Below w.heap.size w w' := by
 have hu33 := Tryd.underlying33; have HB := Aside0.mk (Below.refl w.heap.size w); have H : ((tree_Order.f k a0_0 a1).bind fun t428 => (some t428)) = some r := h; clear h; replace H := Option.bind_eq_some_iff.mp H; obtain ⟨t428, A30, H⟩ := H; replace H : (some t428) = some r := H; have A3 := Aside0.mk A30; clear A30; obtain rfl := Option.some.inj H; go_enter Tryd.func67, Tryd.ntmps67; go_wp2_with (first | ((with_reducible refine gate_dst (N := 2) rfl ?_); refine box_event ?hg (N := 2) ?hd (cs := #[.string a0_0, .int .i64 a0_1, .string a0_2]) (t := 33) ?hr ?_; (case hd => rfl); (case hg => rfl); (case hr => first | (go_simp; done) | (go_simp; rfl)); intro gb427 hg w4 hbox hb; have n0_ := Aside0.mk (below_step (by repeat (first | (with_reducible first | exact HB.out | apply below_alloc | apply pw_below_drewN | apply below_drew1) | exact HB.out)) hb); have n1_ := Aside0.mk (hbox); have n2_ := Aside0.mk ((by rw [hg]; exact (below_size (by repeat (first | (with_reducible first | exact HB.out | apply below_alloc | apply pw_below_drewN | apply below_drew1) | exact HB.out))) : w.heap.size ≤ gb427)); have n3_ := Aside0.mk ((by rw [hg]; exact (below_size (by repeat (first | (with_reducible first | exact HB.out | apply below_alloc | apply pw_below_drewN | apply below_drew1) | exact HB.out))) : w.heap.size ≤ gb427)); clear HB; have HB := n0_; have BK427 := n1_; have GW427 := n2_; have GE427 := n3_; clear n0_ n1_ n2_ n3_; clear hb hbox hg; have hcz5_0 : w4.cell? ⟨gb427, 0, none⟩ = some (.string a0_0) := (blk_cell BK427.out 0).trans rfl; have hcz5_1 : w4.cell? ⟨gb427, 1, none⟩ = some (.int .i64 a0_1) := (blk_cell BK427.out 1).trans rfl; have hcz5_2 : w4.cell? ⟨gb427, 2, none⟩ = some (.string a0_2) := (blk_cell BK427.out 2).trans rfl; have hfz5_0 := blk_frozen BK427.out 0; have hfz5_1 := blk_frozen BK427.out 1; have hfz5_2 := blk_frozen BK427.out 2) | ((with_reducible refine gate_callee (f := 63) rfl ?_); refine goesL_ (some 8) rfl rfl Tryd.func63 (by kernel_rfl) rfl #[.string a0_0, .string a1] rfl (by (try simp only [List.map_toArray, List.map_cons, List.map_nil]); first | done | rfl | (simp only [List.length_drop, List.length_take]; rfl)) ?_; (with_reducible refine (tree_Order.calls k a0_0 a1 t428 _ A3.out).mono ?_); rintro e w6 ⟨rfl, hb⟩; refine ⟨_, rfl, ?_⟩; have n0_ := Aside0.mk (blk_below (g := gb427) (o := .cells #[.string a0_0, .int .i64 a0_1, .string a0_2] 33 (0, 0)) (by (with_reducible repeat (first | refine blk_drewN ?_ _ | refine blk_drew ?_ | refine blk_alloc ?_ _)); exact BK427.out) hb); have n1_ := Aside0.mk (below_step (by repeat (first | (with_reducible first | exact HB.out | apply below_alloc | apply pw_below_drewN | apply below_drew1 | refine below_set ?_ GE427.out) | exact HB.out)) hb); clear BK427; clear HB; have BK427 := n0_; have HB := n1_; clear n0_ n1_; (try clear hb); (try clear hb2); (try clear hk); (try clear hi))); go_ret; exact ⟨by first | rfl | (simp [errW_none, errW_some] <;> rfl) | (simp [*, errW_none, errW_some] <;> rfl), by repeat (first | (with_reducible first | exact HB.out | apply below_alloc | apply pw_below_drewN | apply below_drew1 | refine below_set ?_ GE427.out) | exact HB.out)⟩
end Go.Proofs.YtmeofdpmddjbgaaDoor.G
end
section
namespace Go.Proofs.YtmeofdpmddjbgaaDoor.G
open Go.RowKit Go.Proofs.YtmeofdpmddjbgaaDoorW.PrintWords Go.Proofs.YtmeofdpmddjbgaaDoorW.PrintLast Go.Proofs.YtmeofdpmddjbgaaDoorW.PrintMore
attribute [local go_sem] max2_int min2_int max_two min_two max_three min_three max_four min_four   -- for this text's walks alone
set_option linter.unusedVariables false
set_option linter.unusedSimpArgs false
def api_File_string.l0 : Nat → List (S33) → ByteArray → Int → Int → Int → Option (Int × Bool)
 | 0, _, _, _, _, _ => none
 | k + 1, x0, x1, x8, x9, x10 => if x9 < x10 then (if 0 ≤ (wrap64 ((IntKind.u64.wrap (wrap64 (x9 + x10))) / 2)) then (if (wrap64 ((IntKind.u64.wrap (wrap64 (x9 + x10))) / 2)) < (x0.length : Int) then ((tree_Find_1.f k ((rd_T33 x0 (wrap64 ((IntKind.u64.wrap (wrap64 (x9 + x10))) / 2))).f0) ((rd_T33 x0 (wrap64 ((IntKind.u64.wrap (wrap64 (x9 + x10))) / 2))).f1) ((rd_T33 x0 (wrap64 ((IntKind.u64.wrap (wrap64 (x9 + x10))) / 2))).f2) x1).bind fun t430 => (if t430 < 0 then (api_File_string.l0 k x0 x1 x8 (wrap64 ((wrap64 ((IntKind.u64.wrap (wrap64 (x9 + x10))) / 2)) + 1)) x10) else (api_File_string.l0 k x0 x1 x8 x9 (wrap64 ((IntKind.u64.wrap (wrap64 (x9 + x10))) / 2))))) else (none)) else (none)) else (if x9 < x8 then (if 0 ≤ x9 then (if x9 < (x0.length : Int) then ((tree_Find_1.f k ((rd_T33 x0 x9).f0) ((rd_T33 x0 x9).f1) ((rd_T33 x0 x9).f2) x1).bind fun t432 => (some (x9, (t432 == 0)))) else (none)) else (none)) else (some (x9, false)))
def api_File_string.f (k : Nat) (l0 : List (S33)) (a1 : ByteArray)  : Option (Int × Bool) := api_File_string.l0 k l0 a1 (l0.length : Int) 0 (l0.length : Int)
set_option maxHeartbeats 8000000 in
set_option maxRecDepth 100000 in
theorem api_File_string.calls (k : Nat) (A0 : Option Addr) (c0 : Nat) (l0 : List (S33)) (a1 : ByteArray)  (r1 : Int) (r2 : Bool) (w : World) (hr0 : Kd.C k33 w A0 l0.length l0) (hc0 : l0.length ≤ c0) (h : api_File_string.f k l0 a1 = some (r1, r2)) :
  Calls Tryd.prog 66 #[.slice A0 l0.length c0, .string a1, .func (.func 67) #[] #[]] w fun e w' => e = .returned (.tuple #[.int .i64 r1, .bool r2]) ∧ Below w.heap.size w w' := by
 have hu33 := Tryd.underlying33; have HR0 := Aside0.mk hr0; have HC0 := Aside0.mk hc0; clear hr0 hc0; have HB := Aside0.mk (Below.refl w.heap.size w); have H : (api_File_string.l0 k l0 a1 (l0.length : Int) 0 (l0.length : Int)) = some (r1, r2) := h; clear h; have H' := Aside0.mk H; clear H; go_enter Tryd.func66, Tryd.ntmps66; go_wp2; go_loopg [9, 10] k (fun kq v9 v10 w' => ∃ (x9_1 : Int) (x10_1 : Int), v9 = .int .i64 x9_1 ∧ v10 = .int .i64 x10_1 ∧ Aside0 (api_File_string.l0 kq l0 a1 (l0.length : Int) x9_1 x10_1 = some (r1, r2)) ∧ Aside0 (kq ≤ k) ∧ Aside0 (Below w.heap.size w w'))
 case atStart => exact ⟨(0), ((l0.length : Int)), (by first | rfl | (simp; done) | (simp [*]; done)), (by first | rfl | (simp; done) | (simp [*]; done)), H', ⟨Nat.le_refl _⟩, ⟨by repeat (first | (with_reducible first | exact HB.out | apply below_alloc | apply pw_below_drewN | apply below_drew1) | exact HB.out)⟩⟩
 case round =>
  clear H'; (try clear p2); obtain ⟨x9_1, x10_1, rfl, rfl, HA, HK1, HB⟩ := hrel
  cases gk with
  | zero => exact absurd HA.out (by simp [api_File_string.l0])
  | succ k1 =>
   have H := HA.out; clear HA; simp only [api_File_string.l0] at H; by_cases c4 : x9_1 < x10_1
   ·rw [if_pos c4] at H; have c4b0 : decide (x9_1 < x10_1) = true := decide_eq_true c4; clear c4; obtain ⟨ji5, hji5⟩ : ∃ j_ : Int, (wrap64 ((IntKind.u64.wrap (wrap64 (x9_1 + x10_1))) / 2)) = j_ := ⟨_, rfl⟩; (replace H : (if 0 ≤ (ji5) then (if (ji5) < (l0.length : Int) then ((tree_Find_1.f k1 ((rd_T33 l0 (ji5)).f0) ((rd_T33 l0 (ji5)).f1) ((rd_T33 l0 (ji5)).f2) a1).bind fun t430 => (if t430 < 0 then (api_File_string.l0 k1 l0 a1 (l0.length : Int) (wrap64 ((ji5) + 1)) x10_1) else (api_File_string.l0 k1 l0 a1 (l0.length : Int) x9_1 ji5))) else (none)) else (none)) = some (r1, r2) := by first | (rw [hji5] at H; exact H) | (simp only [hji5] at H ⊢; exact H)); have hji5w : (IntKind.i64.wrap ((IntKind.u64.wrap (wrap64 (x9_1 + x10_1))) / 2)) = ji5 := (i64_w _).trans hji5; by_cases c6 : 0 ≤ (ji5)
    ·rw [if_pos c6] at H; have c6b0 : decide (0 ≤ (ji5)) = true := decide_eq_true c6; clear c6; by_cases c7 : (ji5) < (l0.length : Int)
     ·rw [if_pos c7] at H; have c7b0 : decide ((ji5) < (l0.length : Int)) = true := decide_eq_true c7; clear c7; replace H := Option.bind_eq_some_iff.mp H; obtain ⟨t430, A80, H⟩ := H; replace H : (if t430 < 0 then (api_File_string.l0 k1 l0 a1 (l0.length : Int) (wrap64 ((ji5) + 1)) x10_1) else (api_File_string.l0 k1 l0 a1 (l0.length : Int) x9_1 ji5)) = some (r1, r2) := H; have A8 := Aside0.mk A80; clear A80; by_cases c9 : t430 < 0
      ·rw [if_pos c9] at H; have c9b0 : decide (t430 < 0) = true := decide_eq_true c9; clear c9; have H' := Aside0.mk H; clear H; have p429 : 0 ≤ ((ji5) : Int) := of_decide_eq_true (by first | (with_reducible assumption) | assumption); have q429 : (ji5) < (l0.length : Int) := of_decide_eq_true (by first | (with_reducible assumption) | assumption); obtain ⟨ad429, e429, hx429_0, hx429_1, hx429_2⟩ := at_T33 HR0.out (ji5) p429 q429; cases e429; replace hx429_0 := (HB.out.cell (World.block_lt_of_cell? w _ hx429_0)).trans hx429_0; replace hx429_1 := (HB.out.cell (World.block_lt_of_cell? w _ hx429_1)).trans hx429_1; replace hx429_2 := (HB.out.cell (World.block_lt_of_cell? w _ hx429_2)).trans hx429_2; replace p429 := eq_true p429; replace q429 := eq_true q429; go_wp2_with (first | ((with_reducible refine Go.Proofs.YtmeofdpmddjbgaaDoor.Fnv.gate_ rfl ?_); refine Go.Proofs.YtmeofdpmddjbgaaDoor.Fnv.goesL_ _ (some 30) rfl rfl Tryd.func67 (by kernel_rfl) rfl #[.agg #[.string ((rd_T33 l0 (ji5)).f0), .int .i64 ((rd_T33 l0 (ji5)).f1), .string ((rd_T33 l0 (ji5)).f2)], .string a1] rfl (by (try simp only [List.map_toArray, List.map_cons, List.map_nil]); first | done | (simp only [hji5]; rfl) | rfl | (simp only [List.length_drop, List.length_take]; rfl)) (by rfl) ?_; (with_reducible refine (tree_Find_1.calls k1 ((rd_T33 l0 (ji5)).f0) ((rd_T33 l0 (ji5)).f1) ((rd_T33 l0 (ji5)).f2) a1 t430 _ A8.out).mono ?_); rintro e w10 ⟨rfl, hb⟩; refine ⟨_, rfl, ?_⟩; have n0_ := Aside0.mk (below_step (by repeat (first | (with_reducible first | exact HB.out | apply below_alloc | apply pw_below_drewN | apply below_drew1) | exact HB.out)) hb); clear HB; have HB := n0_; clear n0_; (try clear hb); (try clear hb2); (try clear hk); (try clear hi))); go_roundg k1
       case measure => have := HK1.out; omega
       case rel => exact ⟨(wrap64 ((ji5) + 1)), (x10_1), (by first | rfl | (simp; done) | (simp only [← hji5] <;> (first | rfl | simp)) | (simp [*]; done)), (by first | rfl | (simp; done) | (simp [*]; done)), H', ⟨by have := HK1.out; omega⟩, ⟨by repeat (first | (with_reducible first | exact HB.out | apply below_alloc | apply pw_below_drewN | apply below_drew1) | exact HB.out)⟩⟩
      ·rw [if_neg c9] at H; have c9b0 : decide (t430 < 0) = false := decide_eq_false c9; clear c9; have H' := Aside0.mk H; clear H; have p429 : 0 ≤ ((ji5) : Int) := of_decide_eq_true (by first | (with_reducible assumption) | assumption); have q429 : (ji5) < (l0.length : Int) := of_decide_eq_true (by first | (with_reducible assumption) | assumption); obtain ⟨ad429, e429, hx429_0, hx429_1, hx429_2⟩ := at_T33 HR0.out (ji5) p429 q429; cases e429; replace hx429_0 := (HB.out.cell (World.block_lt_of_cell? w _ hx429_0)).trans hx429_0; replace hx429_1 := (HB.out.cell (World.block_lt_of_cell? w _ hx429_1)).trans hx429_1; replace hx429_2 := (HB.out.cell (World.block_lt_of_cell? w _ hx429_2)).trans hx429_2; replace p429 := eq_true p429; replace q429 := eq_true q429; go_wp2_with (first | ((with_reducible refine Go.Proofs.YtmeofdpmddjbgaaDoor.Fnv.gate_ rfl ?_); refine Go.Proofs.YtmeofdpmddjbgaaDoor.Fnv.goesL_ _ (some 30) rfl rfl Tryd.func67 (by kernel_rfl) rfl #[.agg #[.string ((rd_T33 l0 (ji5)).f0), .int .i64 ((rd_T33 l0 (ji5)).f1), .string ((rd_T33 l0 (ji5)).f2)], .string a1] rfl (by (try simp only [List.map_toArray, List.map_cons, List.map_nil]); first | done | (simp only [hji5]; rfl) | rfl | (simp only [List.length_drop, List.length_take]; rfl)) (by rfl) ?_; (with_reducible refine (tree_Find_1.calls k1 ((rd_T33 l0 (ji5)).f0) ((rd_T33 l0 (ji5)).f1) ((rd_T33 l0 (ji5)).f2) a1 t430 _ A8.out).mono ?_); rintro e w11 ⟨rfl, hb⟩; refine ⟨_, rfl, ?_⟩; have n0_ := Aside0.mk (below_step (by repeat (first | (with_reducible first | exact HB.out | apply below_alloc | apply pw_below_drewN | apply below_drew1) | exact HB.out)) hb); clear HB; have HB := n0_; clear n0_; (try clear hb); (try clear hb2); (try clear hk); (try clear hi))); go_roundg k1
       case measure => have := HK1.out; omega
       case rel => exact ⟨(x9_1), (ji5), (by first | rfl | (simp; done) | (simp [*]; done)), (by first | rfl | (simp; done) | (simp only [← hji5] <;> (first | rfl | simp)) | (simp [*]; done)), H', ⟨by have := HK1.out; omega⟩, ⟨by repeat (first | (with_reducible first | exact HB.out | apply below_alloc | apply pw_below_drewN | apply below_drew1) | exact HB.out)⟩⟩
     ·rw [if_neg c7] at H; exact absurd H (by simp)
    ·rw [if_neg c6] at H; exact absurd H (by simp)
   ·rw [if_neg c4] at H; have c4b0 : decide (x9_1 < x10_1) = false := decide_eq_false c4; clear c4; by_cases c12 : x9_1 < (l0.length : Int)
    ·rw [if_pos c12] at H; have c12b0 : decide (x9_1 < (l0.length : Int)) = true := decide_eq_true c12; clear c12; by_cases c13 : 0 ≤ x9_1
     ·rw [if_pos c13] at H; have c13b0 : decide (0 ≤ x9_1) = true := decide_eq_true c13; clear c13; by_cases c14 : x9_1 < (l0.length : Int)
      ·rw [if_pos c14] at H; have c14b0 : decide (x9_1 < (l0.length : Int)) = true := decide_eq_true c14; clear c14; replace H := Option.bind_eq_some_iff.mp H; obtain ⟨t432, A150, H⟩ := H; replace H : (some (x9_1, (t432 == 0))) = some (r1, r2) := H; have A15 := Aside0.mk A150; clear A150; simp only [Option.some.injEq, Prod.mk.injEq] at H; obtain ⟨rfl, rfl⟩ := H; have p431 : 0 ≤ (x9_1 : Int) := of_decide_eq_true (by first | (with_reducible assumption) | assumption); have q431 : x9_1 < (l0.length : Int) := of_decide_eq_true (by first | (with_reducible assumption) | assumption); obtain ⟨ad431, e431, hx431_0, hx431_1, hx431_2⟩ := at_T33 HR0.out x9_1 p431 q431; cases e431; replace hx431_0 := (HB.out.cell (World.block_lt_of_cell? w _ hx431_0)).trans hx431_0; replace hx431_1 := (HB.out.cell (World.block_lt_of_cell? w _ hx431_1)).trans hx431_1; replace hx431_2 := (HB.out.cell (World.block_lt_of_cell? w _ hx431_2)).trans hx431_2; replace p431 := eq_true p431; replace q431 := eq_true q431; go_wp2_with (first | (go_at_call 67; (with_reducible refine (tree_Find_1.calls k1 ((rd_T33 l0 x9_1).f0) ((rd_T33 l0 x9_1).f1) ((rd_T33 l0 x9_1).f2) a1 t432 _ A15.out).mono ?_); rintro e w16 ⟨rfl, hb⟩; have n0_ := Aside0.mk (below_step (by repeat (first | (with_reducible first | exact HB.out | apply below_alloc | apply pw_below_drewN | apply below_drew1) | exact HB.out)) hb); clear HB; have HB := n0_; clear n0_; (try clear hb); (try clear hb2); (try clear hk); (try clear hi))); go_ret2; exact ⟨by first | rfl | (simp [errW_none, errW_some] <;> rfl) | (simp [*, errW_none, errW_some] <;> rfl), by repeat (first | (with_reducible first | exact HB.out | apply below_alloc | apply pw_below_drewN | apply below_drew1) | exact HB.out)⟩
      ·rw [if_neg c14] at H; exact absurd H (by simp)
     ·rw [if_neg c13] at H; exact absurd H (by simp)
    ·rw [if_neg c12] at H; have c12b0 : decide (x9_1 < (l0.length : Int)) = false := decide_eq_false c12; clear c12; simp only [Option.some.injEq, Prod.mk.injEq] at H; obtain ⟨rfl, rfl⟩ := H; go_wp2; go_ret2; exact ⟨by first | rfl | (simp [errW_none, errW_some] <;> rfl) | (simp [*, errW_none, errW_some] <;> rfl), by repeat (first | (with_reducible first | exact HB.out | apply below_alloc | apply pw_below_drewN | apply below_drew1) | exact HB.out)⟩
end Go.Proofs.YtmeofdpmddjbgaaDoor.G
end
section
namespace Go.Proofs.YtmeofdpmddjbgaaDoor.G
open Go.RowKit Go.Proofs.YtmeofdpmddjbgaaDoorW.PrintWords Go.Proofs.YtmeofdpmddjbgaaDoorW.PrintLast Go.Proofs.YtmeofdpmddjbgaaDoorW.PrintMore
attribute [local go_sem] max2_int min2_int max_two min_two max_three min_three max_four min_four   -- for this text's walks alone
set_option linter.unusedVariables false
set_option linter.unusedSimpArgs false
def tree_Find.f (k : Nat) (l0 : List (S33)) (a1 : ByteArray) : Option (Int) := (api_File_string.f k l0 a1).bind fun bt433 => (if bt433.2 = true then (some bt433.1) else (some (-1)))
set_option maxHeartbeats 8000000 in
set_option maxRecDepth 100000 in
theorem tree_Find.calls (k : Nat) (A0 : Option Addr) (c0 : Nat) (l0 : List (S33)) (a1 : ByteArray) (r : Int) (w : World) (hr0 : Kd.C k33 w A0 l0.length l0) (hc0 : l0.length ≤ c0) (h : tree_Find.f k l0 a1 = some r) :
  Calls Tryd.prog 47 #[.slice A0 l0.length c0, .string a1] w fun e w' => e = .returned (.int .i64 r) ∧ Below w.heap.size w w' := by
 have HR0 := Aside0.mk hr0; have HC0 := Aside0.mk hc0; clear hr0 hc0; have HB := Aside0.mk (Below.refl w.heap.size w); have H : ((api_File_string.f k l0 a1).bind fun bt433 => (if bt433.2 = true then (some bt433.1) else (some (-1)))) = some r := h; clear h; replace H := Option.bind_eq_some_iff.mp H; obtain ⟨⟨t433, t434⟩, A30, H⟩ := H; replace H : (if t434 = true then (some t433) else (some (-1))) = some r := H; have A3 := Aside0.mk A30; clear A30; by_cases c4 : t434 = true
 ·subst c4; (have H1 : (some t433) = some r := by rw [if_pos rfl] at H; exact H); clear H; have H := H1; clear H1; obtain rfl := Option.some.inj H; go_enter Tryd.func47, Tryd.ntmps47; go_wp2_with (first | ((with_reducible refine gate_callee (f := 66) rfl ?_); refine goesL_ (some 10) rfl rfl Tryd.func66 (by kernel_rfl) rfl #[.slice A0 l0.length c0, .string a1, .func (.func 67) #[] #[]] rfl (by (try simp only [List.map_toArray, List.map_cons, List.map_nil]); first | done | rfl | (simp only [List.length_drop, List.length_take]; rfl)) ?_; (with_reducible refine (api_File_string.calls k _ _ l0 a1 t433 true _ ?side1 ?side2 A3.out).mono ?_); (case side1 => repeat (first | exact HR0.out | (with_reducible refine Kd.C_alloc ?_ _) | (with_reducible refine Kd.C_drewN ?_ _) | (with_reducible refine Kd.C_drew ?_))); (case side2 => exact HC0.out); rintro e w5 ⟨rfl, hb⟩; refine ⟨_, rfl, ?_⟩; have n0_ := Aside0.mk (below_step (by repeat (first | (with_reducible first | exact HB.out | apply below_alloc | apply pw_below_drewN | apply below_drew1) | exact HB.out)) hb); clear HB; have HB := n0_; clear n0_; (try clear hb); (try clear hb2); (try clear hk); (try clear hi))); go_ret; exact ⟨by first | rfl | (simp [errW_none, errW_some] <;> rfl) | (simp [*, errW_none, errW_some] <;> rfl), by repeat (first | (with_reducible first | exact HB.out | apply below_alloc | apply pw_below_drewN | apply below_drew1) | exact HB.out)⟩
 ·replace c4 := Bool.eq_false_iff.mpr c4; subst c4; (have H1 : (some (-1)) = some r := by rw [if_neg (show ¬ (false = true) by decide)] at H; exact H); clear H; have H := H1; clear H1; obtain rfl := Option.some.inj H; go_enter Tryd.func47, Tryd.ntmps47; go_wp2_with (first | ((with_reducible refine gate_callee (f := 66) rfl ?_); refine goesL_ (some 10) rfl rfl Tryd.func66 (by kernel_rfl) rfl #[.slice A0 l0.length c0, .string a1, .func (.func 67) #[] #[]] rfl (by (try simp only [List.map_toArray, List.map_cons, List.map_nil]); first | done | rfl | (simp only [List.length_drop, List.length_take]; rfl)) ?_; (with_reducible refine (api_File_string.calls k _ _ l0 a1 t433 false _ ?side1 ?side2 A3.out).mono ?_); (case side1 => repeat (first | exact HR0.out | (with_reducible refine Kd.C_alloc ?_ _) | (with_reducible refine Kd.C_drewN ?_ _) | (with_reducible refine Kd.C_drew ?_))); (case side2 => exact HC0.out); rintro e w6 ⟨rfl, hb⟩; refine ⟨_, rfl, ?_⟩; have n0_ := Aside0.mk (below_step (by repeat (first | (with_reducible first | exact HB.out | apply below_alloc | apply pw_below_drewN | apply below_drew1) | exact HB.out)) hb); clear HB; have HB := n0_; clear n0_; (try clear hb); (try clear hb2); (try clear hk); (try clear hi))); go_ret; exact ⟨by first | rfl | (simp [errW_none, errW_some] <;> rfl) | (simp [*, errW_none, errW_some] <;> rfl), by repeat (first | (with_reducible first | exact HB.out | apply below_alloc | apply pw_below_drewN | apply below_drew1) | exact HB.out)⟩
end Go.Proofs.YtmeofdpmddjbgaaDoor.G
end
section
namespace Go.Proofs.YtmeofdpmddjbgaaDoor.G
open Go.RowKit Go.Proofs.YtmeofdpmddjbgaaDoorW.PrintWords Go.Proofs.YtmeofdpmddjbgaaDoorW.PrintLast Go.Proofs.YtmeofdpmddjbgaaDoorW.PrintMore
set_option linter.unusedVariables false
set_option linter.unusedSimpArgs false
theorem check_sorted (l : List S33) (h : checkE l = 0) : SortedK keyF l ∧ l.length ≤ 256 ∧ ∀ x ∈ l, x.f0.size ≤ 200 := by
 obtain ⟨h1, _⟩ := check_ok l h
 obtain ⟨h2, h3⟩ := check_files l h
 refine ⟨?_, h2, fun x hx => (h3 x hx).1⟩
 unfold pathsE at h1
 by_cases c : 256 < (l.map (·.f0)).length
 ·rw [if_pos c] at h1; exact absurd h1 (by decide)
 ·rw [if_neg c] at h1
  have := (togE_sorted _ none h1).1
  exact List.pairwise_map.1 this
theorem treeE_check (s : ByteArray) (h : (treeE s).2 = 0) : checkE (treeE s).1 = 0 := by
 have h1 := image_tree s h
 unfold imageE at h1
 by_cases c : checkE (treeE s).1 = 0
 ·exact c
 ·rw [if_neg c] at h1
  exact absurd (congrArg Prod.snd h1) c
theorem cmpS_ev (x : S33) (p : ByteArray) (hx : x.f0.size ≤ 9223372036854775807) (hp : p.size ≤ 9223372036854775807) : ∃ t : Int, Ev (fun k => tree_Find_1.f k x.f0 x.f1 x.f2 p) t ∧ (t < 0 ↔ ltP x.f0 p) ∧ (t = 0 ↔ x.f0 = p) := by
 refine ⟨ordV x.f0.data.toList p.data.toList, ?_, (ordV_cmp _ _).1, ?_⟩
 ·unfold tree_Find_1.f
  exact Ev.bind (order_evW _ _ hx hp) (Ev.now _)
 ·rw [(ordV_cmp _ _).2.1, cmpL_eq]
  exact ⟨fun e => ba_ext e, fun e => by rw [e]⟩
theorem find_l0 (l : List S33) (hl : l.length ≤ 4294967295) (hok : okS l) (p : ByteArray) (hp : p.size ≤ 9223372036854775807) (t : Nat) (r : Int × Bool)
  (h : Ev (fun k => if (t : Int) < (l.length : Int) then (if 0 ≤ (t : Int) then (if (t : Int) < (l.length : Int) then ((tree_Find_1.f k ((rd_T33 l (t : Int)).f0) ((rd_T33 l (t : Int)).f1) ((rd_T33 l (t : Int)).f2) p).bind fun t432 => (some ((t : Int), (t432 == 0)))) else (none)) else (none)) else (some ((t : Int), false))) r) : ∀ (d lo hi : Nat), hi - lo = d → lo ≤ t → t ≤ hi → hi ≤ l.length →
  (∀ c, lo ≤ c → c < hi → (ltP (rd_T33 l (c : Int)).f0 p ↔ c < t)) → Ev (fun k => api_File_string.l0 k l p (l.length : Int) (lo : Int) (hi : Int)) r := by
 intro d
 induction d using Nat.strongRecOn with
 | _ d ih =>
  intro lo hi hd h1 h2 h3 hq
  apply Ev.step
  ·intro k; rw [api_File_string.l0]
  by_cases c1 : (lo : Int) < (hi : Int)
  ·have hlh : lo < hi := by omega
   obtain ⟨c, hc⟩ : ∃ c, (lo + hi) / 2 = c := ⟨_, rfl⟩
   have b1 : lo ≤ c := by omega
   have b2 : c < hi := by omega
   have b3 : c < l.length := by omega
   have c2 : (0 : Int) ≤ (c : Int) := by omega
   have c3 : (c : Int) < (l.length : Int) := by omega
   have hpc := hq c b1 b2
   obtain ⟨x, hx⟩ : ∃ x, rd_T33 l (c : Int) = x := ⟨_, rfl⟩
   obtain ⟨u, t1, t2, _⟩ := cmpS_ev x p (by rw [← hx]; exact okS_rd l hok c b3) hp
   rw [hx] at hpc
   have i1 := ih (hi - (c + 1)) (by omega) (c + 1) hi rfl
   have i2 := ih (c - lo) (by omega) lo c rfl h1
   have hb1 : (lo + hi) ≤ 8589934592 := by omega
   have hw2 : wrap64 ((c : Int) + 1) = ((c + 1 : Nat) : Int) := by rw [w64n_ _ (by omega) (by omega)]; omega
   have hw := half_ lo hi hb1
   rw [hc] at hw
   simp only [c1, hw, c2, c3, hx, ↓reduceIte]
   refine Ev.bind t1 ?_
   clear hw hb1
   by_cases q : u < 0
   ·simp only [q, ↓reduceIte, hw2]
    clear hw2
    exact i1 (Nat.succ_le_of_lt (hpc.1 (t2.1 q))) h2 h3 (fun e h4 h5 => hq e (by omega) h5)
   ·simp only [q, ↓reduceIte]
    clear hw2
    have : ¬ c < t := fun e => q (t2.2 (hpc.2 e))
    exact i2 (by omega) (by omega) (fun e h4 h5 => hq e h4 (by omega))
  ·have e : lo = t := by omega
   rw [e]
   rw [e] at c1
   simp only [c1, ↓reduceIte]
   exact h
/-- Found: the place; else nothing is there. -/
theorem find_ev (l : List S33) (hl : l.length ≤ 4294967295) (hs : SortedK keyF l) (hok : okS l) (p : ByteArray) (hp : p.size ≤ 9223372036854775807) :
  (∃ i, ∃ hi : i < l.length, (l[i]'hi).f0 = p ∧ Ev (fun k => tree_Find.f k l p) (i : Int)) ∨ ((∀ x ∈ l, x.f0 ≠ p) ∧ Ev (fun k => tree_Find.f k l p) (-1)) := by
 have hlt : ∀ i j (hi : i < l.length) (hj : j < l.length), i < j → ltP (l[i]'hi).f0 (l[j]'hj).f0 := fun i j hi hj hij => List.pairwise_iff_getElem.1 hs i j hi hj hij
 obtain ⟨t, t1, t2, t3⟩ := thr_ (fun c => ltP (rd_T33 l (c : Int)).f0 p) (fun c => Decidable.em _) 0 _ l.length rfl (Nat.zero_le _) (fun c c' h1 h2 h3 hc => by
  rw [rdF_nat l c h3] at hc
  rw [rdF_nat l c' (by omega)]
  rcases Nat.lt_or_ge c' c with q | q
  ·exact ltP_trans (hlt c' c (by omega) h3 q) hc
  ·have : c' = c := by omega
   subst this
   exact hc)
 have fin : ∀ r : Int × Bool, Ev (fun k => if (t : Int) < (l.length : Int) then (if 0 ≤ (t : Int) then (if (t : Int) < (l.length : Int) then ((tree_Find_1.f k ((rd_T33 l (t : Int)).f0) ((rd_T33 l (t : Int)).f1) ((rd_T33 l (t : Int)).f2) p).bind fun t432 => (some ((t : Int), (t432 == 0)))) else (none)) else (none)) else (some ((t : Int), false))) r → ∀ q : Int, q = (if r.2 = true then r.1 else -1) → Ev (fun k => tree_Find.f k l p) q := by
  intro r h q hq
  have := find_l0 l hl hok p hp t r h l.length 0 l.length (by omega) t1 t2 (Nat.le_refl _) t3
  unfold tree_Find.f api_File_string.f
  refine Ev.bind this ?_
  rw [hq]
  by_cases c : r.2 = true
  ·simp only [c, ↓reduceIte]
   exact Ev.now _
  ·simp only [c, ↓reduceIte, Bool.false_eq_true]
   exact Ev.now _
 have below : ∀ i (hi : i < l.length), i < t → (l[i]'hi).f0 ≠ p := fun i hi hit e => by
  have := (t3 i (Nat.zero_le _) hi).2 hit
  rw [rdF_nat l i hi, e] at this
  exact ltP_irrefl p this
 by_cases c : t < l.length
 ·have c1 : (t : Int) < (l.length : Int) := by omega
  have c2 : (0 : Int) ≤ (t : Int) := by omega
  have hr := rdF_nat l t c
  obtain ⟨u, u1, u2, u3⟩ := cmpS_ev (l[t]'c) p (hok _ (List.getElem_mem c)) hp
  have hE : Ev (fun k => if (t : Int) < (l.length : Int) then (if 0 ≤ (t : Int) then (if (t : Int) < (l.length : Int) then ((tree_Find_1.f k ((rd_T33 l (t : Int)).f0) ((rd_T33 l (t : Int)).f1) ((rd_T33 l (t : Int)).f2) p).bind fun t432 => (some ((t : Int), (t432 == 0)))) else (none)) else (none)) else (some ((t : Int), false))) ((t : Int), (u == 0)) := by
   simp only [c1, c2, ↓reduceIte, hr]
   exact Ev.bind u1 (Ev.now _)
  by_cases q : u = 0
  ·exact .inl ⟨t, c, u3.1 q, fin _ hE _ (by rw [q]; rfl)⟩
  ·refine .inr ⟨fun x hx e => ?_, fin _ hE _ (by rw [beq_eq_false_iff_ne.mpr q]; rfl)⟩
   obtain ⟨i, hi, e1⟩ := List.getElem_of_mem hx
   rw [← e1] at e
   rcases Nat.lt_trichotomy i t with g | g | g
   ·exact below i hi g e
   ·subst g
    exact q (u3.2 e)
   ·have h1 := hlt t i c hi g
    rw [e] at h1
    have := (t3 t (Nat.zero_le _) c).1 (by rw [hr]; exact h1)
    omega
 ·have c1 : ¬ (t : Int) < (l.length : Int) := by omega
  have hE : Ev (fun k => if (t : Int) < (l.length : Int) then (if 0 ≤ (t : Int) then (if (t : Int) < (l.length : Int) then ((tree_Find_1.f k ((rd_T33 l (t : Int)).f0) ((rd_T33 l (t : Int)).f1) ((rd_T33 l (t : Int)).f2) p).bind fun t432 => (some ((t : Int), (t432 == 0)))) else (none)) else (none)) else (some ((t : Int), false))) ((t : Int), false) := by
   simp only [c1, ↓reduceIte]
   exact Ev.now _
  refine .inr ⟨fun x hx e => ?_, fin _ hE _ rfl⟩
  obtain ⟨i, hi, e1⟩ := List.getElem_of_mem hx
  rw [← e1] at e
  exact below i hi (by omega) e
end Go.Proofs.YtmeofdpmddjbgaaDoor.G
end
section
namespace Go.Proofs.YtmeofdpmddjbgaaDoor.G
open Go.RowKit Go.Proofs.YtmeofdpmddjbgaaDoorW.PrintWords Go.Proofs.YtmeofdpmddjbgaaDoorW.PrintLast Go.Proofs.YtmeofdpmddjbgaaDoorW.PrintMore
attribute [local go_sem] max2_int min2_int max_two min_two max_three min_three max_four min_four   -- for this text's walks alone
set_option linter.unusedVariables false
set_option linter.unusedSimpArgs false
/-- The world but for draws. -/
def Drew (w w' : World) : Prop := ∃ m, w' = w.drewN m
theorem Drew.refl (w : World) : Drew w w := ⟨0, rfl⟩
theorem Drew.n {w W : World} (h : Drew w W) (m : Nat) : Drew w (W.drewN m) := by
 obtain ⟨k, rfl⟩ := h
 exact ⟨k + m, World.drewN_drewN _ _ _⟩
theorem Drew.one {w W : World} (h : Drew w W) : Drew w W.drew := Drew.n h 1
set_option maxHeartbeats 8000000 in
set_option maxRecDepth 100000 in
theorem tree_Order.calls_q (k : Nat) (a0 : ByteArray) (a1 : ByteArray) (r : Int) (w : World) (h : tree_Order.f k a0 a1 = some r) :
  Calls Tryd.prog 63 #[.string a0, .string a1] w fun e w' => e = .returned (.int .i64 r) ∧ Drew w w' := by
 have HB := Aside0.mk (Drew.refl w)
 have H : (tree_Order.l0 k a0 a1 (mn (a0.size : Int) (a1.size : Int)) 0) = some r := h
 clear h
 obtain ⟨ji3, hji3⟩ : ∃ j_ : Int, (mn (a0.size : Int) (a1.size : Int)) = j_ := ⟨_, rfl⟩
 replace H : (tree_Order.l0 k a0 a1 ji3 0) = some r := by first | (rw [hji3] at H; exact H) | (simp only [hji3] at H ⊢; exact H)
 (try (have hji3l : 0 ≤ ji3 := by (rw [← hji3]; unfold mn; (repeat' split) <;> omega)))
 (try (have hji3m : 0 ≤ ji3 := by omega))
 have hji3_ : (if (a1.size : Int) < (a0.size : Int) then (a1.size : Int) else (a0.size : Int)) = ji3 := hji3
 have hji3n : (if a1.size < a0.size then (a1.size : Int) else (a0.size : Int)) = ji3 := by rw [← hji3]; unfold mn; simp only [Int.ofNat_lt]
 have H' := Aside0.mk H
 clear H
 go_enter Tryd.func63, Tryd.ntmps63
 go_wp2
 repeat (go_quiet (fail); try go_wp2)
 go_loopg [13] k (fun kq v13 w' => ∃ (x13_1 : Int), v13 = .int .i64 x13_1 ∧ Aside0 (tree_Order.l0 kq a0 a1 ji3 x13_1 = some r) ∧ Aside0 (kq ≤ k) ∧ Aside0 (Drew w w'))
 case atStart => exact ⟨(0), (by first | rfl | (simp; done) | (simp [*]; done)), H', ⟨Nat.le_refl _⟩, ⟨by repeat (first | (with_reducible first | exact HB.out | apply Drew.n | apply Drew.one) | exact HB.out)⟩⟩
 case round =>
  clear H'
  try clear p2
  obtain ⟨x13_1, rfl, HA, HK1, HB⟩ := hrel
  cases gk with
  | zero => exact absurd HA.out (by simp [tree_Order.l0])
  | succ k1 =>
   have H := HA.out
   clear HA
   simp only [tree_Order.l0] at H
   by_cases c4 : x13_1 < ji3
   ·rw [if_pos c4] at H
    have c4b0 : decide (x13_1 < ji3) = true := decide_eq_true c4
    clear c4
    by_cases c5 : 0 ≤ x13_1
    ·rw [if_pos c5] at H
     have c5b0 : decide (0 ≤ x13_1) = true := decide_eq_true c5
     clear c5
     by_cases c6 : x13_1 < (a0.size : Int)
     ·rw [if_pos c6] at H
      have c6b0 : decide (x13_1 < (a0.size : Int)) = true := decide_eq_true c6
      clear c6
      by_cases c8 : x13_1 < (a1.size : Int)
      ·rw [if_pos c8] at H
       have c8b0 : decide (x13_1 < (a1.size : Int)) = true := decide_eq_true c8
       clear c8
       by_cases c10 : (wrap64 (bt a0 x13_1)) = (wrap64 (bt a1 x13_1))
       ·rw [if_pos c10] at H
        have c10b0 : ((wrap64 (bt a0 x13_1)) == (wrap64 (bt a1 x13_1))) = true := beq_iff_eq.mpr c10
        have c10b1 : ((wrap64 (bt a0 x13_1)) != (wrap64 (bt a1 x13_1))) = false := bne_eq_false_iff_eq.mpr c10
        clear c10
        have H' := Aside0.mk H
        clear H
        have p7 : 0 ≤ (x13_1 : Int) := of_decide_eq_true (by first | (with_reducible assumption) | assumption)
        have q7 : x13_1 < (a0.size : Int) := of_decide_eq_true (by first | (with_reducible assumption) | assumption)
        have hx7 := bt_at a0 x13_1
        replace p7 := eq_true p7
        replace q7 := eq_true q7
        have p9 : 0 ≤ (x13_1 : Int) := of_decide_eq_true (by first | (with_reducible assumption) | assumption)
        have q9 : x13_1 < (a1.size : Int) := of_decide_eq_true (by first | (with_reducible assumption) | assumption)
        have hx9 := bt_at a1 x13_1
        replace p9 := eq_true p9
        replace q9 := eq_true q9
        go_wp2
        repeat (go_quiet (fail); try go_wp2)
        go_roundg k1
        case measure => have := HK1.out; omega
        case rel => exact ⟨(wrap64 (x13_1 + 1)), (by first | rfl | (simp; done) | (simp [*]; done)), H', ⟨by have := HK1.out; omega⟩, ⟨by repeat (first | (with_reducible first | exact HB.out | apply Drew.n | apply Drew.one) | exact HB.out)⟩⟩
       ·rw [if_neg c10] at H
        have c10b0 : ((wrap64 (bt a0 x13_1)) == (wrap64 (bt a1 x13_1))) = false := beq_eq_false_iff_ne.mpr c10
        have c10b1 : ((wrap64 (bt a0 x13_1)) != (wrap64 (bt a1 x13_1))) = true := bne_iff_ne.mpr c10
        by_cases c11 : (wrap64 (bt a0 x13_1)) = 47
        ·rw [if_pos c11] at H
         have c11b0 : ((wrap64 (bt a0 x13_1)) == 47) = true := beq_iff_eq.mpr c11
         have c11b1 : ((wrap64 (bt a0 x13_1)) != 47) = false := bne_eq_false_iff_eq.mpr c11
         clear c11
         obtain rfl := Option.some.inj H
         have p7 : 0 ≤ (x13_1 : Int) := of_decide_eq_true (by first | (with_reducible assumption) | assumption)
         have q7 : x13_1 < (a0.size : Int) := of_decide_eq_true (by first | (with_reducible assumption) | assumption)
         have hx7 := bt_at a0 x13_1
         replace p7 := eq_true p7
         replace q7 := eq_true q7
         have p9 : 0 ≤ (x13_1 : Int) := of_decide_eq_true (by first | (with_reducible assumption) | assumption)
         have q9 : x13_1 < (a1.size : Int) := of_decide_eq_true (by first | (with_reducible assumption) | assumption)
         have hx9 := bt_at a1 x13_1
         replace p9 := eq_true p9
         replace q9 := eq_true q9
         go_wp2
         repeat (go_quiet (fail); try go_wp2)
         go_ret
         exact ⟨by first | rfl | (simp [errW_none, errW_some] <;> rfl) | (simp only [← hji3]; first | rfl | (simp [errW_none, errW_some] <;> rfl)) | (simp [*, errW_none, errW_some] <;> rfl), by repeat (first | (with_reducible first | exact HB.out | apply Drew.n | apply Drew.one) | exact HB.out)⟩
        ·rw [if_neg c11] at H
         have c11b0 : ((wrap64 (bt a0 x13_1)) == 47) = false := beq_eq_false_iff_ne.mpr c11
         have c11b1 : ((wrap64 (bt a0 x13_1)) != 47) = true := bne_iff_ne.mpr c11
         by_cases c12 : (wrap64 (bt a1 x13_1)) = 47
         ·rw [if_pos c12] at H
          have c12b0 : ((wrap64 (bt a1 x13_1)) == 47) = true := beq_iff_eq.mpr c12
          have c12b1 : ((wrap64 (bt a1 x13_1)) != 47) = false := bne_eq_false_iff_eq.mpr c12
          clear c12
          obtain rfl := Option.some.inj H
          have p7 : 0 ≤ (x13_1 : Int) := of_decide_eq_true (by first | (with_reducible assumption) | assumption)
          have q7 : x13_1 < (a0.size : Int) := of_decide_eq_true (by first | (with_reducible assumption) | assumption)
          have hx7 := bt_at a0 x13_1
          replace p7 := eq_true p7
          replace q7 := eq_true q7
          have p9 : 0 ≤ (x13_1 : Int) := of_decide_eq_true (by first | (with_reducible assumption) | assumption)
          have q9 : x13_1 < (a1.size : Int) := of_decide_eq_true (by first | (with_reducible assumption) | assumption)
          have hx9 := bt_at a1 x13_1
          replace p9 := eq_true p9
          replace q9 := eq_true q9
          go_wp2
          repeat (go_quiet (fail); try go_wp2)
          go_ret
          exact ⟨by first | rfl | (simp [errW_none, errW_some] <;> rfl) | (simp only [← hji3]; first | rfl | (simp [errW_none, errW_some] <;> rfl)) | (simp [*, errW_none, errW_some] <;> rfl), by repeat (first | (with_reducible first | exact HB.out | apply Drew.n | apply Drew.one) | exact HB.out)⟩
         ·rw [if_neg c12] at H
          have c12b0 : ((wrap64 (bt a1 x13_1)) == 47) = false := beq_eq_false_iff_ne.mpr c12
          have c12b1 : ((wrap64 (bt a1 x13_1)) != 47) = true := bne_iff_ne.mpr c12
          obtain rfl := Option.some.inj H
          have p7 : 0 ≤ (x13_1 : Int) := of_decide_eq_true (by first | (with_reducible assumption) | assumption)
          have q7 : x13_1 < (a0.size : Int) := of_decide_eq_true (by first | (with_reducible assumption) | assumption)
          have hx7 := bt_at a0 x13_1
          replace p7 := eq_true p7
          replace q7 := eq_true q7
          have p9 : 0 ≤ (x13_1 : Int) := of_decide_eq_true (by first | (with_reducible assumption) | assumption)
          have q9 : x13_1 < (a1.size : Int) := of_decide_eq_true (by first | (with_reducible assumption) | assumption)
          have hx9 := bt_at a1 x13_1
          replace p9 := eq_true p9
          replace q9 := eq_true q9
          go_wp2
          repeat (go_quiet (fail); try go_wp2)
          go_ret
          exact ⟨by first | rfl | (simp [errW_none, errW_some] <;> rfl) | (simp only [← hji3]; first | rfl | (simp [errW_none, errW_some] <;> rfl)) | (simp [*, errW_none, errW_some] <;> rfl), by repeat (first | (with_reducible first | exact HB.out | apply Drew.n | apply Drew.one) | exact HB.out)⟩
      ·rw [if_neg c8] at H
       exact absurd H (by simp)
     ·rw [if_neg c6] at H
      exact absurd H (by simp)
    ·rw [if_neg c5] at H
     exact absurd H (by simp)
   ·rw [if_neg c4] at H
    have c4b0 : decide (x13_1 < ji3) = false := decide_eq_false c4
    clear c4
    obtain rfl := Option.some.inj H
    go_wp2
    repeat (go_quiet (fail); try go_wp2)
    go_ret
    exact ⟨by first | rfl | (simp [errW_none, errW_some] <;> rfl) | (simp only [← hji3]; first | rfl | (simp [errW_none, errW_some] <;> rfl)) | (simp [*, errW_none, errW_some] <;> rfl), by repeat (first | (with_reducible first | exact HB.out | apply Drew.n | apply Drew.one) | exact HB.out)⟩
end Go.Proofs.YtmeofdpmddjbgaaDoor.G
end
section
namespace Go.Proofs.YtmeofdpmddjbgaaDoor.G
open Go.RowKit Go.Proofs.YtmeofdpmddjbgaaDoorW.PrintWords Go.Proofs.YtmeofdpmddjbgaaDoorW.PrintLast Go.Proofs.YtmeofdpmddjbgaaDoorW.PrintMore
attribute [local go_sem] max2_int min2_int max_two min_two max_three min_three max_four min_four   -- for this text's walks alone
set_option linter.unusedVariables false
set_option linter.unusedSimpArgs false
def nextL (p : ByteArray) : List S33 → List S33
 | [] => []
 | x :: t => if x.f0.toList = p.toList then t else x :: t
theorem rd33_0 (x : S33) (t : List S33) : rd_T33 (x :: t) 0 = x := rfl
set_option maxHeartbeats 4000000 in
set_option maxRecDepth 100000 in
theorem image_paths_1.calls (w0 : World) (A : Option Addr) (c : Nat) (l : List S33) (p : ByteArray) (g : Nat) (w : World) (hC : Kd.C k33 w0 A l.length l) (hc : l.length ≤ c) (hB : Below w0.heap.size w0 w) (hg : w.cell? ⟨g, 0, none⟩ = some (.string p)) :
  Calls Tryd.prog 64 #[.slice A l.length c, .pointer (some ⟨g, 0, none⟩)] w fun e w' => ∃ A' c', e = .returned (.slice A' (nextL p l).length c') ∧ Kd.C k33 w0 A' (nextL p l).length (nextL p l) ∧ (nextL p l).length ≤ c' ∧ Drew w w' := by
 have hu33 := Tryd.underlying33; have HC := Aside0.mk hC; have HB := Aside0.mk hB; clear hC hB
 cases l with
 | nil =>
  go_enter Tryd.func64, Tryd.ntmps64; go_wp2; go_quiet (fail); go_wp2
  exact bodyPost_ret (results_tmp (t := 3) rfl _ _ _) rfl ⟨A, c, rfl, HC.out, hc, ⟨_, rfl⟩⟩
 | cons x t =>
  obtain ⟨ad, ea, hx0, hx1, hx2⟩ := at_T33 HC.out 0 (by decide) (by rw [List.length_cons]; omega); cases ea; rw [rd33_0] at hx0 hx1 hx2; (have ead : ad.add ((0 : Int).toNat * 3) = ad := by simp [Addr.add]); rw [ead] at hx0; replace hx0 := (HB.out.cell (World.block_lt_of_cell? w0 _ hx0)).trans hx0; clear hx1 hx2 ead; obtain ⟨n, hn⟩ : ∃ n, (x :: t).length = n := ⟨_, rfl⟩; (have ht : t.length = n - 1 := by rw [← hn, List.length_cons]; omega); (have h1n : 1 ≤ n := by rw [← hn, List.length_cons]; omega); have hl0 : decide ((0 : Int) < (n : Int)) = true := decide_eq_true (by omega); have hl1 : decide (0 < n) = true := decide_eq_true (by omega); have HN := Aside0.mk hn; rw [hn] at hc ⊢; clear hn; by_cases q : x.f0.toList = p.toList
  ·have q1 : (x.f0.toList == p.toList) = true := beq_iff_eq.mpr q; (have e0 : nextL p (x :: t) = t := by rw [nextL, if_pos q]); clear q; have E0 := Aside0.mk e0; have HT := Aside0.mk ht; obtain ⟨i06, hi06, _, hsz6, _⟩ := info_parts info33; have hcut := cut_from (P := Tryd.prog) 22 33 .i64 Tryd.underlying22 hi06 3 hsz6 (some ad) n c 1 (by omega) (by omega); have HD := Aside0.mk (Kd.C_drop (m := 1) (c := c) HC.out (by rw [HN.out]; exact h1n) (by rw [HN.out]; exact hc)); obtain ⟨A1, hA1⟩ : ∃ A1 : Option Addr, (if c = (1 : Int).toNat then some ad else (some ad : Option Addr).map (·.add ((1 : Int).toNat * 3))) = A1 := ⟨_, rfl⟩; rw [hA1] at hcut; have HA1 := Aside0.mk hA1; have CC := Aside0.mk (show t.length ≤ c - 1 by omega); clear hA1 e0 ht hi06 hsz6; go_enter Tryd.func64, Tryd.ntmps64; go_wp2; go_quiet (fail); go_wp2; (have ED : Kd.C k33 w0 A1 t.length t := by rw [← HA1.out]; exact HD.out); exact bodyPost_ret (results_tmp (t := 3) rfl _ _ _) rfl ⟨A1, c - 1, by rw [E0.out, HT.out]; rfl, by rw [E0.out]; exact ED, by rw [E0.out]; exact CC.out, ⟨_, rfl⟩⟩
  ·have q1 : (x.f0.toList == p.toList) = false := beq_eq_false_iff_ne.mpr q; (have e0 : nextL p (x :: t) = x :: t := by rw [nextL, if_neg q]); clear q; have E0 := Aside0.mk e0; clear e0 ht; go_enter Tryd.func64, Tryd.ntmps64; go_wp2; go_quiet (fail); go_wp2; exact bodyPost_ret (results_tmp (t := 3) rfl _ _ _) rfl ⟨some ad, c, by rw [E0.out, HN.out]; rfl, by rw [E0.out]; exact HC.out, by rw [E0.out, HN.out]; exact hc, ⟨_, rfl⟩⟩
def leastS (k : Nat) (m : ByteArray) : List S33 → Option ByteArray
 | [] => some m
 | x :: _ => if m.toList = [] then some x.f0 else (tree_Order.f k x.f0 m).bind fun t => if t < 0 then some x.f0 else some m
def paths_r : Nat → List S33 → List S33 → List S33 → List ByteArray → Option (List ByteArray)
 | 0, _, _, _, _ => none
 | k + 1, a, b, c, acc => if (wrap64 ((wrap64 ((a.length : Int) + (b.length : Int))) + (c.length : Int))) > 0 then (leastS k ⟨#[]⟩ a).bind fun m1 => (leastS k m1 b).bind fun m2 => (leastS k m2 c).bind fun m =>
   if acc.length < 8796093022208 then paths_r k (nextL m a) (nextL m b) (nextL m c) (acc ++ [m]) else none
  else some acc
def image_paths.f (k : Nat) (l0 l1 l2 : List S33) : Option (List ByteArray) := paths_r k l0 l1 l2 []
def leasts (k : Nat) (m : ByteArray) : List (List S33) → Option ByteArray
 | [] => some m
 | l :: ls => (leastS k m l).bind fun m1 => leasts k m1 ls
set_option maxHeartbeats 16000000 in
set_option maxRecDepth 100000 in
theorem image_paths.calls (k : Nat) (A0 : Option Addr) (c0 : Nat) (l0 : List S33) (A1 : Option Addr) (c1 : Nat) (l1 : List S33) (A2 : Option Addr) (c2 : Nat) (l2 : List S33) (r : List ByteArray) (w : World) (hr0 : Kd.C k33 w A0 l0.length l0) (hc0 : l0.length ≤ c0) (hr1 : Kd.C k33 w A1 l1.length l1) (hc1 : l1.length ≤ c1) (hr2 : Kd.C k33 w A2 l2.length l2) (hc2 : l2.length ≤ c2) (h : image_paths.f k l0 l1 l2 = some r) :
  Calls Tryd.prog 41 #[.slice A0 l0.length c0, .slice A1 l1.length c1, .slice A2 l2.length c2] w fun e w' => ∃ v0_ : Value, e = .returned v0_ ∧ Kd.R Kd.string 9 w' w.heap.size (fun _ => True) v0_ r ∧ Below w.heap.size w w' := by
 have hu33 := Tryd.underlying33; have HB := Aside0.mk (Below.refl w.heap.size w); have R0 := Aside0.mk (show Kd.C k33 w A0 l0.length l0 ∧ l0.length ≤ c0 from ⟨hr0, hc0⟩); have R1 := Aside0.mk (show Kd.C k33 w A1 l1.length l1 ∧ l1.length ≤ c1 from ⟨hr1, hc1⟩); have R2 := Aside0.mk (show Kd.C k33 w A2 l2.length l2 ∧ l2.length ≤ c2 from ⟨hr2, hc2⟩); unfold image_paths.f at h; have HF := Aside0.mk h; clear h hr0 hr1 hr2 hc0 hc1 hc2; go_enter Tryd.func41, Tryd.ntmps41; go_wp2; go_loopg [0, 1, 2, 7] k (fun kq v0 v1 v2 v7 w' => ∃ (a b c : List S33) (Aa Ab Ac : Option Addr) (ca cb cc : Nat) (acc : List ByteArray), v0 = .slice Aa a.length ca ∧ v1 = .slice Ab b.length cb ∧ v2 = .slice Ac c.length cc ∧ Aside0 (paths_r kq a b c acc = some r) ∧ Aside0 (kq ≤ k) ∧ Aside0 (Kd.C k33 w Aa a.length a ∧ a.length ≤ ca) ∧ Aside0 (Kd.C k33 w Ab b.length b ∧ b.length ≤ cb) ∧ Aside0 (Kd.C k33 w Ac c.length c ∧ c.length ≤ cc) ∧ Aside0 (Kd.R Kd.string 9 w' w.heap.size (fun _ => True) v7 acc) ∧ Aside0 (Below w.heap.size w w'))
 case atStart => exact ⟨l0, l1, l2, A0, A1, A2, c0, c1, c2, [], rfl, rfl, rfl, HF, ⟨Nat.le_refl _⟩, R0, R1, R2, ⟨Kd.R_nil _ _ _ _ _⟩, HB⟩
 case round =>
  clear HF HB R0 R1 R2; obtain ⟨a, b, c, Aa, Ab, Ac, ca, cb, cc, acc, rfl, rfl, rfl, HF, HK, R0, R1, R2, HO, HB⟩ := hrel
  cases gk with
  | zero => exact absurd HF.out (by simp [paths_r])
  | succ k1 =>
   have H := HF.out; clear HF; rw [paths_r] at H; by_cases q : (wrap64 ((wrap64 ((a.length : Int) + (b.length : Int))) + (c.length : Int))) > 0
   ·rw [if_pos q] at H; have q1 : decide (0 < (wrap64 ((wrap64 ((a.length : Int) + (b.length : Int))) + (c.length : Int)))) = true := decide_eq_true q; clear q; obtain ⟨m1, L1, H⟩ := Option.bind_eq_some_iff.mp H; obtain ⟨m2, L2, H⟩ := Option.bind_eq_some_iff.mp H; obtain ⟨m, L3, H⟩ := Option.bind_eq_some_iff.mp H; by_cases ql : acc.length < 8796093022208
    case neg => rw [if_neg ql] at H; cases H
    rw [if_pos ql] at H; have HN := Aside0.mk H; have QL := Aside0.mk ql; have L1 := Aside0.mk L1; have L2 := Aside0.mk L2; have L3 := Aside0.mk L3; clear H ql; have L := Aside0.mk (show leasts k1 ⟨#[]⟩ ([a, b, c].drop 0) = some m by rw [List.drop_zero, leasts, L1.out, Option.bind_some, leasts, L2.out, Option.bind_some, leasts, L3.out, Option.bind_some, leasts]); clear L1 L2 L3; go_wp2; have B1 := Aside0.mk (blk_new wr (.cells #[.string (⟨#[]⟩ : ByteArray)] 9)); have HB1 := Aside0.mk (below_alloc HB.out (.cells #[.string (⟨#[]⟩ : ByteArray)] 9)); have HO1 := Aside0.mk (Kd.R_alloc (Kd.R_elderB HO.out wr.heap.size (Nat.le_refl _)) (.cells #[.string (⟨#[]⟩ : ByteArray)] 9)); have GW := Aside0.mk (show w.heap.size ≤ wr.heap.size from below_size HB.out); obtain ⟨g, hg⟩ : ∃ g, wr.heap.size = g := ⟨_, rfl⟩; rw [hg] at B1 HO1 GW; simp only [hg]; clear hg HO HB q1; go_loopg [25] 4 (fun ki v25 w' => ∃ (i : Nat) (mm : ByteArray), v25 = .int .i64 i ∧ Aside0 (i ≤ 3 ∧ ki = 4 - i) ∧ Aside0 (leasts k1 mm ([a, b, c].drop i) = some m) ∧ Aside0 (w'.heap[g]? = some (.cells #[.string mm] 9 (0, 0))) ∧ Aside0 (Kd.R Kd.string 9 w' w.heap.size (fun k => True ∧ k ≠ g) u7 acc) ∧ Aside0 (Below w.heap.size w w'))
    case atStart => exact ⟨0, _, rfl, ⟨⟨by decide, rfl⟩⟩, L, B1, HO1, HB1⟩
    case round =>
     clear L B1 HO1 HB1; obtain ⟨i, mm, rfl, HI, HL, BK, HO, HB⟩ := hrel; by_cases hi : i < 3
     ·have hi1 : decide ((i : Int) < 3) = true := decide_eq_true (by omega)
      obtain ⟨A, l, cl, hidx, HR, hL⟩ : ∃ (A : Option Addr) (l : List S33) (cl : Nat), (∀ W, (Instr.index 91 (.agg #[.slice Aa a.length ca, .slice Ab b.length cb, .slice Ac c.length cc]) (.int .i64 (i : Int))).run Tryd.prog W = .ok (.slice A l.length cl) W) ∧ Aside0 (Kd.C k33 w A l.length l ∧ l.length ≤ cl) ∧ ∃ m1, leastS k1 mm l = some m1 ∧ leasts k1 m1 ([a, b, c].drop (i + 1)) = some m := by
       have H := HL.out; (have h3 : i = 0 ∨ i = 1 ∨ i = 2 := by omega); rcases h3 with e | e | e
       ·subst e; rw [show [a, b, c].drop 0 = a :: [b, c] from rfl, leasts] at H; obtain ⟨m1, h1, h2⟩ := Option.bind_eq_some_iff.mp H; exact ⟨Aa, a, ca, fun W => by rfl, R0, m1, h1, h2⟩
       ·subst e; rw [show [a, b, c].drop 1 = b :: [c] from rfl, leasts] at H; obtain ⟨m1, h1, h2⟩ := Option.bind_eq_some_iff.mp H; exact ⟨Ab, b, cb, fun W => by rfl, R1, m1, h1, h2⟩
       ·subst e; rw [show [a, b, c].drop 2 = c :: [] from rfl, leasts] at H; obtain ⟨m1, h1, h2⟩ := Option.bind_eq_some_iff.mp H; exact ⟨Ac, c, cc, fun W => by rfl, R2, m1, h1, h2⟩
      obtain ⟨m1, hL1, hL2⟩ := hL; have HL2 := Aside0.mk hL2; clear HL hL2; have bk0 : wr.cell? ⟨g, 0, none⟩ = some (.string mm) := (blk_cell BK.out 0).trans rfl; have bk1 := blk_frozen BK.out 0
      cases l with
      | nil =>
       obtain rfl := Option.some.inj hL1; go_wp2; go_quiet (fail); go_wp2; go_roundg (4 - (i + 1))
       case measure => have := HI.out.2; omega
       case rel => exact ⟨i + 1, mm, rfl, ⟨⟨by omega, rfl⟩⟩, HL2, ⟨blk_drewN BK.out _⟩, ⟨Kd.R_drewN HO.out _⟩, ⟨pw_below_drewN HB.out _⟩⟩
      | cons x t =>
       obtain ⟨ad, ea, hx0, hx1, hx2⟩ := at_T33 HR.out.1 0 (by decide) (by rw [List.length_cons]; omega); cases ea; rw [rd33_0] at hx0 hx1 hx2; (have ead : ad.add ((0 : Int).toNat * 3) = ad := by simp [Addr.add]); rw [ead] at hx0; replace hx0 := (HB.out.cell (World.block_lt_of_cell? w _ hx0)).trans hx0; clear hx1 hx2 ead; obtain ⟨n, hn⟩ : ∃ n, (x :: t).length = n := ⟨_, rfl⟩; (have h1n : 1 ≤ n := by rw [← hn, List.length_cons]; omega); have hl0 : decide ((0 : Int) < (n : Int)) = true := decide_eq_true (by omega); have hl1 : decide (0 < n) = true := decide_eq_true (by omega); rw [hn] at hidx; clear hn; rw [leastS] at hL1; by_cases qe : mm.toList = []
       ·rw [if_pos qe] at hL1; obtain rfl := Option.some.inj hL1; have qe1 : (mm.toList == []) = true := beq_iff_eq.mpr qe; clear qe; go_wp2; go_quiet (fail); go_wp2; go_roundg (4 - (i + 1))
        case measure => have := HI.out.2; omega
        case rel => exact ⟨i + 1, _, rfl, ⟨⟨by omega, rfl⟩⟩, HL2, ⟨blk_put (blk_drewN BK.out _) 0 _ rfl⟩, ⟨Kd.R_far (p := ⟨g, 0, none⟩) (Kd.R_drewN HO.out _) (fun _ hk => hk.2) _⟩, ⟨below_set (pw_below_drewN HB.out _) GW.out⟩⟩
       ·rw [if_neg qe] at hL1; have qe1 : (mm.toList == []) = false := beq_eq_false_iff_ne.mpr qe; clear qe; obtain ⟨t0, O1, hL1⟩ := Option.bind_eq_some_iff.mp hL1; have O1 := Aside0.mk O1; by_cases qt : t0 < 0
        ·rw [if_pos qt] at hL1; obtain rfl := Option.some.inj hL1; have qt1 : decide (t0 < 0) = true := decide_eq_true qt; clear qt; go_wp2; go_quiet ((go_at_call 63; exact Calls.quiet_of (tree_Order.calls_q k1 x.f0 mm t0 _ O1.out))); go_wp2; go_roundg (4 - (i + 1))
         case measure => have := HI.out.2; omega
         case rel => exact ⟨i + 1, _, rfl, ⟨⟨by omega, rfl⟩⟩, HL2, ⟨blk_put (blk_drewN BK.out _) 0 _ rfl⟩, ⟨Kd.R_far (p := ⟨g, 0, none⟩) (Kd.R_drewN HO.out _) (fun _ hk => hk.2) _⟩, ⟨below_set (pw_below_drewN HB.out _) GW.out⟩⟩
        ·rw [if_neg qt] at hL1; obtain rfl := Option.some.inj hL1; have qt1 : decide (t0 < 0) = false := decide_eq_false qt; clear qt; go_wp2; go_quiet ((go_at_call 63; exact Calls.quiet_of (tree_Order.calls_q k1 x.f0 mm t0 _ O1.out))); go_wp2; go_roundg (4 - (i + 1))
         case measure => have := HI.out.2; omega
         case rel => exact ⟨i + 1, mm, rfl, ⟨⟨by omega, rfl⟩⟩, HL2, ⟨blk_drewN BK.out _⟩, ⟨Kd.R_drewN HO.out _⟩, ⟨pw_below_drewN HB.out _⟩⟩
     ·have hi1 : decide ((i : Int) < 3) = false := decide_eq_false (by omega); (have e3 : i = 3 := by have := HI.out.1; omega); subst e3; have H := HL.out; rw [show [a, b, c].drop 3 = [] from rfl, leasts] at H; obtain rfl := Option.some.inj H; have bk0 : wr.cell? ⟨g, 0, none⟩ = some (.string mm) := (blk_cell BK.out 0).trans rfl; clear HL H hi HI
      go_wp2_with (first
       | ((with_reducible refine gate_builtin (b := .append) (xs := #[.tmp 49, .tmp 51]) rfl ?_); at_builtin; refine Kd.R_append Kd.string (w0 := w) w.heap.size rfl (.tmp 49) (.tmp 51) 43 9 (.string ⟨#[]⟩) 16 rfl Tryd.underlying43 info9 rfl (by decide) (by omega) u7 acc mm [.string mm] (fun _ => True) (fun _ => False) rfl rfl ?aP (fun _ hk => hk.elim) ?aF ?aO ?aB ?aS ?aL ?_; (case aP => exact rfl); (case aB => exact HB.out); (case aF => exact (fun _ _ => trivial)); (case aO => exact Kd.R_mono HO.out (fun _ _ => trivial)); (case aS => exact (below_size HB.out)); (case aL => have := QL.out; omega); intro v8 w8 ho hb hg hat; have HO8 := Aside0.mk ho; have HB8 := Aside0.mk hb; have BK8 := Aside0.mk (blk_grown BK.out hg (fun e_ => (HO.out.1 g e_.symm).2 rfl)); have bk8 : w8.cell? ⟨g, 0, none⟩ = some (.string mm) := (blk_cell BK8.out 0).trans rfl; clear ho hb hg hat bk0))
      refine (image_paths_1.calls w Aa ca a mm g w8 R0.out.1 R0.out.2 HB8.out bk8).mono ?_; rintro e w9 ⟨Aa', ca', rfl, hC, hc, m9, rfl⟩; have R0' := Aside0.mk (show Kd.C k33 w Aa' (nextL mm a).length (nextL mm a) ∧ (nextL mm a).length ≤ ca' from ⟨hC, hc⟩); clear hC hc bk8; have bk9 : (w8.drewN m9).cell? ⟨g, 0, none⟩ = some (.string mm) := (blk_cell (blk_drewN BK8.out m9) 0).trans rfl; have HB9 := Aside0.mk (pw_below_drewN HB8.out m9)
      go_wp2_with (first
       | (go_at_call 64; refine (image_paths_1.calls w Ab cb b mm g (w8.drewN m9) R1.out.1 R1.out.2 HB9.out bk9).mono ?_; rintro e w10 ⟨Ab', cb', rfl, hC, hc, m10, rfl⟩; have R1' := Aside0.mk (show Kd.C k33 w Ab' (nextL mm b).length (nextL mm b) ∧ (nextL mm b).length ≤ cb' from ⟨hC, hc⟩); clear hC hc bk9; have bk10 : (w8.drewN (m9 + m10)).cell? ⟨g, 0, none⟩ = some (.string mm) := (blk_cell (blk_drewN BK8.out (m9 + m10)) 0).trans rfl; have HB10 := Aside0.mk (pw_below_drewN HB8.out (m9 + m10)))
       | (go_at_call 64; refine (image_paths_1.calls w Ac cc c mm g (w8.drewN (m9 + m10)) R2.out.1 R2.out.2 HB10.out bk10).mono ?_; rintro e w11 ⟨Ac', cc', rfl, hC, hc, m11, rfl⟩; have R2' := Aside0.mk (show Kd.C k33 w Ac' (nextL mm c).length (nextL mm c) ∧ (nextL mm c).length ≤ cc' from ⟨hC, hc⟩); clear hC hc bk10; have HB11 := Aside0.mk (pw_below_drewN HB8.out (m9 + m10 + m11))))
      go_roundg k1
      case measure => have := HK.out; omega
      case rel => exact ⟨nextL mm a, nextL mm b, nextL mm c, Aa', Ab', Ac', ca', cb', cc', acc ++ [mm], rfl, rfl, rfl, HN, ⟨by have := HK.out; omega⟩, R0', R1', R2', ⟨Kd.R_drewN HO8.out (m9 + m10 + m11)⟩, HB11⟩
   ·rw [if_neg q] at H; have q1 : decide (0 < (wrap64 ((wrap64 ((a.length : Int) + (b.length : Int))) + (c.length : Int)))) = false := decide_eq_false q; clear q; obtain rfl := Option.some.inj H; go_wp2; exact bodyPost_ret (results_tmp (t := 6) rfl _ _ _) rfl ⟨_, rfl, HO.out, HB.out⟩
attribute [local go_sem high] eqA33
/-- A file of a slice, or none, by its place. -/
def atV (A : Option Addr) (t : Int) : Value := if t < 0 then .pointer none else .pointer (A.map (·.add (t.toNat * 3)))
def image_at.f (k : Nat) (l : List S33) (p : ByteArray) : Option Int := (tree_Find.f k l p).bind fun t => if t < 0 then some (-1) else if t < (l.length : Int) then some t else none
set_option maxHeartbeats 4000000 in
set_option maxRecDepth 100000 in
theorem image_at.calls (k : Nat) (A : Option Addr) (c : Nat) (l : List S33) (p : ByteArray) (r : Int) (w0 w : World) (hC : Kd.C k33 w0 A l.length l ∧ l.length ≤ c) (hB : Below w0.heap.size w0 w) (h : image_at.f k l p = some r) :
  Calls Tryd.prog 42 #[.slice A l.length c, .string p] w fun e w' => e = .returned (atV A r) ∧ Below w.heap.size w w' := by
 unfold image_at.f at h; obtain ⟨t, h1, h2⟩ := Option.bind_eq_some_iff.mp h; have T1 := Aside0.mk h1; have HC := Aside0.mk (Kd.C_below hC.1 hB); have HR := Aside0.mk hC.2; clear h h1 hC hB; by_cases q : t < 0
 ·rw [if_pos q] at h2; obtain rfl := Option.some.inj h2; have q1 : decide (0 ≤ t) = false := decide_eq_false (by omega); clear q h2; go_enter Tryd.func42, Tryd.ntmps42; go_wp2_with (go_at_call 47; (with_reducible refine (tree_Find.calls k A c l p t w HC.out HR.out T1.out).mono ?_); rintro e w1 ⟨rfl, hb⟩; have HB := Aside0.mk hb; clear hb); exact bodyPost_ret (results_tmp (t := 4) rfl _ _ _) rfl ⟨rfl, HB.out⟩
 ·rw [if_neg q] at h2; by_cases q2 : t < (l.length : Int)
  case neg => rw [if_neg q2] at h2; cases h2
  rw [if_pos q2] at h2; obtain rfl := Option.some.inj h2; have q1 : decide (0 ≤ t) = true := decide_eq_true (by omega); obtain ⟨ad, ea, _, _, _⟩ := at_T33 HC.out t (by omega) q2; subst ea; (have q3 : 0 ≤ t := by omega); have E := Aside0.mk (show atV (some ad) t = .pointer (some (ad.add (t.toNat * 3))) by unfold atV; rw [if_neg q]; rfl); clear q h2; replace q3 := eq_true q3; replace q2 := eq_true q2; go_enter Tryd.func42, Tryd.ntmps42; go_wp2_with (go_at_call 47; (with_reducible refine (tree_Find.calls k (some ad) c l p t w HC.out HR.out T1.out).mono ?_); rintro e w1 ⟨rfl, hb⟩; have HB := Aside0.mk hb; clear hb); exact bodyPost_ret (results_tmp (t := 4) rfl _ _ _) rfl ⟨by rw [E.out]; rfl, HB.out⟩
/-- A pointer to a file that reads so, or nil. -/
def PtrAt (w : World) (v : Value) : Option S33 → Prop
 | none => v = .pointer none
 | some x => ∃ ad : Addr, v = .pointer (some ad) ∧ w.cell? ad = some (.string x.f0) ∧ w.cell? ⟨ad.block, ad.off + 1, none⟩ = some (.int .i64 x.f1) ∧ w.cell? ⟨ad.block, ad.off + 2, none⟩ = some (.string x.f2)
def likeP : Option S33 → Option S33 → Bool
 | none, none => true
 | some x, some y => x.f0.toList == y.f0.toList && (x.f1 == y.f1 && (x.f2.toList == y.f2.toList))
 | _, _ => false
set_option maxHeartbeats 4000000 in
set_option maxRecDepth 100000 in
theorem image_like.calls (x y : Option S33) (v u : Value) (w : World) (hv : PtrAt w v x) (hu : PtrAt w u y) :
  Calls Tryd.prog 43 #[v, u] w fun e w' => e = .returned (.bool (likeP x y)) ∧ Below w.heap.size w w' := by
 have hu33 := Tryd.underlying33
 cases x with
 | none =>
  obtain rfl : v = .pointer none := hv
  cases y with
  | none =>
   obtain rfl : u = .pointer none := hu; go_enter Tryd.func43, Tryd.ntmps43; go_wp2
   exact bodyPost_ret (results_tmp (t := 4) rfl _ _ _) rfl ⟨rfl, Below.refl _ _⟩
  | some y =>
   obtain ⟨ad, rfl, y0, y1, y2⟩ := hu; go_enter Tryd.func43, Tryd.ntmps43; go_wp2
   exact bodyPost_ret (results_tmp (t := 4) rfl _ _ _) rfl ⟨rfl, Below.refl _ _⟩
 | some x =>
  obtain ⟨ad, rfl, x0, x1, x2⟩ := hv
  cases y with
  | none =>
   obtain rfl : u = .pointer none := hu; go_enter Tryd.func43, Tryd.ntmps43; go_wp2
   exact bodyPost_ret (results_tmp (t := 4) rfl _ _ _) rfl ⟨rfl, Below.refl _ _⟩
  | some y =>
   obtain ⟨ad2, rfl, y0, y1, y2⟩ := hu; go_enter Tryd.func43, Tryd.ntmps43; go_wp2; go_quiet (fail); go_wp2; exact bodyPost_ret (results_tmp (t := 4) rfl _ _ _) rfl ⟨rfl, pw_below_drewN (Below.refl _ _) _⟩
theorem PtrAt.below {w w' : World} {v : Value} {o : Option S33} (h : PtrAt w v o) (hb : Below w.heap.size w w') : PtrAt w' v o := by
 cases o with
 | none => exact h
 | some x =>
  obtain ⟨ad, e, h0, h1, h2⟩ := h
  exact ⟨ad, e, (hb.cell (World.block_lt_of_cell? w _ h0)).trans h0, (hb.cell (World.block_lt_of_cell? w _ h1)).trans h1, (hb.cell (World.block_lt_of_cell? w _ h2)).trans h2⟩
def getP (l : List S33) (t : Int) : Option S33 := if t < 0 then none else some (rd_T33 l t)
theorem ptr_at (k : Nat) (A : Option Addr) (c : Nat) (l : List S33) (p : ByteArray) (r : Int) (w0 : World) (hC : Kd.C k33 w0 A l.length l ∧ l.length ≤ c) (h : image_at.f k l p = some r) : PtrAt w0 (atV A r) (getP l r) := by
 unfold image_at.f at h
 obtain ⟨t, h1, h2⟩ := Option.bind_eq_some_iff.mp h
 by_cases q : t < 0
 ·rw [if_pos q] at h2
  obtain rfl := Option.some.inj h2
  rfl
 ·rw [if_neg q] at h2
  by_cases q2 : t < (l.length : Int)
  case neg => rw [if_neg q2] at h2; cases h2
  rw [if_pos q2] at h2
  obtain rfl := Option.some.inj h2
  obtain ⟨ad, rfl, x0, x1, x2⟩ := at_T33 hC.1 t (by omega) q2
  unfold getP atV
  rw [if_neg q, if_neg q]
  exact ⟨_, rfl, x0, x1, x2⟩
/-- What Merge does at a path: the file that is taken, the paths that both changed. -/
def mrgStep (k : Nat) (x y z : List S33) (p : ByteArray) (both : List ByteArray) : Option (Option S33 × List ByteArray) :=
 (image_at.f k x p).bind fun i => (image_at.f k y p).bind fun j => (image_at.f k z p).bind fun l =>
  if likeP (getP y j) (getP z l) = true then some (getP y j, both) else if likeP (getP x i) (getP z l) = true then some (getP y j, both) else if likeP (getP x i) (getP y j) = true then some (getP z l, both) else if both.length < 8796093022208 then some (getP y j, both ++ [p]) else none
def mrgGo (k : Nat) (x y z : List S33) : List ByteArray → List S33 → List ByteArray → Option (List S33 × List ByteArray)
 | [], out, both => some (out, both)
 | p :: ps, out, both => (mrgStep k x y z p both).bind fun g => match g.1 with
  | none => mrgGo k x y z ps out g.2
  | some f => if out.length < 3518437208883 then mrgGo k x y z ps (out ++ [f]) g.2 else none
def image_Merge.f (k : Nat) (a0 a1 a2 : ByteArray) : Option (ByteArray × List ByteArray × Int) :=
 (image_Tree.f k a0).bind fun x => if x.2 = 0 then ((image_Tree.f k a1).bind fun y => if y.2 = 0 then ((image_Tree.f k a2).bind fun z => if z.2 = 0 then
  ((image_paths.f k x.1 y.1 z.1).bind fun ps => (mrgGo k x.1 y.1 z.1 ps [] []).bind fun o => (image_Of.f k o.1).bind fun s => if s.2 = 0 then some (s.1, o.2, 0) else some (⟨#[]⟩, [], s.2))
  else some (⟨#[]⟩, [], z.2)) else some (⟨#[]⟩, [], y.2)) else some (⟨#[]⟩, [], x.2)
set_option maxHeartbeats 16000000 in
set_option maxRecDepth 100000 in
theorem image_Merge.calls (k : Nat) (a0 a1 a2 : ByteArray) (r1 : ByteArray) (r2 : List ByteArray) (r3 : Int) (w : World) (h : image_Merge.f k a0 a1 a2 = some (r1, r2, r3)) :
  Calls Tryd.prog 22 #[.string a0, .string a1, .string a2] w fun e w' => ∃ v0_ : Value, e = .returned (.tuple #[.string r1, v0_, .int .i64 r3]) ∧ Kd.R Kd.string 9 w' w.heap.size (fun _ => True) v0_ r2 ∧ Below w.heap.size w w' := by
 have hu33 := Tryd.underlying33; have HB := Aside0.mk (Below.refl w.heap.size w); unfold image_Merge.f at h; obtain ⟨⟨x, ex⟩, T1', h'⟩ := Option.bind_eq_some_iff.mp h; clear h; have h := h'; clear h'; have T1 := Aside0.mk T1'; clear T1'; by_cases qx : ex = 0
 case neg =>
  rw [if_neg qx] at h; simp only [Option.some.injEq, Prod.mk.injEq] at h; obtain ⟨rfl, rfl, rfl⟩ := h; have q1 : (ex != 0) = true := bne_iff_ne.mpr qx; clear qx; go_enter Tryd.func22, Tryd.ntmps22; go_wp2_with (go_at_call 17; (with_reducible refine (image_Tree.calls k a0 x ex w T1.out).mono ?_); rintro e w1 ⟨vx, rfl, ho, hb⟩; have HB1 := Aside0.mk hb; clear ho hb); exact bodyPost_ret (results_tmp3 rfl _ _ _) rfl ⟨_, rfl, Kd.R_nil _ _ _ _ _, HB1.out⟩
 rw [if_pos qx] at h; subst qx; obtain ⟨⟨y, ey⟩, T2', h'⟩ := Option.bind_eq_some_iff.mp h; clear h; have h := h'; clear h'; have T2 := Aside0.mk T2'; clear T2'; by_cases qy : ey = 0
 case neg =>
  rw [if_neg qy] at h; simp only [Option.some.injEq, Prod.mk.injEq] at h; obtain ⟨rfl, rfl, rfl⟩ := h; have q1 : (ey != 0) = true := bne_iff_ne.mpr qy; clear qy; go_enter Tryd.func22, Tryd.ntmps22
  go_wp2_with (first
   | (go_at_call 17; (with_reducible refine (image_Tree.calls k a0 x 0 w T1.out).mono ?_); rintro e w1 ⟨vx, rfl, ho, hb⟩; have HB1 := Aside0.mk hb; clear ho hb)
   | (go_at_call 17; (with_reducible refine (image_Tree.calls k a1 y ey w1 T2.out).mono ?_); rintro e w2 ⟨vy, rfl, ho, hb⟩; have HB2 := Aside0.mk (below_step HB1.out hb); clear ho hb))
  exact bodyPost_ret (results_tmp3 rfl _ _ _) rfl ⟨_, rfl, Kd.R_nil _ _ _ _ _, HB2.out⟩
 rw [if_pos qy] at h; subst qy; obtain ⟨⟨z, ez⟩, T3', h'⟩ := Option.bind_eq_some_iff.mp h; clear h; have h := h'; clear h'; have T3 := Aside0.mk T3'; clear T3'; by_cases qz : ez = 0
 case neg =>
  rw [if_neg qz] at h; simp only [Option.some.injEq, Prod.mk.injEq] at h; obtain ⟨rfl, rfl, rfl⟩ := h; have q1 : (ez != 0) = true := bne_iff_ne.mpr qz; clear qz; go_enter Tryd.func22, Tryd.ntmps22
  go_wp2_with (first
   | (go_at_call 17; (with_reducible refine (image_Tree.calls k a0 x 0 w T1.out).mono ?_); rintro e w1 ⟨vx, rfl, ho, hb⟩; have HB1 := Aside0.mk hb; clear ho hb)
   | (go_at_call 17; (with_reducible refine (image_Tree.calls k a1 y 0 w1 T2.out).mono ?_); rintro e w2 ⟨vy, rfl, ho, hb⟩; have HB2 := Aside0.mk (below_step HB1.out hb); clear ho hb)
   | (go_at_call 17; (with_reducible refine (image_Tree.calls k a2 z ez w2 T3.out).mono ?_); rintro e w3 ⟨vz, rfl, ho, hb⟩; have HB3 := Aside0.mk (below_step HB2.out hb); clear ho hb))
  exact bodyPost_ret (results_tmp3 rfl _ _ _) rfl ⟨_, rfl, Kd.R_nil _ _ _ _ _, HB3.out⟩
 rw [if_pos qz] at h; subst qz; obtain ⟨ps, P1', h2⟩ := Option.bind_eq_some_iff.mp h; obtain ⟨⟨out, both⟩, G1', h3⟩ := Option.bind_eq_some_iff.mp h2; obtain ⟨⟨s, es⟩, F1', h4⟩ := Option.bind_eq_some_iff.mp h3; have PP := Aside0.mk P1'; have G1 := Aside0.mk G1'; have F1 := Aside0.mk F1'; have HF := Aside0.mk h4; clear h h2 h3 h4 P1' G1' F1'; go_enter Tryd.func22, Tryd.ntmps22
 go_wp2_with (first
  | (go_at_call 17; (with_reducible refine (image_Tree.calls k a0 x 0 w T1.out).mono ?_); rintro e w1 ⟨vx, rfl, ho, hb⟩; obtain ⟨Ax, cx, rfl⟩ := Kd.R_slice ho; have RX := Aside0.mk (show Kd.C k33 w1 Ax x.length x ∧ x.length ≤ cx from ⟨(Kd.R_reads' ho).2.2, (Kd.R_reads' ho).2.1⟩); have HB1 := Aside0.mk hb; clear ho hb)
  | (go_at_call 17; (with_reducible refine (image_Tree.calls k a1 y 0 w1 T2.out).mono ?_); rintro e w2 ⟨vy, rfl, ho, hb⟩; obtain ⟨Ay, cy, rfl⟩ := Kd.R_slice ho; have RY := Aside0.mk (show Kd.C k33 w2 Ay y.length y ∧ y.length ≤ cy from ⟨(Kd.R_reads' ho).2.2, (Kd.R_reads' ho).2.1⟩); have RX2 := Aside0.mk (show Kd.C k33 w2 Ax x.length x ∧ x.length ≤ cx from ⟨Kd.C_below RX.out.1 hb, RX.out.2⟩); have HB2 := Aside0.mk (below_step HB1.out hb); clear ho hb)
  | (go_at_call 17; (with_reducible refine (image_Tree.calls k a2 z 0 w2 T3.out).mono ?_); rintro e w3 ⟨vz, rfl, ho, hb⟩; obtain ⟨Az, cz, rfl⟩ := Kd.R_slice ho; have RZ := Aside0.mk (show Kd.C k33 w3 Az z.length z ∧ z.length ≤ cz from ⟨(Kd.R_reads' ho).2.2, (Kd.R_reads' ho).2.1⟩); have RX3 := Aside0.mk (show Kd.C k33 w3 Ax x.length x ∧ x.length ≤ cx from ⟨Kd.C_below RX2.out.1 hb, RX2.out.2⟩); have RY3 := Aside0.mk (show Kd.C k33 w3 Ay y.length y ∧ y.length ≤ cy from ⟨Kd.C_below RY.out.1 hb, RY.out.2⟩); have HB3 := Aside0.mk (below_step HB2.out hb); clear ho hb)
  | (go_at_call 41; (with_reducible refine (image_paths.calls k Ax cx x Ay cy y Az cz z ps w3 RX3.out.1 RX3.out.2 RY3.out.1 RY3.out.2 RZ.out.1 RZ.out.2 PP.out).mono ?_); rintro e w4 ⟨vp, rfl, ho, hb⟩; obtain ⟨Ap, cp, rfl⟩ := Kd.R_slice ho; have RP := Aside0.mk (show Kd.string.C w4 Ap ps.length ps from (Kd.R_reads' ho).2.2); have R1 := Aside0.mk (show Kd.C k33 w4 Ax x.length x ∧ x.length ≤ cx from ⟨Kd.C_below RX3.out.1 hb, RX3.out.2⟩); have R2 := Aside0.mk (show Kd.C k33 w4 Ay y.length y ∧ y.length ≤ cy from ⟨Kd.C_below RY3.out.1 hb, RY3.out.2⟩); have R3 := Aside0.mk (show Kd.C k33 w4 Az z.length z ∧ z.length ≤ cz from ⟨Kd.C_below RZ.out.1 hb, RZ.out.2⟩); have HB4 := Aside0.mk (below_step HB3.out hb); clear ho hb))
 go_loopg [13, 14, 51] (ps.length + 1) (fun kq v13 v14 v51 w' => ∃ (i : Nat) (os : List S33) (bs : List ByteArray), v51 = .int .i64 i ∧ Aside0 (i ≤ ps.length ∧ kq = ps.length + 1 - i) ∧ Aside0 (mrgGo k x y z (ps.drop i) os bs = some (out, both)) ∧ Aside0 (Kd.R k33 33 w' w4.heap.size (fun _ => True) v13 os) ∧ Aside0 (Kd.R Kd.string 9 w' w4.heap.size (fun _ => True) v14 bs) ∧ Aside0 (Below w4.heap.size w4 w'))
 case atStart => exact ⟨0, [], [], rfl, ⟨⟨Nat.zero_le _, rfl⟩⟩, G1, ⟨Kd.R_nil _ _ _ _ _⟩, ⟨Kd.R_nil _ _ _ _ _⟩, ⟨Below.refl _ _⟩⟩
 case round =>
  clear G1; obtain ⟨i, os, bs, rfl, HI, HG, HO, HS, HW⟩ := hrel; by_cases hi : i < ps.length
  ·have hi1 : decide ((i : Int) < (ps.length : Int)) = true := decide_eq_true (by omega); (have hi2 : (0 : Int) ≤ (i : Int) := by omega); (have hi3 : (i : Int) < (ps.length : Int) := by omega); obtain ⟨ad, ea, hx⟩ := Kd.at_string RP.out (i : Int) hi2 hi3; subst ea; rw [show rdOf ByteArray.empty ps (i : Int) = ps[i]'hi from by unfold rdOf; simp [List.getD_eq_getElem?_getD, hi]] at hx; simp only [Int.toNat_natCast] at hx; replace hx := (HW.out.cell (World.block_lt_of_cell? w4 _ hx)).trans hx; have H := HG.out; rw [List.drop_eq_getElem_cons hi, mrgGo] at H; obtain ⟨p, hp⟩ : ∃ p, ps[i]'hi = p := ⟨_, rfl⟩; rw [hp] at H hx; obtain ⟨⟨got, bs2⟩, S1', H2⟩ := Option.bind_eq_some_iff.mp H; unfold mrgStep at S1'; obtain ⟨t1, I1, S2⟩ := Option.bind_eq_some_iff.mp S1'; obtain ⟨t2, I2, S3⟩ := Option.bind_eq_some_iff.mp S2; obtain ⟨t3, I3, S1⟩ := Option.bind_eq_some_iff.mp S3; clear S1' S2 S3 H; have P1' := ptr_at k Ax cx x p t1 w4 R1.out I1; have P2' := ptr_at k Ay cy y p t2 w4 R2.out I2; have P3' := ptr_at k Az cz z p t3 w4 R3.out I3; obtain ⟨v1, e1⟩ : ∃ v, atV Ax t1 = v := ⟨_, rfl⟩; obtain ⟨v2, e2⟩ : ∃ v, atV Ay t2 = v := ⟨_, rfl⟩; obtain ⟨v3, e3⟩ : ∃ v, atV Az t3 = v := ⟨_, rfl⟩; obtain ⟨ow, how⟩ : ∃ o, getP x t1 = o := ⟨_, rfl⟩; obtain ⟨om, hom⟩ : ∃ o, getP y t2 = o := ⟨_, rfl⟩; obtain ⟨oi, hoi⟩ : ∃ o, getP z t3 = o := ⟨_, rfl⟩; (have AT1' : ∀ W : World, Below w4.heap.size w4 W → Calls Tryd.prog 42 #[.slice Ax x.length cx, .string p] W fun e w' => e = .returned v1 ∧ Below W.heap.size W w' := fun W hb => by rw [← e1]; exact image_at.calls k Ax cx x p t1 w4 W R1.out hb I1); (have AT2' : ∀ W : World, Below w4.heap.size w4 W → Calls Tryd.prog 42 #[.slice Ay y.length cy, .string p] W fun e w' => e = .returned v2 ∧ Below W.heap.size W w' := fun W hb => by rw [← e2]; exact image_at.calls k Ay cy y p t2 w4 W R2.out hb I2); (have AT3' : ∀ W : World, Below w4.heap.size w4 W → Calls Tryd.prog 42 #[.slice Az z.length cz, .string p] W fun e w' => e = .returned v3 ∧ Below W.heap.size W w' := fun W hb => by rw [← e3]; exact image_at.calls k Az cz z p t3 w4 W R3.out hb I3); rw [e1, how] at P1'; rw [e2, hom] at P2'; rw [e3, hoi] at P3'; rw [how, hom, hoi] at S1; have P1 := Aside0.mk P1'; have P2 := Aside0.mk P2'; have P3 := Aside0.mk P3'; have AT1 := Aside0.mk AT1'; have AT2 := Aside0.mk AT2'; have AT3 := Aside0.mk AT3'; clear I1 I2 I3 e1 e2 e3 how hom hoi HG hp hi2 hi3 P1' P2' P3' AT1' AT2' AT3'; have HC := Aside0.mk H2; clear H2; have hi4 := Aside0.mk (show i + 1 ≤ ps.length from hi); by_cases q1 : likeP om oi = true
   ·rw [if_pos q1] at S1; obtain ⟨rfl, rfl⟩ := Prod.mk.inj (Option.some.inj S1); clear S1
    cases om with
    | none =>
     obtain rfl : v2 = .pointer none := P2.out; have HN := Aside0.mk (show mrgGo k x y z (ps.drop (i + 1)) os bs = some (out, both) from HC.out); clear HC
     go_wp2_with (first
      | (go_at_call 42; (with_reducible refine (AT1.out _ HW.out).mono ?_); rintro e w5 ⟨rfl, hb⟩; have HK5 := Aside0.mk (hb); have HW5 := Aside0.mk (below_step HW.out hb); clear hb hx)
      | (go_at_call 42; (with_reducible refine (AT2.out _ HW5.out).mono ?_); rintro e w6 ⟨rfl, hb⟩; have HK6 := Aside0.mk (below_step HK5.out hb); have HW6 := Aside0.mk (below_step HW5.out hb); clear hb)
      | (go_at_call 42; (with_reducible refine (AT3.out _ HW6.out).mono ?_); rintro e w7 ⟨rfl, hb⟩; have HK7 := Aside0.mk (below_step HK6.out hb); have HW7 := Aside0.mk (below_step HW6.out hb); clear hb)
      | (go_at_call 43; (with_reducible refine (image_like.calls none oi _ _ _ (PtrAt.below P2.out HW7.out) (PtrAt.below P3.out HW7.out)).mono ?_); rintro e w8 ⟨rfl, hb⟩; have HK8 := Aside0.mk (below_step HK7.out hb); have HW8 := Aside0.mk (below_step HW7.out hb); clear hb; skip))
     go_roundg (ps.length + 1 - (i + 1))
     case measure => have := HI.out.2; omega
     case rel => exact ⟨i + 1, os, bs, by rw [wrap_succ_ i ps.length hi (Kd.C_len_ RP.out)], ⟨⟨hi4.out, rfl⟩⟩, HN, ⟨Kd.R_below HO.out HK8.out⟩, ⟨Kd.R_below HS.out HK8.out⟩, HW8⟩
    | some f =>
     obtain ⟨ad2, e2, d0, d1, d2⟩ := P2.out; subst e2; have D := Aside0.mk (show w4.cell? ad2 = some (.string f.f0) ∧ w4.cell? ⟨ad2.block, ad2.off + 1, none⟩ = some (.int .i64 f.f1) ∧ w4.cell? ⟨ad2.block, ad2.off + 2, none⟩ = some (.string f.f2) from ⟨d0, d1, d2⟩); clear d0 d1 d2; have H := HC.out; replace H : (if os.length < 3518437208883 then mrgGo k x y z (ps.drop (i + 1)) (os ++ [f]) bs else none) = some (out, both) := H; by_cases qo : os.length < 3518437208883
     case neg => rw [if_neg qo] at H; cases H
     rw [if_pos qo] at H; have HN := Aside0.mk H; have QO := Aside0.mk qo; clear H HC qo
     go_wp2_with (first
      | (go_at_call 42; (with_reducible refine (AT1.out _ HW.out).mono ?_); rintro e w5 ⟨rfl, hb⟩; have HK5 := Aside0.mk (hb); have HW5 := Aside0.mk (below_step HW.out hb); clear hb hx)
      | (go_at_call 42; (with_reducible refine (AT2.out _ HW5.out).mono ?_); rintro e w6 ⟨rfl, hb⟩; have HK6 := Aside0.mk (below_step HK5.out hb); have HW6 := Aside0.mk (below_step HW5.out hb); clear hb)
      | (go_at_call 42; (with_reducible refine (AT3.out _ HW6.out).mono ?_); rintro e w7 ⟨rfl, hb⟩; have HK7 := Aside0.mk (below_step HK6.out hb); have HW7 := Aside0.mk (below_step HW6.out hb); clear hb)
      | (go_at_call 43; (with_reducible refine (image_like.calls (some f) oi _ _ _ (PtrAt.below P2.out HW7.out) (PtrAt.below P3.out HW7.out)).mono ?_); rintro e w8 ⟨rfl, hb⟩; have HK8 := Aside0.mk (below_step HK7.out hb); have HW8 := Aside0.mk (below_step HW7.out hb); clear hb; have f0 := (HW8.out.cell (World.block_lt_of_cell? w4 _ D.out.1)).trans D.out.1; have f1 := (HW8.out.cell (World.block_lt_of_cell? w4 _ D.out.2.1)).trans D.out.2.1; have f2 := (HW8.out.cell (World.block_lt_of_cell? w4 _ D.out.2.2)).trans D.out.2.2; skip)
      | ((with_reducible refine gate_builtin (b := .append) (xs := #[.tmp 83, .tmp 87]) rfl ?_); at_builtin; refine Kd.R_append k33 (w0 := w4) w4.heap.size rfl (.tmp 83) (.tmp 87) 22 33 (.agg #[.string ⟨#[]⟩, .int .i64 0, .string ⟨#[]⟩]) 40 rfl Tryd.underlying22 info33 rfl (by decide) (by omega) u13 os f [.string f.f0, .int .i64 f.f1, .string f.f2] (fun _ => True) (fun _ => False) rfl (by first | (go_simp; done) | (go_simp; rfl)) ?aP (fun _ hk => hk.elim) ?aF ?aO ?aB ?aS ?aL ?_; (case aP => exact k33_mkM _ _ _ f); (case aB => exact HW8.out); (case aF => exact (fun _ _ => trivial)); (case aO => exact Kd.R_below HO.out HK8.out); (case aS => exact (below_size HW8.out)); (case aL => have := QO.out; omega); intro vo w21 ho hb hg hat; have HO21 := Aside0.mk ho; have HS21 := Aside0.mk (Kd.R_over' (Kd.R_below HS.out HK8.out) (Kd.R_typed (Kd.R_below HO.out HK8.out)) (by decide) hg); have HW21 := Aside0.mk hb; clear ho hb hg hat f0 f1 f2))
     go_roundg (ps.length + 1 - (i + 1))
     case measure => have := HI.out.2; omega
     case rel => exact ⟨i + 1, os ++ [f], bs, by rw [wrap_succ_ i ps.length hi (Kd.C_len_ RP.out)], ⟨⟨hi4.out, rfl⟩⟩, HN, ⟨HO21.out⟩, ⟨HS21.out⟩, HW21⟩
   ·rw [if_neg q1] at S1; (have q1 : likeP om oi = false := by simpa using q1); by_cases q2 : likeP ow oi = true
    ·rw [if_pos q2] at S1; obtain ⟨rfl, rfl⟩ := Prod.mk.inj (Option.some.inj S1); clear S1
     cases om with
     | none =>
      obtain rfl : v2 = .pointer none := P2.out; have HN := Aside0.mk (show mrgGo k x y z (ps.drop (i + 1)) os bs = some (out, both) from HC.out); clear HC
      go_wp2_with (first
       | (go_at_call 42; (with_reducible refine (AT1.out _ HW.out).mono ?_); rintro e w5 ⟨rfl, hb⟩; have HK5 := Aside0.mk (hb); have HW5 := Aside0.mk (below_step HW.out hb); clear hb hx)
       | (go_at_call 42; (with_reducible refine (AT2.out _ HW5.out).mono ?_); rintro e w6 ⟨rfl, hb⟩; have HK6 := Aside0.mk (below_step HK5.out hb); have HW6 := Aside0.mk (below_step HW5.out hb); clear hb)
       | (go_at_call 42; (with_reducible refine (AT3.out _ HW6.out).mono ?_); rintro e w7 ⟨rfl, hb⟩; have HK7 := Aside0.mk (below_step HK6.out hb); have HW7 := Aside0.mk (below_step HW6.out hb); clear hb)
       | (go_at_call 43; (with_reducible refine (image_like.calls none oi _ _ _ (PtrAt.below P2.out HW7.out) (PtrAt.below P3.out HW7.out)).mono ?_); rintro e w8 ⟨rfl, hb⟩; have HK8 := Aside0.mk (below_step HK7.out hb); have HW8 := Aside0.mk (below_step HW7.out hb); clear hb; skip)
       | (go_at_call 43; (with_reducible refine (image_like.calls ow oi _ _ _ (PtrAt.below P1.out HW8.out) (PtrAt.below P3.out HW8.out)).mono ?_); rintro e w9 ⟨rfl, hb⟩; have HK9 := Aside0.mk (below_step HK8.out hb); have HW9 := Aside0.mk (below_step HW8.out hb); clear hb; skip))
      go_roundg (ps.length + 1 - (i + 1))
      case measure => have := HI.out.2; omega
      case rel => exact ⟨i + 1, os, bs, by rw [wrap_succ_ i ps.length hi (Kd.C_len_ RP.out)], ⟨⟨hi4.out, rfl⟩⟩, HN, ⟨Kd.R_below HO.out HK9.out⟩, ⟨Kd.R_below HS.out HK9.out⟩, HW9⟩
     | some f =>
      obtain ⟨ad2, e2, d0, d1, d2⟩ := P2.out; subst e2; have D := Aside0.mk (show w4.cell? ad2 = some (.string f.f0) ∧ w4.cell? ⟨ad2.block, ad2.off + 1, none⟩ = some (.int .i64 f.f1) ∧ w4.cell? ⟨ad2.block, ad2.off + 2, none⟩ = some (.string f.f2) from ⟨d0, d1, d2⟩); clear d0 d1 d2; have H := HC.out; replace H : (if os.length < 3518437208883 then mrgGo k x y z (ps.drop (i + 1)) (os ++ [f]) bs else none) = some (out, both) := H; by_cases qo : os.length < 3518437208883
      case neg => rw [if_neg qo] at H; cases H
      rw [if_pos qo] at H; have HN := Aside0.mk H; have QO := Aside0.mk qo; clear H HC qo
      go_wp2_with (first
       | (go_at_call 42; (with_reducible refine (AT1.out _ HW.out).mono ?_); rintro e w5 ⟨rfl, hb⟩; have HK5 := Aside0.mk (hb); have HW5 := Aside0.mk (below_step HW.out hb); clear hb hx)
       | (go_at_call 42; (with_reducible refine (AT2.out _ HW5.out).mono ?_); rintro e w6 ⟨rfl, hb⟩; have HK6 := Aside0.mk (below_step HK5.out hb); have HW6 := Aside0.mk (below_step HW5.out hb); clear hb)
       | (go_at_call 42; (with_reducible refine (AT3.out _ HW6.out).mono ?_); rintro e w7 ⟨rfl, hb⟩; have HK7 := Aside0.mk (below_step HK6.out hb); have HW7 := Aside0.mk (below_step HW6.out hb); clear hb)
       | (go_at_call 43; (with_reducible refine (image_like.calls (some f) oi _ _ _ (PtrAt.below P2.out HW7.out) (PtrAt.below P3.out HW7.out)).mono ?_); rintro e w8 ⟨rfl, hb⟩; have HK8 := Aside0.mk (below_step HK7.out hb); have HW8 := Aside0.mk (below_step HW7.out hb); clear hb; skip)
       | (go_at_call 43; (with_reducible refine (image_like.calls ow oi _ _ _ (PtrAt.below P1.out HW8.out) (PtrAt.below P3.out HW8.out)).mono ?_); rintro e w9 ⟨rfl, hb⟩; have HK9 := Aside0.mk (below_step HK8.out hb); have HW9 := Aside0.mk (below_step HW8.out hb); clear hb; have f0 := (HW9.out.cell (World.block_lt_of_cell? w4 _ D.out.1)).trans D.out.1; have f1 := (HW9.out.cell (World.block_lt_of_cell? w4 _ D.out.2.1)).trans D.out.2.1; have f2 := (HW9.out.cell (World.block_lt_of_cell? w4 _ D.out.2.2)).trans D.out.2.2; skip)
       | ((with_reducible refine gate_builtin (b := .append) (xs := #[.tmp 83, .tmp 87]) rfl ?_); at_builtin; refine Kd.R_append k33 (w0 := w4) w4.heap.size rfl (.tmp 83) (.tmp 87) 22 33 (.agg #[.string ⟨#[]⟩, .int .i64 0, .string ⟨#[]⟩]) 40 rfl Tryd.underlying22 info33 rfl (by decide) (by omega) u13 os f [.string f.f0, .int .i64 f.f1, .string f.f2] (fun _ => True) (fun _ => False) rfl (by first | (go_simp; done) | (go_simp; rfl)) ?aP (fun _ hk => hk.elim) ?aF ?aO ?aB ?aS ?aL ?_; (case aP => exact k33_mkM _ _ _ f); (case aB => exact HW9.out); (case aF => exact (fun _ _ => trivial)); (case aO => exact Kd.R_below HO.out HK9.out); (case aS => exact (below_size HW9.out)); (case aL => have := QO.out; omega); intro vo w21 ho hb hg hat; have HO21 := Aside0.mk ho; have HS21 := Aside0.mk (Kd.R_over' (Kd.R_below HS.out HK9.out) (Kd.R_typed (Kd.R_below HO.out HK9.out)) (by decide) hg); have HW21 := Aside0.mk hb; clear ho hb hg hat f0 f1 f2))
      go_roundg (ps.length + 1 - (i + 1))
      case measure => have := HI.out.2; omega
      case rel => exact ⟨i + 1, os ++ [f], bs, by rw [wrap_succ_ i ps.length hi (Kd.C_len_ RP.out)], ⟨⟨hi4.out, rfl⟩⟩, HN, ⟨HO21.out⟩, ⟨HS21.out⟩, HW21⟩
    ·rw [if_neg q2] at S1; (have q2 : likeP ow oi = false := by simpa using q2); by_cases q3 : likeP ow om = true
     ·rw [if_pos q3] at S1; obtain ⟨rfl, rfl⟩ := Prod.mk.inj (Option.some.inj S1); clear S1
      cases oi with
      | none =>
       obtain rfl : v3 = .pointer none := P3.out; have HN := Aside0.mk (show mrgGo k x y z (ps.drop (i + 1)) os bs = some (out, both) from HC.out); clear HC
       go_wp2_with (first
        | (go_at_call 42; (with_reducible refine (AT1.out _ HW.out).mono ?_); rintro e w5 ⟨rfl, hb⟩; have HK5 := Aside0.mk (hb); have HW5 := Aside0.mk (below_step HW.out hb); clear hb hx)
        | (go_at_call 42; (with_reducible refine (AT2.out _ HW5.out).mono ?_); rintro e w6 ⟨rfl, hb⟩; have HK6 := Aside0.mk (below_step HK5.out hb); have HW6 := Aside0.mk (below_step HW5.out hb); clear hb)
        | (go_at_call 42; (with_reducible refine (AT3.out _ HW6.out).mono ?_); rintro e w7 ⟨rfl, hb⟩; have HK7 := Aside0.mk (below_step HK6.out hb); have HW7 := Aside0.mk (below_step HW6.out hb); clear hb)
        | (go_at_call 43; (with_reducible refine (image_like.calls om none _ _ _ (PtrAt.below P2.out HW7.out) (PtrAt.below P3.out HW7.out)).mono ?_); rintro e w8 ⟨rfl, hb⟩; have HK8 := Aside0.mk (below_step HK7.out hb); have HW8 := Aside0.mk (below_step HW7.out hb); clear hb; skip)
        | (go_at_call 43; (with_reducible refine (image_like.calls ow none _ _ _ (PtrAt.below P1.out HW8.out) (PtrAt.below P3.out HW8.out)).mono ?_); rintro e w9 ⟨rfl, hb⟩; have HK9 := Aside0.mk (below_step HK8.out hb); have HW9 := Aside0.mk (below_step HW8.out hb); clear hb; skip)
        | (go_at_call 43; (with_reducible refine (image_like.calls ow om _ _ _ (PtrAt.below P1.out HW9.out) (PtrAt.below P2.out HW9.out)).mono ?_); rintro e w10 ⟨rfl, hb⟩; have HK10 := Aside0.mk (below_step HK9.out hb); have HW10 := Aside0.mk (below_step HW9.out hb); clear hb; skip))
       go_roundg (ps.length + 1 - (i + 1))
       case measure => have := HI.out.2; omega
       case rel => exact ⟨i + 1, os, bs, by rw [wrap_succ_ i ps.length hi (Kd.C_len_ RP.out)], ⟨⟨hi4.out, rfl⟩⟩, HN, ⟨Kd.R_below HO.out HK10.out⟩, ⟨Kd.R_below HS.out HK10.out⟩, HW10⟩
      | some f =>
       obtain ⟨ad2, e2, d0, d1, d2⟩ := P3.out; subst e2; have D := Aside0.mk (show w4.cell? ad2 = some (.string f.f0) ∧ w4.cell? ⟨ad2.block, ad2.off + 1, none⟩ = some (.int .i64 f.f1) ∧ w4.cell? ⟨ad2.block, ad2.off + 2, none⟩ = some (.string f.f2) from ⟨d0, d1, d2⟩); clear d0 d1 d2; have H := HC.out; replace H : (if os.length < 3518437208883 then mrgGo k x y z (ps.drop (i + 1)) (os ++ [f]) bs else none) = some (out, both) := H; by_cases qo : os.length < 3518437208883
       case neg => rw [if_neg qo] at H; cases H
       rw [if_pos qo] at H; have HN := Aside0.mk H; have QO := Aside0.mk qo; clear H HC qo
       go_wp2_with (first
        | (go_at_call 42; (with_reducible refine (AT1.out _ HW.out).mono ?_); rintro e w5 ⟨rfl, hb⟩; have HK5 := Aside0.mk (hb); have HW5 := Aside0.mk (below_step HW.out hb); clear hb hx)
        | (go_at_call 42; (with_reducible refine (AT2.out _ HW5.out).mono ?_); rintro e w6 ⟨rfl, hb⟩; have HK6 := Aside0.mk (below_step HK5.out hb); have HW6 := Aside0.mk (below_step HW5.out hb); clear hb)
        | (go_at_call 42; (with_reducible refine (AT3.out _ HW6.out).mono ?_); rintro e w7 ⟨rfl, hb⟩; have HK7 := Aside0.mk (below_step HK6.out hb); have HW7 := Aside0.mk (below_step HW6.out hb); clear hb)
        | (go_at_call 43; (with_reducible refine (image_like.calls om (some f) _ _ _ (PtrAt.below P2.out HW7.out) (PtrAt.below P3.out HW7.out)).mono ?_); rintro e w8 ⟨rfl, hb⟩; have HK8 := Aside0.mk (below_step HK7.out hb); have HW8 := Aside0.mk (below_step HW7.out hb); clear hb; skip)
        | (go_at_call 43; (with_reducible refine (image_like.calls ow (some f) _ _ _ (PtrAt.below P1.out HW8.out) (PtrAt.below P3.out HW8.out)).mono ?_); rintro e w9 ⟨rfl, hb⟩; have HK9 := Aside0.mk (below_step HK8.out hb); have HW9 := Aside0.mk (below_step HW8.out hb); clear hb; skip)
        | (go_at_call 43; (with_reducible refine (image_like.calls ow om _ _ _ (PtrAt.below P1.out HW9.out) (PtrAt.below P2.out HW9.out)).mono ?_); rintro e w10 ⟨rfl, hb⟩; have HK10 := Aside0.mk (below_step HK9.out hb); have HW10 := Aside0.mk (below_step HW9.out hb); clear hb; have f0 := (HW10.out.cell (World.block_lt_of_cell? w4 _ D.out.1)).trans D.out.1; have f1 := (HW10.out.cell (World.block_lt_of_cell? w4 _ D.out.2.1)).trans D.out.2.1; have f2 := (HW10.out.cell (World.block_lt_of_cell? w4 _ D.out.2.2)).trans D.out.2.2; skip)
        | ((with_reducible refine gate_builtin (b := .append) (xs := #[.tmp 83, .tmp 87]) rfl ?_); at_builtin; refine Kd.R_append k33 (w0 := w4) w4.heap.size rfl (.tmp 83) (.tmp 87) 22 33 (.agg #[.string ⟨#[]⟩, .int .i64 0, .string ⟨#[]⟩]) 40 rfl Tryd.underlying22 info33 rfl (by decide) (by omega) u13 os f [.string f.f0, .int .i64 f.f1, .string f.f2] (fun _ => True) (fun _ => False) rfl (by first | (go_simp; done) | (go_simp; rfl)) ?aP (fun _ hk => hk.elim) ?aF ?aO ?aB ?aS ?aL ?_; (case aP => exact k33_mkM _ _ _ f); (case aB => exact HW10.out); (case aF => exact (fun _ _ => trivial)); (case aO => exact Kd.R_below HO.out HK10.out); (case aS => exact (below_size HW10.out)); (case aL => have := QO.out; omega); intro vo w21 ho hb hg hat; have HO21 := Aside0.mk ho; have HS21 := Aside0.mk (Kd.R_over' (Kd.R_below HS.out HK10.out) (Kd.R_typed (Kd.R_below HO.out HK10.out)) (by decide) hg); have HW21 := Aside0.mk hb; clear ho hb hg hat f0 f1 f2))
       go_roundg (ps.length + 1 - (i + 1))
       case measure => have := HI.out.2; omega
       case rel => exact ⟨i + 1, os ++ [f], bs, by rw [wrap_succ_ i ps.length hi (Kd.C_len_ RP.out)], ⟨⟨hi4.out, rfl⟩⟩, HN, ⟨HO21.out⟩, ⟨HS21.out⟩, HW21⟩
     ·rw [if_neg q3] at S1; (have q3 : likeP ow om = false := by simpa using q3); by_cases qb : bs.length < 8796093022208
      case neg => rw [if_neg qb] at S1; cases S1
      rw [if_pos qb] at S1; obtain ⟨rfl, rfl⟩ := Prod.mk.inj (Option.some.inj S1); have QB := Aside0.mk qb; clear S1 qb
      cases om with
      | none =>
       obtain rfl : v2 = .pointer none := P2.out; have HN := Aside0.mk (show mrgGo k x y z (ps.drop (i + 1)) os (bs ++ [p]) = some (out, both) from HC.out); clear HC
       go_wp2_with (first
        | (go_at_call 42; (with_reducible refine (AT1.out _ HW.out).mono ?_); rintro e w5 ⟨rfl, hb⟩; have HK5 := Aside0.mk (hb); have HW5 := Aside0.mk (below_step HW.out hb); clear hb hx)
        | (go_at_call 42; (with_reducible refine (AT2.out _ HW5.out).mono ?_); rintro e w6 ⟨rfl, hb⟩; have HK6 := Aside0.mk (below_step HK5.out hb); have HW6 := Aside0.mk (below_step HW5.out hb); clear hb)
        | (go_at_call 42; (with_reducible refine (AT3.out _ HW6.out).mono ?_); rintro e w7 ⟨rfl, hb⟩; have HK7 := Aside0.mk (below_step HK6.out hb); have HW7 := Aside0.mk (below_step HW6.out hb); clear hb)
        | (go_at_call 43; (with_reducible refine (image_like.calls none oi _ _ _ (PtrAt.below P2.out HW7.out) (PtrAt.below P3.out HW7.out)).mono ?_); rintro e w8 ⟨rfl, hb⟩; have HK8 := Aside0.mk (below_step HK7.out hb); have HW8 := Aside0.mk (below_step HW7.out hb); clear hb; skip)
        | (go_at_call 43; (with_reducible refine (image_like.calls ow oi _ _ _ (PtrAt.below P1.out HW8.out) (PtrAt.below P3.out HW8.out)).mono ?_); rintro e w9 ⟨rfl, hb⟩; have HK9 := Aside0.mk (below_step HK8.out hb); have HW9 := Aside0.mk (below_step HW8.out hb); clear hb; skip)
        | (go_at_call 43; (with_reducible refine (image_like.calls ow none _ _ _ (PtrAt.below P1.out HW9.out) (PtrAt.below P2.out HW9.out)).mono ?_); rintro e w10 ⟨rfl, hb⟩; have HK10 := Aside0.mk (below_step HK9.out hb); have HW10 := Aside0.mk (below_step HW9.out hb); clear hb; skip)
        | ((with_reducible refine gate_builtin (b := .append) (xs := #[.tmp 65, .tmp 67]) rfl ?_); at_builtin; refine Kd.R_append Kd.string (w0 := w4) w4.heap.size rfl (.tmp 65) (.tmp 67) 43 9 (.string ⟨#[]⟩) 16 rfl Tryd.underlying43 info9 rfl (by decide) (by omega) u14 bs p [.string p] (fun _ => True) (fun _ => False) rfl rfl ?aP (fun _ hk => hk.elim) ?aF ?aO ?aB ?aS ?aL ?_; (case aP => exact rfl); (case aB => exact HW10.out); (case aF => exact (fun _ _ => trivial)); (case aO => exact Kd.R_below HS.out HK10.out); (case aS => exact (below_size HW10.out)); (case aL => have := QB.out; omega); intro vb w20 ho hb hg hat; have HS20 := Aside0.mk ho; have HO20 := Aside0.mk (Kd.R_over' (Kd.R_below HO.out HK10.out) (Kd.R_typed (Kd.R_below HS.out HK10.out)) (by decide) hg); have HW20 := Aside0.mk hb; clear ho hb hg hat; skip))
       go_roundg (ps.length + 1 - (i + 1))
       case measure => have := HI.out.2; omega
       case rel => exact ⟨i + 1, os, (bs ++ [p]), by rw [wrap_succ_ i ps.length hi (Kd.C_len_ RP.out)], ⟨⟨hi4.out, rfl⟩⟩, HN, ⟨HO20.out⟩, ⟨HS20.out⟩, HW20⟩
      | some f =>
       obtain ⟨ad2, e2, d0, d1, d2⟩ := P2.out; subst e2; have D := Aside0.mk (show w4.cell? ad2 = some (.string f.f0) ∧ w4.cell? ⟨ad2.block, ad2.off + 1, none⟩ = some (.int .i64 f.f1) ∧ w4.cell? ⟨ad2.block, ad2.off + 2, none⟩ = some (.string f.f2) from ⟨d0, d1, d2⟩); clear d0 d1 d2; have H := HC.out; replace H : (if os.length < 3518437208883 then mrgGo k x y z (ps.drop (i + 1)) (os ++ [f]) (bs ++ [p]) else none) = some (out, both) := H; by_cases qo : os.length < 3518437208883
       case neg => rw [if_neg qo] at H; cases H
       rw [if_pos qo] at H; have HN := Aside0.mk H; have QO := Aside0.mk qo; clear H HC qo
       go_wp2_with (first
        | (go_at_call 42; (with_reducible refine (AT1.out _ HW.out).mono ?_); rintro e w5 ⟨rfl, hb⟩; have HK5 := Aside0.mk (hb); have HW5 := Aside0.mk (below_step HW.out hb); clear hb hx)
        | (go_at_call 42; (with_reducible refine (AT2.out _ HW5.out).mono ?_); rintro e w6 ⟨rfl, hb⟩; have HK6 := Aside0.mk (below_step HK5.out hb); have HW6 := Aside0.mk (below_step HW5.out hb); clear hb)
        | (go_at_call 42; (with_reducible refine (AT3.out _ HW6.out).mono ?_); rintro e w7 ⟨rfl, hb⟩; have HK7 := Aside0.mk (below_step HK6.out hb); have HW7 := Aside0.mk (below_step HW6.out hb); clear hb)
        | (go_at_call 43; (with_reducible refine (image_like.calls (some f) oi _ _ _ (PtrAt.below P2.out HW7.out) (PtrAt.below P3.out HW7.out)).mono ?_); rintro e w8 ⟨rfl, hb⟩; have HK8 := Aside0.mk (below_step HK7.out hb); have HW8 := Aside0.mk (below_step HW7.out hb); clear hb; skip)
        | (go_at_call 43; (with_reducible refine (image_like.calls ow oi _ _ _ (PtrAt.below P1.out HW8.out) (PtrAt.below P3.out HW8.out)).mono ?_); rintro e w9 ⟨rfl, hb⟩; have HK9 := Aside0.mk (below_step HK8.out hb); have HW9 := Aside0.mk (below_step HW8.out hb); clear hb; skip)
        | (go_at_call 43; (with_reducible refine (image_like.calls ow (some f) _ _ _ (PtrAt.below P1.out HW9.out) (PtrAt.below P2.out HW9.out)).mono ?_); rintro e w10 ⟨rfl, hb⟩; have HK10 := Aside0.mk (below_step HK9.out hb); have HW10 := Aside0.mk (below_step HW9.out hb); clear hb; skip)
        | ((with_reducible refine gate_builtin (b := .append) (xs := #[.tmp 65, .tmp 67]) rfl ?_); at_builtin; refine Kd.R_append Kd.string (w0 := w4) w4.heap.size rfl (.tmp 65) (.tmp 67) 43 9 (.string ⟨#[]⟩) 16 rfl Tryd.underlying43 info9 rfl (by decide) (by omega) u14 bs p [.string p] (fun _ => True) (fun _ => False) rfl rfl ?aP (fun _ hk => hk.elim) ?aF ?aO ?aB ?aS ?aL ?_; (case aP => exact rfl); (case aB => exact HW10.out); (case aF => exact (fun _ _ => trivial)); (case aO => exact Kd.R_below HS.out HK10.out); (case aS => exact (below_size HW10.out)); (case aL => have := QB.out; omega); intro vb w20 ho hb hg hat; have HS20 := Aside0.mk ho; have HO20 := Aside0.mk (Kd.R_over' (Kd.R_below HO.out HK10.out) (Kd.R_typed (Kd.R_below HS.out HK10.out)) (by decide) hg); have HW20 := Aside0.mk hb; clear ho hb hg hat; have f0 := (HW20.out.cell (World.block_lt_of_cell? w4 _ D.out.1)).trans D.out.1; have f1 := (HW20.out.cell (World.block_lt_of_cell? w4 _ D.out.2.1)).trans D.out.2.1; have f2 := (HW20.out.cell (World.block_lt_of_cell? w4 _ D.out.2.2)).trans D.out.2.2; skip)
        | ((with_reducible refine gate_builtin (b := .append) (xs := #[.tmp 83, .tmp 87]) rfl ?_); at_builtin; refine Kd.R_append k33 (w0 := w4) w4.heap.size rfl (.tmp 83) (.tmp 87) 22 33 (.agg #[.string ⟨#[]⟩, .int .i64 0, .string ⟨#[]⟩]) 40 rfl Tryd.underlying22 info33 rfl (by decide) (by omega) u13 os f [.string f.f0, .int .i64 f.f1, .string f.f2] (fun _ => True) (fun _ => False) rfl (by first | (go_simp; done) | (go_simp; rfl)) ?aP (fun _ hk => hk.elim) ?aF ?aO ?aB ?aS ?aL ?_; (case aP => exact k33_mkM _ _ _ f); (case aB => exact HW20.out); (case aF => exact (fun _ _ => trivial)); (case aO => exact HO20.out); (case aS => exact (below_size HW20.out)); (case aL => have := QO.out; omega); intro vo w21 ho hb hg hat; have HO21 := Aside0.mk ho; have HS21 := Aside0.mk (Kd.R_over' (HS20.out) (Kd.R_typed (HO20.out)) (by decide) hg); have HW21 := Aside0.mk hb; clear ho hb hg hat f0 f1 f2))
       go_roundg (ps.length + 1 - (i + 1))
       case measure => have := HI.out.2; omega
       case rel => exact ⟨i + 1, os ++ [f], (bs ++ [p]), by rw [wrap_succ_ i ps.length hi (Kd.C_len_ RP.out)], ⟨⟨hi4.out, rfl⟩⟩, HN, ⟨HO21.out⟩, ⟨HS21.out⟩, HW21⟩
  ·have hi1 : decide ((i : Int) < (ps.length : Int)) = false := decide_eq_false (by omega); (have e3 : i = ps.length := by have := HI.out.1; omega); subst e3; have H := HG.out; rw [List.drop_length, mrgGo] at H; obtain ⟨rfl, rfl⟩ := Prod.mk.inj (Option.some.inj H); clear H HG hi HI; obtain ⟨Ao, co, rfl⟩ := Kd.R_slice HO.out; have RO := Aside0.mk (show Kd.C k33 wr Ao os.length os ∧ os.length ≤ co from ⟨(Kd.R_reads' HO.out).2.2, (Kd.R_reads' HO.out).2.1⟩); have HL := Aside0.mk (show w.heap.size ≤ w4.heap.size from HB4.out.size); have HBW := Aside0.mk (below_step HB4.out HW.out); have H := HF.out; clear HF HO; by_cases qe : es = 0
   ·rw [if_pos qe] at H; subst qe; simp only [Option.some.injEq, Prod.mk.injEq] at H; obtain ⟨rfl, rfl, rfl⟩ := H; go_wp2_with (go_at_call 12; (with_reducible refine (image_Of.calls k Ao co os s 0 wr RO.out.1 RO.out.2 F1.out).mono ?_); rintro e w5 ⟨rfl, hb⟩; have HS5 := Aside0.mk (Kd.R_below HS.out hb); have HB5 := Aside0.mk (below_step HBW.out hb); clear hb); exact bodyPost_ret (results_tmp3 rfl _ _ _) rfl ⟨_, rfl, Kd.R_lower HS5.out HL.out, HB5.out⟩
   ·rw [if_neg qe] at H; have qe1 : (es != 0) = true := bne_iff_ne.mpr qe; simp only [Option.some.injEq, Prod.mk.injEq] at H; obtain ⟨rfl, rfl, rfl⟩ := H; clear qe; go_wp2_with (go_at_call 12; (with_reducible refine (image_Of.calls k Ao co os s es wr RO.out.1 RO.out.2 F1.out).mono ?_); rintro e w5 ⟨rfl, hb⟩; have HB5 := Aside0.mk (below_step HBW.out hb); clear hb); exact bodyPost_ret (results_tmp3 rfl _ _ _) rfl ⟨_, rfl, Kd.R_nil _ _ _ _ _, HB5.out⟩
end Go.Proofs.YtmeofdpmddjbgaaDoor.G
end
section
namespace Go.Proofs.YtmeofdpmddjbgaaDoor.G
open Go.RowKit Go.Proofs.YtmeofdpmddjbgaaDoorW.PrintWords Go.Proofs.YtmeofdpmddjbgaaDoorW.PrintLast Go.Proofs.YtmeofdpmddjbgaaDoorW.PrintMore
set_option linter.unusedVariables false
set_option linter.unusedSimpArgs false
/-- A tree's files: in order, no more than may be, each path there. -/
structure TreeL (l : List S33) : Prop where
 so : SortedK keyF l
 le : l.length ≤ 256
 sz : ∀ x ∈ l, x.f0.size ≤ 200
 ne : ∀ x ∈ l, x.f0 ≠ ⟨#[]⟩
theorem path_ne (p : ByteArray) (h : pathE p = 0) : p ≠ ⟨#[]⟩ := fun e => by
 subst e
 exact absurd h (by decide +kernel)
theorem check_tree (l : List S33) (h : checkE l = 0) : TreeL l := by
 obtain ⟨h1, h2, h3⟩ := check_sorted l h
 refine ⟨h1, h2, h3, fun x hx => ?_⟩
 obtain ⟨c1, _⟩ := check_ok l h
 unfold pathsE at c1
 by_cases c : 256 < (l.map (·.f0)).length
 ·rw [if_pos c] at c1; exact absurd c1 (by decide)
 ·rw [if_neg c] at c1
  exact path_ne _ ((togE_sorted _ none c1).2.2 x.f0 (List.mem_map_of_mem hx))
theorem TreeL.tail {x : S33} {l : List S33} (h : TreeL (x :: l)) : TreeL l :=
 ⟨(List.pairwise_cons.1 h.so).2, by have := h.le; rw [List.length_cons] at this; omega, fun y hy => h.sz y (List.mem_cons_of_mem _ hy), fun y hy => h.ne y (List.mem_cons_of_mem _ hy)⟩
theorem TreeL.ok {l : List S33} (h : TreeL l) : okS l := fun x hx => Nat.le_trans (h.sz x hx) (by decide)
def leastE (m : ByteArray) : List S33 → ByteArray
 | [] => m
 | x :: _ => if m = ⟨#[]⟩ then x.f0 else if ltP x.f0 m then x.f0 else m
theorem leastS_ev (m : ByteArray) (hm : m.size ≤ 200) (l : List S33) (hl : TreeL l) : Ev (fun k => leastS k m l) (leastE m l) ∧ (leastE m l).size ≤ 200 := by
 cases l with
 | nil => exact ⟨Ev.now _, hm⟩
 | cons x t =>
  have hx := hl.sz x List.mem_cons_self
  unfold leastS leastE
  by_cases q : m = ⟨#[]⟩
  ·have q2 : m.toList = [] := by rw [q, toList_data_]
   simp only [q, q2, ↓reduceIte]
   refine ⟨?_, hx⟩
   have q3 : (⟨#[]⟩ : ByteArray).toList = [] := by rw [toList_data_]
   simp only [q3, ↓reduceIte]
   exact Ev.now _
  ·have q2 : ¬ m.toList = [] := fun e => q (ba_ext (by rw [toList_data_] at e; exact e))
   simp only [q, q2, ↓reduceIte]
   have o := order_evW x.f0 m (by omega) (by omega)
   have o2 := (ordV_cmp x.f0.data.toList m.data.toList).1
   by_cases g : ltP x.f0 m
   ·have g2 : ordV x.f0.data.toList m.data.toList < 0 := o2.2 g
    simp only [g, ↓reduceIte]
    refine ⟨Ev.bind o ?_, hx⟩
    simp only [g2, ↓reduceIte]
    exact Ev.now _
   ·have g2 : ¬ ordV x.f0.data.toList m.data.toList < 0 := fun e => g (o2.1 e)
    simp only [g, ↓reduceIte]
    refine ⟨Ev.bind o ?_, hm⟩
    simp only [g2, ↓reduceIte]
    exact Ev.now _
/-- What is least so far stands at a list's head, or stood there already; no head is ahead of it. -/
theorem leastE_spec (m : ByteArray) (l : List S33) (hl : TreeL l) : (leastE m l = m ∨ ∃ x t, l = x :: t ∧ leastE m l = x.f0) ∧ (∀ x t, l = x :: t → leastE m l ≠ ⟨#[]⟩ ∧ ¬ ltP x.f0 (leastE m l)) ∧ (m ≠ ⟨#[]⟩ → leastE m l ≠ ⟨#[]⟩ ∧ ¬ ltP m (leastE m l)) ∧ (l = [] → leastE m l = m) := by
 cases l with
 | nil => exact ⟨.inl rfl, (fun x t e => by cases e), fun h => ⟨h, ltP_irrefl m⟩, fun _ => rfl⟩
 | cons x t =>
  have hn := hl.ne x List.mem_cons_self
  unfold leastE
  by_cases q : m = ⟨#[]⟩
  ·simp only [q, ↓reduceIte]
   refine ⟨.inr ⟨x, t, rfl, rfl⟩, fun y s e => ?_, fun h => absurd rfl h, fun e => by cases e⟩
   obtain ⟨rfl, rfl⟩ := List.cons.inj e
   exact ⟨hn, ltP_irrefl _⟩
  ·by_cases g : ltP x.f0 m
   ·simp only [q, g, ↓reduceIte]
    refine ⟨.inr ⟨x, t, rfl, rfl⟩, fun y s e => ?_, fun h => ⟨hn, ltP_asymm g⟩, fun e => by cases e⟩
    obtain ⟨rfl, rfl⟩ := List.cons.inj e
    exact ⟨hn, ltP_irrefl _⟩
   ·simp only [q, g, ↓reduceIte]
    refine ⟨.inl (by trivial), fun y s e => ?_, fun h => ⟨h, ltP_irrefl m⟩, fun e => by cases e⟩
    obtain ⟨rfl, rfl⟩ := List.cons.inj e
    exact ⟨q, g⟩
theorem nextL_tree (p : ByteArray) (l : List S33) (h : TreeL l) : TreeL (nextL p l) := by
 cases l with
 | nil => exact h
 | cons x t =>
  rw [nextL]
  split
  ·exact h.tail
  ·exact h
theorem nextL_mem (p : ByteArray) (l : List S33) (h : TreeL l) (hge : ∀ x t, l = x :: t → ¬ ltP x.f0 p) : (∀ z ∈ nextL p l, z ∈ l ∧ ltP p z.f0) ∧ (∀ z ∈ l, z.f0 = p ∨ z ∈ nextL p l) ∧ (nextL p l).length ≤ l.length ∧ (∀ x t, l = x :: t → x.f0 = p → (nextL p l).length + 1 = l.length) := by
 cases l with
 | nil => exact ⟨(fun z hz => by cases hz), (fun z hz => by cases hz), Nat.le_refl _, (fun x t e => by cases e)⟩
 | cons x t =>
  obtain ⟨s1, s2⟩ := List.pairwise_cons.1 h.so
  rw [nextL]
  by_cases q : x.f0.toList = p.toList
  ·have q2 : x.f0 = p := (toListE_ _ _).1 q
   rw [if_pos q]
   refine ⟨fun z hz => ⟨List.mem_cons_of_mem _ hz, by rw [← q2]; exact s1 z hz⟩, fun z hz => ?_, by rw [List.length_cons]; omega, fun y s e _ => by rw [List.length_cons]⟩
   rcases List.mem_cons.1 hz with e | e
   ·exact .inl (by rw [e]; exact q2)
   ·exact .inr e
  ·rw [if_neg q]
   have q2 : x.f0 ≠ p := fun e => q (by rw [e])
   have hlt : ltP p x.f0 := by
    rcases ltP_tri p x.f0 with g | g | g
    ·exact g
    ·exact absurd g.symm q2
    ·exact absurd g (hge x t rfl)
   refine ⟨fun z hz => ⟨hz, ?_⟩, fun z hz => .inr hz, Nat.le_refl _, fun y s e e2 => ?_⟩
   ·rcases List.mem_cons.1 hz with e | e
    ·rw [e]; exact hlt
    ·exact ltP_trans hlt (s1 z e)
   ·obtain ⟨rfl, rfl⟩ := List.cons.inj e
    exact absurd e2 q2
theorem paths3_ev : ∀ (n : Nat) (a b c : List S33) (acc : List ByteArray), a.length + b.length + c.length = n → n ≤ 768 → acc.length + n ≤ 768 → TreeL a → TreeL b → TreeL c → SortedK id acc → (∀ p ∈ acc, ∀ z, z ∈ a ∨ z ∈ b ∨ z ∈ c → ltP p z.f0) →
  ∃ ps : List ByteArray, Ev (fun k => paths_r k a b c acc) ps ∧ SortedK id ps ∧ (∀ p, p ∈ ps ↔ p ∈ acc ∨ ∃ z, (z ∈ a ∨ z ∈ b ∨ z ∈ c) ∧ z.f0 = p) ∧ ps.length ≤ 768 := by
 intro n
 induction n using Nat.strongRecOn with
 | _ n ih =>
  intro a b c acc hn h7 h8 ha hb hc hs hlt
  have hw : wrap64 ((wrap64 ((a.length : Int) + (b.length : Int))) + (c.length : Int)) = (n : Int) := by
   rw [w64_ (i := (a.length : Int) + (b.length : Int)) (by omega) (by omega), w64_ (by omega) (by omega)]
   omega
  by_cases q : n = 0
  ·refine ⟨acc, ?_, hs, fun p => ⟨fun h => .inl h, fun h => ?_⟩, by omega⟩
   ·apply Ev.step
    ·intro k; rw [paths_r]
    have c1 : ¬ ((n : Int) > 0) := by clear hw; omega
    simp only [hw, c1, ↓reduceIte]
    exact Ev.now _
   ·rcases h with h | ⟨z, hz, _⟩
    ·exact h
    ·clear hw
     have ea : a = [] := List.eq_nil_of_length_eq_zero (by omega)
     have eb : b = [] := List.eq_nil_of_length_eq_zero (by omega)
     have ec : c = [] := List.eq_nil_of_length_eq_zero (by omega)
     subst ea eb ec
     rcases hz with h | h | h <;> cases h
  ·obtain ⟨e1, z1⟩ := leastS_ev ⟨#[]⟩ (by decide) a ha
   obtain ⟨e2, z2⟩ := leastS_ev (leastE ⟨#[]⟩ a) z1 b hb
   obtain ⟨e3, z3⟩ := leastS_ev (leastE (leastE ⟨#[]⟩ a) b) z2 c hc
   obtain ⟨m1, hm1⟩ : ∃ m1, leastE ⟨#[]⟩ a = m1 := ⟨_, rfl⟩
   have sp1 := leastE_spec ⟨#[]⟩ a ha
   rw [hm1] at e1 e2 e3 z1 z2 z3 sp1
   obtain ⟨m2, hm2⟩ : ∃ m2, leastE m1 b = m2 := ⟨_, rfl⟩
   have sp2 := leastE_spec m1 b hb
   rw [hm2] at e2 e3 z2 z3 sp2
   obtain ⟨m, hm3⟩ : ∃ m, leastE m2 c = m := ⟨_, rfl⟩
   have sp3 := leastE_spec m2 c hc
   rw [hm3] at e3 z3 sp3
   clear hm1 hm2 hm3
   -- no head is ahead of m; m is a head
   have ga : ∀ x t, a = x :: t → ¬ ltP x.f0 m := fun x t e => by
    obtain ⟨n1, l1⟩ := sp1.2.1 x t e
    obtain ⟨n2, l2⟩ := sp2.2.2.1 n1
    obtain ⟨n3, l3⟩ := sp3.2.2.1 n2
    exact ltP_le_trans (ltP_le_trans l3 l2) l1
   have gb : ∀ x t, b = x :: t → ¬ ltP x.f0 m := fun x t e => by
    obtain ⟨n2, l2⟩ := sp2.2.1 x t e
    obtain ⟨n3, l3⟩ := sp3.2.2.1 n2
    exact ltP_le_trans l3 l2
   have gc : ∀ x t, c = x :: t → ¬ ltP x.f0 m := fun x t e => (sp3.2.1 x t e).2
   have hd : (∃ x t, a = x :: t ∧ x.f0 = m) ∨ (∃ x t, b = x :: t ∧ x.f0 = m) ∨ (∃ x t, c = x :: t ∧ x.f0 = m) := by
    rcases sp3.1 with e | ⟨x, t, e, e'⟩
    ·rcases sp2.1 with f | ⟨x, t, f, f'⟩
     ·rcases sp1.1 with g | ⟨x, t, g, g'⟩
      ·exfalso
       have na : a = [] := by
        cases a with
        | nil => rfl
        | cons x t => exact absurd g (sp1.2.1 x t rfl).1
       have nb : b = [] := by
        cases b with
        | nil => rfl
        | cons x t => exact absurd (f.trans g) (sp2.2.1 x t rfl).1
       have nc : c = [] := by
        cases c with
        | nil => rfl
        | cons x t => exact absurd (e.trans (f.trans g)) (sp3.2.1 x t rfl).1
       subst na nb nc
       exact q (by simpa using hn.symm)
      ·exact .inl ⟨x, t, g, by rw [e, f, g']⟩
     ·exact .inr (.inl ⟨x, t, f, by rw [e, f']⟩)
    ·exact .inr (.inr ⟨x, t, e, e'.symm⟩)
   obtain ⟨a1, a2, a3, a4⟩ := nextL_mem m a ha ga
   obtain ⟨b1, b2, b3, b4⟩ := nextL_mem m b hb gb
   obtain ⟨c1, c2, c3, c4⟩ := nextL_mem m c hc gc
   have hless : (nextL m a).length + (nextL m b).length + (nextL m c).length < n := by
    clear hw
    rcases hd with ⟨x, t, e, e'⟩ | ⟨x, t, e, e'⟩ | ⟨x, t, e, e'⟩
    ·have := a4 x t e e'; omega
    ·have := b4 x t e e'; omega
    ·have := c4 x t e e'; omega
   have hmem : ∃ z, (z ∈ a ∨ z ∈ b ∨ z ∈ c) ∧ z.f0 = m := by
    rcases hd with ⟨x, t, e, e'⟩ | ⟨x, t, e, e'⟩ | ⟨x, t, e, e'⟩
    ·exact ⟨x, .inl (by rw [e]; exact List.mem_cons_self), e'⟩
    ·exact ⟨x, .inr (.inl (by rw [e]; exact List.mem_cons_self)), e'⟩
    ·exact ⟨x, .inr (.inr (by rw [e]; exact List.mem_cons_self)), e'⟩
   have hacc : ∀ p ∈ acc, ltP p m := fun p hp => by
    obtain ⟨z, hz, e⟩ := hmem
    rw [← e]
    exact hlt p hp z hz
   have l8 : (acc ++ [m]).length + ((nextL m a).length + (nextL m b).length + (nextL m c).length) ≤ 768 := by
    clear hw
    rw [List.length_append, List.length_singleton]
    omega
   obtain ⟨ps, p1, p2, p3, p4⟩ := ih _ hless (nextL m a) (nextL m b) (nextL m c) (acc ++ [m]) rfl (by clear hw; omega) l8 (nextL_tree m a ha) (nextL_tree m b hb) (nextL_tree m c hc)
    (List.pairwise_append.2 ⟨hs, by simp, fun p hp y hy => by rw [List.mem_singleton.1 hy]; exact hacc p hp⟩)
    (fun p hp z hz => by
     have hz2 : ltP m z.f0 := by
      rcases hz with h | h | h
      ·exact (a1 z h).2
      ·exact (b1 z h).2
      ·exact (c1 z h).2
     rcases List.mem_append.1 hp with e | e
     ·exact ltP_trans (hacc p e) hz2
     ·rw [List.mem_singleton.1 e]; exact hz2)
   refine ⟨ps, ?_, p2, fun p => ?_, p4⟩
   ·have c9 : acc.length < 8796093022208 := by clear hw; omega
    have c0 : (n : Int) > 0 := by clear hw; omega
    apply Ev.step
    ·intro k; rw [paths_r]
    simp only [hw, c0, c9, ↓reduceIte]
    exact Ev.bind e1 (Ev.bind e2 (Ev.bind e3 p1))
   ·rw [p3]
    constructor
    ·rintro (h | ⟨z, hz, e⟩)
     ·rcases List.mem_append.1 h with e | e
      ·exact .inl e
      ·rw [List.mem_singleton.1 e]
       exact .inr hmem
     ·refine .inr ⟨z, ?_, e⟩
      rcases hz with h | h | h
      ·exact .inl (a1 z h).1
      ·exact .inr (.inl (b1 z h).1)
      ·exact .inr (.inr (c1 z h).1)
    ·rintro (h | ⟨z, hz, e⟩)
     ·exact .inl (List.mem_append_left _ h)
     ·rcases hz with h | h | h
      ·rcases a2 z h with g | g
       ·exact .inl (List.mem_append_right _ (by rw [← e, g]; exact List.mem_cons_self))
       ·exact .inr ⟨z, .inl g, e⟩
      ·rcases b2 z h with g | g
       ·exact .inl (List.mem_append_right _ (by rw [← e, g]; exact List.mem_cons_self))
       ·exact .inr ⟨z, .inr (.inl g), e⟩
      ·rcases c2 z h with g | g
       ·exact .inl (List.mem_append_right _ (by rw [← e, g]; exact List.mem_cons_self))
       ·exact .inr ⟨z, .inr (.inr g), e⟩
end Go.Proofs.YtmeofdpmddjbgaaDoor.G
end
section
namespace Go.Proofs.YtmeofdpmddjbgaaDoor.G
open Go.RowKit Go.Proofs.YtmeofdpmddjbgaaDoorW.PrintWords Go.Proofs.YtmeofdpmddjbgaaDoorW.PrintLast Go.Proofs.YtmeofdpmddjbgaaDoorW.PrintMore
set_option linter.unusedVariables false
set_option linter.unusedSimpArgs false
def fnd (l : List S33) (p : ByteArray) : Option S33 := l.find? (fun x => decide (x.f0 = p))
theorem fnd_at (l : List S33) (h : SortedK keyF l) (i : Nat) (hi : i < l.length) : fnd l (l[i]'hi).f0 = some (l[i]'hi) := by
 unfold fnd
 rw [List.find?_eq_some_iff_getElem]
 refine ⟨by simp, i, hi, rfl, fun j hj => ?_⟩
 simp only [decide_eq_true_eq, Bool.not_eq_true', decide_eq_false_iff_not]
 exact ltP_ne (List.pairwise_iff_getElem.1 h j i (Nat.lt_trans hj hi) hi hj)
theorem fnd_none (l : List S33) (p : ByteArray) (h : ∀ x ∈ l, x.f0 ≠ p) : fnd l p = none := by
 unfold fnd
 rw [List.find?_eq_none]
 intro x hx
 simpa using h x hx
theorem fnd_some (l : List S33) (p : ByteArray) (x : S33) (h : fnd l p = some x) : x ∈ l ∧ x.f0 = p := by
 unfold fnd at h
 exact ⟨List.mem_of_find?_eq_some h, by simpa using List.find?_some h⟩
theorem image_at_ev (l : List S33) (h : TreeL l) (p : ByteArray) (hp : p.size ≤ 200) : ∃ t, Ev (fun k => image_at.f k l p) t ∧ getP l t = fnd l p := by
 have h1 := h.le
 rcases find_ev l (by omega) h.so h.ok p (by omega) with ⟨i, hi, e, f⟩ | ⟨e, f⟩
 ·refine ⟨(i : Int), ?_, ?_⟩
  ·unfold image_at.f
   refine Ev.bind f ?_
   have c1 : ¬ ((i : Int) < 0) := by omega
   have c2 : (i : Int) < (l.length : Int) := by omega
   simp only [c1, c2, ↓reduceIte]
   exact Ev.now _
  ·unfold getP
   rw [if_neg (by omega), rdF_nat l i hi, ← e, fnd_at l h.so i hi]
 ·refine ⟨-1, ?_, ?_⟩
  ·unfold image_at.f
   refine Ev.bind f ?_
   have c1 : ((-1 : Int) < 0) := by decide
   simp only [c1, ↓reduceIte]
   exact Ev.now _
  ·unfold getP
   rw [if_pos (by decide), fnd_none l p e]
theorem likeP_iff (x y : Option S33) : likeP x y = true ↔ x = y := by
 cases x with
 | none =>
  cases y with
  | none => exact ⟨fun _ => rfl, fun _ => rfl⟩
  | some y => exact ⟨(fun h => by cases h), (fun h => by cases h)⟩
 | some x =>
  cases y with
  | none => exact ⟨(fun h => by cases h), (fun h => by cases h)⟩
  | some y =>
   obtain ⟨a, m, d⟩ := x
   obtain ⟨b, n, e⟩ := y
   unfold likeP
   simp only [Bool.and_eq_true, beq_iff_eq, toListE_, Option.some.injEq, S33.mk.injEq]
instance decO : DecidableEq (Option S33) := fun x y => decidable_of_iff _ (likeP_iff x y)
/-- What is taken at a path; is it told? -/
def stepE (x y z : List S33) (p : ByteArray) : Option S33 × Bool :=
 if fnd y p = fnd z p then (fnd y p, false) else if fnd x p = fnd z p then (fnd y p, false) else if fnd x p = fnd y p then (fnd z p, false) else (fnd y p, true)
def goE (x y z : List S33) : List ByteArray → List S33 → List ByteArray → List S33 × List ByteArray
 | [], out, both => (out, both)
 | p :: ps, out, both => goE x y z ps (out ++ (stepE x y z p).1.toList) (if (stepE x y z p).2 = true then both ++ [p] else both)
theorem mrgStep_ev (x y z : List S33) (hx : TreeL x) (hy : TreeL y) (hz : TreeL z) (p : ByteArray) (hp : p.size ≤ 200) (both : List ByteArray) (hb : both.length < 8796093022208) :
  Ev (fun k => mrgStep k x y z p both) ((stepE x y z p).1, if (stepE x y z p).2 = true then both ++ [p] else both) := by
 obtain ⟨t1, a1, b1⟩ := image_at_ev x hx p hp
 obtain ⟨t2, a2, b2⟩ := image_at_ev y hy p hp
 obtain ⟨t3, a3, b3⟩ := image_at_ev z hz p hp
 unfold mrgStep
 refine Ev.bind a1 (Ev.bind a2 (Ev.bind a3 ?_))
 unfold stepE
 simp only [b1, b2, b3, likeP_iff]
 by_cases q1 : fnd y p = fnd z p
 ·simp only [q1, ↓reduceIte, Bool.false_eq_true]
  exact Ev.now _
 ·by_cases q2 : fnd x p = fnd z p
  ·simp only [q1, q2, ↓reduceIte, Bool.false_eq_true]
   exact Ev.now _
  ·by_cases q3 : fnd x p = fnd y p
   ·simp only [q1, q2, q3, ↓reduceIte, Bool.false_eq_true]
    exact Ev.now _
   ·simp only [q1, q2, q3, hb, ↓reduceIte]
    exact Ev.now _
theorem mrgGo_ev (x y z : List S33) (hx : TreeL x) (hy : TreeL y) (hz : TreeL z) : ∀ (ps : List ByteArray) (out : List S33) (both : List ByteArray), (∀ p ∈ ps, p.size ≤ 200) → out.length + ps.length ≤ 768 → both.length + ps.length ≤ 768 →
  Ev (fun k => mrgGo k x y z ps out both) (goE x y z ps out both)
 | [], out, both, _, _, _ => Ev.now _
 | p :: ps, out, both, hp, h1, h2 => by
  rw [List.length_cons] at h1 h2
  have s := mrgStep_ev x y z hx hy hz p (hp p List.mem_cons_self) both (by omega)
  unfold mrgGo goE
  refine Ev.bind s ?_
  obtain ⟨g, hg⟩ : ∃ g, stepE x y z p = g := ⟨_, rfl⟩
  rw [hg]
  have hb : (if g.2 = true then both ++ [p] else both).length + ps.length ≤ 768 := by
   split
   ·rw [List.length_append, List.length_singleton]; omega
   ·omega
  cases hq : g.1 with
  | none =>
   simp only [Option.toList]
   rw [List.append_nil]
   exact mrgGo_ev x y z hx hy hz ps out _ (fun q hq => hp q (List.mem_cons_of_mem _ hq)) (by omega) hb
  | some f =>
   have c1 : out.length < 3518437208883 := by omega
   simp only [Option.toList, c1, ↓reduceIte]
   exact mrgGo_ev x y z hx hy hz ps (out ++ [f]) _ (fun q hq => hp q (List.mem_cons_of_mem _ hq)) (by rw [List.length_append, List.length_singleton]; omega) hb
theorem goE_len (x y z : List S33) : ∀ (ps : List ByteArray) (out : List S33) (both : List ByteArray), (goE x y z ps out both).1.length ≤ out.length + ps.length ∧ (goE x y z ps out both).2.length ≤ both.length + ps.length
 | [], out, both => ⟨Nat.le_refl _, Nat.le_refl _⟩
 | p :: ps, out, both => by
  unfold goE
  obtain ⟨g, hg⟩ : ∃ g, stepE x y z p = g := ⟨_, rfl⟩
  rw [hg]
  have ih := goE_len x y z ps (out ++ g.1.toList) (if g.2 = true then both ++ [p] else both)
  have h1 : (out ++ g.1.toList).length ≤ out.length + 1 := by
   rw [List.length_append]
   cases g.1 <;> simp
  have h2 : (if g.2 = true then both ++ [p] else both).length ≤ both.length + 1 := by
   split
   ·rw [List.length_append, List.length_singleton]; omega
   ·omega
  rw [List.length_cons]
  omega
/-- The paths of three trees, in order. -/
def IsPs (x y z : List S33) (ps : List ByteArray) : Prop := SortedK id ps ∧ ∀ p, p ∈ ps ↔ ∃ f, (f ∈ x ∨ f ∈ y ∨ f ∈ z) ∧ f.f0 = p
def finE (o : List S33 × List ByteArray) : ByteArray × List ByteArray × Int := if (imageE o.1).2 = 0 then ((imageE o.1).1, o.2, 0) else (⟨#[]⟩, [], (imageE o.1).2)
theorem treeE_tree (s : ByteArray) (h : (treeE s).2 = 0) : TreeL (treeE s).1 := check_tree _ (treeE_check s h)
/-- Merge, where all three are images. -/
theorem imagemerge_ok (a b c : ByteArray) (ha : a.size ≤ 140737488351232) (hb : b.size ≤ 140737488351232) (hc : c.size ≤ 140737488351232) (h1 : (treeE a).2 = 0) (h2 : (treeE b).2 = 0) (h3 : (treeE c).2 = 0) :
  ∃ ps, IsPs (treeE a).1 (treeE b).1 (treeE c).1 ps ∧ ps.length ≤ 768 ∧ Ev (fun k => image_Merge.f k a b c) (finE (goE (treeE a).1 (treeE b).1 (treeE c).1 ps [] [])) := by
 have t1 := treeE_tree a h1
 have t2 := treeE_tree b h2
 have t3 := treeE_tree c h3
 have e1 := imagetree_ev a ha
 have e2 := imagetree_ev b hb
 have e3 := imagetree_ev c hc
 obtain ⟨x, hx⟩ : ∃ x, treeE a = x := ⟨_, rfl⟩
 obtain ⟨y, hy⟩ : ∃ y, treeE b = y := ⟨_, rfl⟩
 obtain ⟨z, hz⟩ : ∃ z, treeE c = z := ⟨_, rfl⟩
 rw [hx] at t1 e1 h1 ⊢
 rw [hy] at t2 e2 h2 ⊢
 rw [hz] at t3 e3 h3 ⊢
 have l1 := t1.le
 have l2 := t2.le
 have l3 := t3.le
 obtain ⟨ps, p1, p2, p3, p4⟩ := paths3_ev _ x.1 y.1 z.1 [] rfl (by omega) (by rw [List.length_nil]; omega) t1 t2 t3 List.Pairwise.nil (fun p hp => by cases hp)
 have p5 : IsPs x.1 y.1 z.1 ps := ⟨p2, fun p => by rw [p3]; simp⟩
 refine ⟨ps, p5, p4, ?_⟩
 have hsz : ∀ p ∈ ps, p.size ≤ 200 := fun p hp => by
  obtain ⟨f, hf, e⟩ := (p5.2 p).1 hp
  rw [← e]
  rcases hf with h | h | h
  ·exact t1.sz f h
  ·exact t2.sz f h
  ·exact t3.sz f h
 have g := mrgGo_ev x.1 y.1 z.1 t1 t2 t3 ps [] [] hsz (by rw [List.length_nil]; omega) (by rw [List.length_nil]; omega)
 have gl := goE_len x.1 y.1 z.1 ps [] []
 unfold image_Merge.f image_paths.f
 refine Ev.bind e1 ?_
 simp only [h1, ↓reduceIte]
 refine Ev.bind e2 ?_
 simp only [h2, ↓reduceIte]
 refine Ev.bind e3 ?_
 simp only [h3, ↓reduceIte]
 refine Ev.bind p1 (Ev.bind g ?_)
 obtain ⟨o, ho⟩ : ∃ o, goE x.1 y.1 z.1 ps [] [] = o := ⟨_, rfl⟩
 rw [ho] at gl ⊢
 rw [List.length_nil] at gl
 refine Ev.bind (imageOf_ev o.1 (by omega)) ?_
 unfold finE
 by_cases q : (imageE o.1).2 = 0
 ·simp only [q, ↓reduceIte]
  exact Ev.now _
 ·simp only [q, ↓reduceIte]
  exact Ev.now _
/-- .. and where one is none. -/
theorem imagemerge_bad (a b c : ByteArray) (ha : a.size ≤ 140737488351232) (hb : b.size ≤ 140737488351232) (hc : c.size ≤ 140737488351232) (h : ¬ ((treeE a).2 = 0 ∧ (treeE b).2 = 0 ∧ (treeE c).2 = 0)) :
  Ev (fun k => image_Merge.f k a b c) (⟨#[]⟩, [], if (treeE a).2 = 0 then (if (treeE b).2 = 0 then (treeE c).2 else (treeE b).2) else (treeE a).2) := by
 have e1 := imagetree_ev a ha
 have e2 := imagetree_ev b hb
 have e3 := imagetree_ev c hc
 unfold image_Merge.f
 refine Ev.bind e1 ?_
 by_cases h1 : (treeE a).2 = 0
 ·simp only [h1, ↓reduceIte]
  refine Ev.bind e2 ?_
  by_cases h2 : (treeE b).2 = 0
  ·simp only [h2, ↓reduceIte]
   refine Ev.bind e3 ?_
   have h3 : ¬ (treeE c).2 = 0 := fun e => h ⟨h1, h2, e⟩
   simp only [h3, ↓reduceIte]
   exact Ev.now _
  ·simp only [h2, ↓reduceIte]
   exact Ev.now _
 ·simp only [h1, ↓reduceIte]
  exact Ev.now _
end Go.Proofs.YtmeofdpmddjbgaaDoor.G
end
section
namespace Go.Proofs.YtmeofdpmddjbgaaDoor.G
open Go.RowKit Go.Proofs.YtmeofdpmddjbgaaDoorW.PrintWords Go.Proofs.YtmeofdpmddjbgaaDoorW.PrintLast Go.Proofs.YtmeofdpmddjbgaaDoorW.PrintMore
attribute [local go_sem] max2_int min2_int max_two min_two max_three min_three max_four min_four   -- for this text's walks alone
set_option linter.unusedVariables false
set_option linter.unusedSimpArgs false
def barqueref09_Find.l0 : Nat → List (S33) → ByteArray → Int → Option (Int)
 | 0, _, _, _ => none
 | k + 1, x0, x1, x5 => if x5 < (x0.length : Int) then (if 0 ≤ x5 then (if ((rd_T33 x0 x5).f0).toList = x1.toList then (some x5) else (barqueref09_Find.l0 k x0 x1 (wrap64 (x5 + 1)))) else (none)) else (some (-1))
def barqueref09_Find.f (k : Nat) (l0 : List (S33)) (a1 : ByteArray) : Option (Int) := barqueref09_Find.l0 k l0 a1 0
set_option maxHeartbeats 8000000 in
set_option maxRecDepth 100000 in
theorem barqueref09_Find.calls (k : Nat) (A0 : Option Addr) (c0 : Nat) (l0 : List (S33)) (a1 : ByteArray) (r : Int) (w : World) (hr0 : Kd.C k33 w A0 l0.length l0) (hc0 : l0.length ≤ c0) (h : barqueref09_Find.f k l0 a1 = some r) :
  Calls Tryd.prog 44 #[.slice A0 l0.length c0, .string a1] w fun e w' => e = .returned (.int .i64 r) ∧ Drawn0 w w' := by
 have HR0 := Aside0.mk hr0; have HC0 := Aside0.mk hc0; clear hr0 hc0; have H : (barqueref09_Find.l0 k l0 a1 0) = some r := h; clear h; have H' := Aside0.mk H; clear H; go_enter Tryd.func44, Tryd.ntmps44; go_wp2; go_loopg [5] k (fun kq v5 w' => ∃ (x5_1 : Int), v5 = .int .i64 x5_1 ∧ Aside0 (barqueref09_Find.l0 kq l0 a1 x5_1 = some r) ∧ Aside0 (kq ≤ k) ∧ Drawn0 w w')
 case atStart => exact ⟨(0), (by first | rfl | (simp; done) | (simp [*]; done)), H', ⟨Nat.le_refl _⟩, by repeat (first | exact Drawn0.refl _ | apply Drawn0.step)⟩
 case round =>
  clear H'; (try clear p2); obtain ⟨x5_1, rfl, HA, HK1, ⟨m1, rfl⟩⟩ := hrel
  cases gk with
  | zero => exact absurd HA.out (by simp [barqueref09_Find.l0])
  | succ k1 =>
   have H := HA.out; clear HA; simp only [barqueref09_Find.l0] at H; by_cases c3 : x5_1 < (l0.length : Int)
   ·rw [if_pos c3] at H; have c3b0 : decide (x5_1 < (l0.length : Int)) = true := decide_eq_true c3; clear c3; by_cases c4 : 0 ≤ x5_1
    ·rw [if_pos c4] at H; have c4b0 : decide (0 ≤ x5_1) = true := decide_eq_true c4; clear c4; by_cases c5 : ((rd_T33 l0 x5_1).f0).toList = a1.toList
     ·rw [if_pos c5] at H; have c5b0 : (((rd_T33 l0 x5_1).f0).toList == a1.toList) = true := beq_iff_eq.mpr c5; have c5b1 : (((rd_T33 l0 x5_1).f0).toList != a1.toList) = false := bne_eq_false_iff_eq.mpr c5; clear c5; obtain rfl := Option.some.inj H; have p435 : 0 ≤ (x5_1 : Int) := of_decide_eq_true (by first | (with_reducible assumption) | assumption); have q435 : x5_1 < (l0.length : Int) := of_decide_eq_true (by first | (with_reducible assumption) | assumption); obtain ⟨ad435, e435, hx435_0, hx435_1, hx435_2⟩ := at_T33 HR0.out x5_1 p435 q435; cases e435; replace p435 := eq_true p435; replace q435 := eq_true q435; go_wp2; go_ret; exact ⟨by first | rfl | (simp; done) | (simp [*]; done), by repeat (first | exact Drawn0.refl _ | apply Drawn0.step)⟩
     ·rw [if_neg c5] at H; have c5b0 : (((rd_T33 l0 x5_1).f0).toList == a1.toList) = false := beq_eq_false_iff_ne.mpr c5; have c5b1 : (((rd_T33 l0 x5_1).f0).toList != a1.toList) = true := bne_iff_ne.mpr c5; have H' := Aside0.mk H; clear H; have p435 : 0 ≤ (x5_1 : Int) := of_decide_eq_true (by first | (with_reducible assumption) | assumption); have q435 : x5_1 < (l0.length : Int) := of_decide_eq_true (by first | (with_reducible assumption) | assumption); obtain ⟨ad435, e435, hx435_0, hx435_1, hx435_2⟩ := at_T33 HR0.out x5_1 p435 q435; cases e435; replace p435 := eq_true p435; replace q435 := eq_true q435; go_wp2; go_roundg k1
      case measure => have := HK1.out; omega
      case rel => exact ⟨(wrap64 (x5_1 + 1)), (by first | rfl | (simp; done) | (simp [*]; done)), H', ⟨by have := HK1.out; omega⟩, by repeat (first | exact Drawn0.refl _ | apply Drawn0.step)⟩
    ·rw [if_neg c4] at H; exact absurd H (by simp)
   ·rw [if_neg c3] at H; have c3b0 : decide (x5_1 < (l0.length : Int)) = false := decide_eq_false c3; clear c3; obtain rfl := Option.some.inj H; go_wp2; go_ret; exact ⟨by first | rfl | (simp; done) | (simp [*]; done), by repeat (first | exact Drawn0.refl _ | apply Drawn0.step)⟩
end Go.Proofs.YtmeofdpmddjbgaaDoor.G
end
section
namespace Go.Proofs.YtmeofdpmddjbgaaDoor.G
open Go.RowKit Go.Proofs.YtmeofdpmddjbgaaDoorW.PrintWords Go.Proofs.YtmeofdpmddjbgaaDoorW.PrintLast Go.Proofs.YtmeofdpmddjbgaaDoorW.PrintMore
attribute [local go_sem] max2_int min2_int max_two min_two max_three min_three max_four min_four   -- for this text's walks alone
set_option linter.unusedVariables false
set_option linter.unusedSimpArgs false
attribute [local go_sem high] eqA33
def barqueref10_like.f (k : Nat) (l0 : List (S33)) (l1 : List (S33)) (a2 : ByteArray) : Option (Bool) := (barqueref09_Find.f k l0 a2).bind fun t459 => ((barqueref09_Find.f k l1 a2).bind fun t460 => (if t459 < 0 then (some (decide (t460 < 0))) else (if t460 < 0 then (some false) else (if 0 ≤ t459 then (if t459 < (l0.length : Int) then (if 0 ≤ t460 then (if t460 < (l1.length : Int) then (some ((((rd_T33 l0 t459).f0).toList) == (((rd_T33 l1 t460).f0).toList) && (((rd_T33 l0 t459).f1) == ((rd_T33 l1 t460).f1) && ((((rd_T33 l0 t459).f2).toList) == (((rd_T33 l1 t460).f2).toList))))) else (none)) else (none)) else (none)) else (none)))))
set_option maxHeartbeats 8000000 in
set_option maxRecDepth 100000 in
theorem barqueref10_like.calls (k : Nat) (A0 : Option Addr) (c0 : Nat) (l0 : List (S33)) (A1 : Option Addr) (c1 : Nat) (l1 : List (S33)) (a2 : ByteArray) (r : Bool) (w : World) (hr0 : Kd.C k33 w A0 l0.length l0) (hc0 : l0.length ≤ c0) (hr1 : Kd.C k33 w A1 l1.length l1) (hc1 : l1.length ≤ c1) (h : barqueref10_like.f k l0 l1 a2 = some r) :
  Calls Tryd.prog 46 #[.slice A0 l0.length c0, .slice A1 l1.length c1, .string a2] w fun e w' => e = .returned (.bool r) ∧ Drawn0 w w' := by
 have hu33 := Tryd.underlying33; have HR0 := Aside0.mk hr0; have HC0 := Aside0.mk hc0; clear hr0 hc0; have HR1 := Aside0.mk hr1; have HC1 := Aside0.mk hc1; clear hr1 hc1; have H : ((barqueref09_Find.f k l0 a2).bind fun t459 => ((barqueref09_Find.f k l1 a2).bind fun t460 => (if t459 < 0 then (some (decide (t460 < 0))) else (if t460 < 0 then (some false) else (if 0 ≤ t459 then (if t459 < (l0.length : Int) then (if 0 ≤ t460 then (if t460 < (l1.length : Int) then (some ((((rd_T33 l0 t459).f0).toList) == (((rd_T33 l1 t460).f0).toList) && (((rd_T33 l0 t459).f1) == ((rd_T33 l1 t460).f1) && ((((rd_T33 l0 t459).f2).toList) == (((rd_T33 l1 t460).f2).toList))))) else (none)) else (none)) else (none)) else (none)))))) = some r := h; clear h; replace H := Option.bind_eq_some_iff.mp H; obtain ⟨t459, A40, H⟩ := H; replace H : ((barqueref09_Find.f k l1 a2).bind fun t460 => (if t459 < 0 then (some (decide (t460 < 0))) else (if t460 < 0 then (some false) else (if 0 ≤ t459 then (if t459 < (l0.length : Int) then (if 0 ≤ t460 then (if t460 < (l1.length : Int) then (some ((((rd_T33 l0 t459).f0).toList) == (((rd_T33 l1 t460).f0).toList) && (((rd_T33 l0 t459).f1) == ((rd_T33 l1 t460).f1) && ((((rd_T33 l0 t459).f2).toList) == (((rd_T33 l1 t460).f2).toList))))) else (none)) else (none)) else (none)) else (none))))) = some r := H; have A4 := Aside0.mk A40; clear A40; replace H := Option.bind_eq_some_iff.mp H; obtain ⟨t460, A50, H⟩ := H; replace H : (if t459 < 0 then (some (decide (t460 < 0))) else (if t460 < 0 then (some false) else (if 0 ≤ t459 then (if t459 < (l0.length : Int) then (if 0 ≤ t460 then (if t460 < (l1.length : Int) then (some ((((rd_T33 l0 t459).f0).toList) == (((rd_T33 l1 t460).f0).toList) && (((rd_T33 l0 t459).f1) == ((rd_T33 l1 t460).f1) && ((((rd_T33 l0 t459).f2).toList) == (((rd_T33 l1 t460).f2).toList))))) else (none)) else (none)) else (none)) else (none)))) = some r := H; have A5 := Aside0.mk A50; clear A50; by_cases c6 : t459 < 0
 ·rw [if_pos c6] at H; have c6b0 : decide (t459 < 0) = true := decide_eq_true c6; clear c6; obtain rfl := Option.some.inj H; go_enter Tryd.func46, Tryd.ntmps46; go_wp2_with (first | (go_at_call 44; (with_reducible refine (barqueref09_Find.calls k _ _ l0 a2 t459 _ ?side1 ?side2 A4.out).mono ?_); (case side1 => repeat (first | exact HR0.out | (with_reducible refine Kd.C_alloc ?_ _) | (with_reducible refine Kd.C_drewN ?_ _) | (with_reducible refine Kd.C_drew ?_))); (case side2 => exact HC0.out); rintro e w' ⟨rfl, ⟨nd, rfl⟩⟩; (try first | exact ⟨rfl, _, World.drewN_drewN _ _ _⟩ | exact ⟨rfl, _, Eq.trans (World.drewN_drewN _ _ _) (congrArg (World.drewN _) (Nat.add_assoc _ _ _))⟩)) | (go_at_call 44; (with_reducible refine (barqueref09_Find.calls k _ _ l1 a2 t460 _ ?side1 ?side2 A5.out).mono ?_); (case side1 => repeat (first | exact HR1.out | (with_reducible refine Kd.C_alloc ?_ _) | (with_reducible refine Kd.C_drewN ?_ _) | (with_reducible refine Kd.C_drew ?_))); (case side2 => exact HC1.out); rintro e w' ⟨rfl, ⟨nd, rfl⟩⟩; (try first | exact ⟨rfl, _, World.drewN_drewN _ _ _⟩ | exact ⟨rfl, _, Eq.trans (World.drewN_drewN _ _ _) (congrArg (World.drewN _) (Nat.add_assoc _ _ _))⟩))); (repeat (go_quiet (first | (go_at_call 44; (with_reducible refine (barqueref09_Find.calls k _ _ l0 a2 t459 _ ?side1 ?side2 A4.out).mono ?_); (case side1 => repeat (first | exact HR0.out | (with_reducible refine Kd.C_alloc ?_ _) | (with_reducible refine Kd.C_drewN ?_ _) | (with_reducible refine Kd.C_drew ?_))); (case side2 => exact HC0.out); rintro e w' ⟨rfl, ⟨nd, rfl⟩⟩; (try first | exact ⟨rfl, _, World.drewN_drewN _ _ _⟩ | exact ⟨rfl, _, Eq.trans (World.drewN_drewN _ _ _) (congrArg (World.drewN _) (Nat.add_assoc _ _ _))⟩)) | (go_at_call 44; (with_reducible refine (barqueref09_Find.calls k _ _ l1 a2 t460 _ ?side1 ?side2 A5.out).mono ?_); (case side1 => repeat (first | exact HR1.out | (with_reducible refine Kd.C_alloc ?_ _) | (with_reducible refine Kd.C_drewN ?_ _) | (with_reducible refine Kd.C_drew ?_))); (case side2 => exact HC1.out); rintro e w' ⟨rfl, ⟨nd, rfl⟩⟩; (try first | exact ⟨rfl, _, World.drewN_drewN _ _ _⟩ | exact ⟨rfl, _, Eq.trans (World.drewN_drewN _ _ _) (congrArg (World.drewN _) (Nat.add_assoc _ _ _))⟩))); try go_wp2_with (first | (go_at_call 44; (with_reducible refine (barqueref09_Find.calls k _ _ l0 a2 t459 _ ?side1 ?side2 A4.out).mono ?_); (case side1 => repeat (first | exact HR0.out | (with_reducible refine Kd.C_alloc ?_ _) | (with_reducible refine Kd.C_drewN ?_ _) | (with_reducible refine Kd.C_drew ?_))); (case side2 => exact HC0.out); rintro e w' ⟨rfl, ⟨nd, rfl⟩⟩; (try first | exact ⟨rfl, _, World.drewN_drewN _ _ _⟩ | exact ⟨rfl, _, Eq.trans (World.drewN_drewN _ _ _) (congrArg (World.drewN _) (Nat.add_assoc _ _ _))⟩)) | (go_at_call 44; (with_reducible refine (barqueref09_Find.calls k _ _ l1 a2 t460 _ ?side1 ?side2 A5.out).mono ?_); (case side1 => repeat (first | exact HR1.out | (with_reducible refine Kd.C_alloc ?_ _) | (with_reducible refine Kd.C_drewN ?_ _) | (with_reducible refine Kd.C_drew ?_))); (case side2 => exact HC1.out); rintro e w' ⟨rfl, ⟨nd, rfl⟩⟩; (try first | exact ⟨rfl, _, World.drewN_drewN _ _ _⟩ | exact ⟨rfl, _, Eq.trans (World.drewN_drewN _ _ _) (congrArg (World.drewN _) (Nat.add_assoc _ _ _))⟩))))); go_ret; exact ⟨by first | rfl | (simp; done) | (simp [*]; done), by repeat (first | exact Drawn0.refl _ | apply Drawn0.step)⟩
 ·rw [if_neg c6] at H; have c6b0 : decide (t459 < 0) = false := decide_eq_false c6; clear c6; by_cases c7 : t460 < 0
  ·rw [if_pos c7] at H; have c7b0 : decide (t460 < 0) = true := decide_eq_true c7; clear c7; obtain rfl := Option.some.inj H; go_enter Tryd.func46, Tryd.ntmps46; go_wp2_with (first | (go_at_call 44; (with_reducible refine (barqueref09_Find.calls k _ _ l0 a2 t459 _ ?side1 ?side2 A4.out).mono ?_); (case side1 => repeat (first | exact HR0.out | (with_reducible refine Kd.C_alloc ?_ _) | (with_reducible refine Kd.C_drewN ?_ _) | (with_reducible refine Kd.C_drew ?_))); (case side2 => exact HC0.out); rintro e w' ⟨rfl, ⟨nd, rfl⟩⟩; (try first | exact ⟨rfl, _, World.drewN_drewN _ _ _⟩ | exact ⟨rfl, _, Eq.trans (World.drewN_drewN _ _ _) (congrArg (World.drewN _) (Nat.add_assoc _ _ _))⟩)) | (go_at_call 44; (with_reducible refine (barqueref09_Find.calls k _ _ l1 a2 t460 _ ?side1 ?side2 A5.out).mono ?_); (case side1 => repeat (first | exact HR1.out | (with_reducible refine Kd.C_alloc ?_ _) | (with_reducible refine Kd.C_drewN ?_ _) | (with_reducible refine Kd.C_drew ?_))); (case side2 => exact HC1.out); rintro e w' ⟨rfl, ⟨nd, rfl⟩⟩; (try first | exact ⟨rfl, _, World.drewN_drewN _ _ _⟩ | exact ⟨rfl, _, Eq.trans (World.drewN_drewN _ _ _) (congrArg (World.drewN _) (Nat.add_assoc _ _ _))⟩))); (repeat (go_quiet (first | (go_at_call 44; (with_reducible refine (barqueref09_Find.calls k _ _ l0 a2 t459 _ ?side1 ?side2 A4.out).mono ?_); (case side1 => repeat (first | exact HR0.out | (with_reducible refine Kd.C_alloc ?_ _) | (with_reducible refine Kd.C_drewN ?_ _) | (with_reducible refine Kd.C_drew ?_))); (case side2 => exact HC0.out); rintro e w' ⟨rfl, ⟨nd, rfl⟩⟩; (try first | exact ⟨rfl, _, World.drewN_drewN _ _ _⟩ | exact ⟨rfl, _, Eq.trans (World.drewN_drewN _ _ _) (congrArg (World.drewN _) (Nat.add_assoc _ _ _))⟩)) | (go_at_call 44; (with_reducible refine (barqueref09_Find.calls k _ _ l1 a2 t460 _ ?side1 ?side2 A5.out).mono ?_); (case side1 => repeat (first | exact HR1.out | (with_reducible refine Kd.C_alloc ?_ _) | (with_reducible refine Kd.C_drewN ?_ _) | (with_reducible refine Kd.C_drew ?_))); (case side2 => exact HC1.out); rintro e w' ⟨rfl, ⟨nd, rfl⟩⟩; (try first | exact ⟨rfl, _, World.drewN_drewN _ _ _⟩ | exact ⟨rfl, _, Eq.trans (World.drewN_drewN _ _ _) (congrArg (World.drewN _) (Nat.add_assoc _ _ _))⟩))); try go_wp2_with (first | (go_at_call 44; (with_reducible refine (barqueref09_Find.calls k _ _ l0 a2 t459 _ ?side1 ?side2 A4.out).mono ?_); (case side1 => repeat (first | exact HR0.out | (with_reducible refine Kd.C_alloc ?_ _) | (with_reducible refine Kd.C_drewN ?_ _) | (with_reducible refine Kd.C_drew ?_))); (case side2 => exact HC0.out); rintro e w' ⟨rfl, ⟨nd, rfl⟩⟩; (try first | exact ⟨rfl, _, World.drewN_drewN _ _ _⟩ | exact ⟨rfl, _, Eq.trans (World.drewN_drewN _ _ _) (congrArg (World.drewN _) (Nat.add_assoc _ _ _))⟩)) | (go_at_call 44; (with_reducible refine (barqueref09_Find.calls k _ _ l1 a2 t460 _ ?side1 ?side2 A5.out).mono ?_); (case side1 => repeat (first | exact HR1.out | (with_reducible refine Kd.C_alloc ?_ _) | (with_reducible refine Kd.C_drewN ?_ _) | (with_reducible refine Kd.C_drew ?_))); (case side2 => exact HC1.out); rintro e w' ⟨rfl, ⟨nd, rfl⟩⟩; (try first | exact ⟨rfl, _, World.drewN_drewN _ _ _⟩ | exact ⟨rfl, _, Eq.trans (World.drewN_drewN _ _ _) (congrArg (World.drewN _) (Nat.add_assoc _ _ _))⟩))))); go_ret; exact ⟨by first | rfl | (simp; done) | (simp [*]; done), by repeat (first | exact Drawn0.refl _ | apply Drawn0.step)⟩
  ·rw [if_neg c7] at H; have c7b0 : decide (t460 < 0) = false := decide_eq_false c7; clear c7; by_cases c8 : 0 ≤ t459
   ·rw [if_pos c8] at H; have c8b0 : decide (0 ≤ t459) = true := decide_eq_true c8; clear c8; by_cases c9 : t459 < (l0.length : Int)
    ·rw [if_pos c9] at H; have c9b0 : decide (t459 < (l0.length : Int)) = true := decide_eq_true c9; clear c9; by_cases c10 : 0 ≤ t460
     ·rw [if_pos c10] at H; have c10b0 : decide (0 ≤ t460) = true := decide_eq_true c10; clear c10; by_cases c11 : t460 < (l1.length : Int)
      ·rw [if_pos c11] at H; have c11b0 : decide (t460 < (l1.length : Int)) = true := decide_eq_true c11; clear c11; obtain rfl := Option.some.inj H; go_enter Tryd.func46, Tryd.ntmps46; go_wp2_with (first | (go_at_call 44; (with_reducible refine (barqueref09_Find.calls k _ _ l0 a2 t459 _ ?side1 ?side2 A4.out).mono ?_); (case side1 => repeat (first | exact HR0.out | (with_reducible refine Kd.C_alloc ?_ _) | (with_reducible refine Kd.C_drewN ?_ _) | (with_reducible refine Kd.C_drew ?_))); (case side2 => exact HC0.out); rintro e w' ⟨rfl, ⟨nd, rfl⟩⟩; (try first | exact ⟨rfl, _, World.drewN_drewN _ _ _⟩ | exact ⟨rfl, _, Eq.trans (World.drewN_drewN _ _ _) (congrArg (World.drewN _) (Nat.add_assoc _ _ _))⟩)) | (go_at_call 44; (with_reducible refine (barqueref09_Find.calls k _ _ l1 a2 t460 _ ?side1 ?side2 A5.out).mono ?_); (case side1 => repeat (first | exact HR1.out | (with_reducible refine Kd.C_alloc ?_ _) | (with_reducible refine Kd.C_drewN ?_ _) | (with_reducible refine Kd.C_drew ?_))); (case side2 => exact HC1.out); rintro e w' ⟨rfl, ⟨nd, rfl⟩⟩; (try first | exact ⟨rfl, _, World.drewN_drewN _ _ _⟩ | exact ⟨rfl, _, Eq.trans (World.drewN_drewN _ _ _) (congrArg (World.drewN _) (Nat.add_assoc _ _ _))⟩); have p461 : 0 ≤ (t459 : Int) := of_decide_eq_true (by first | (with_reducible assumption) | assumption); have q461 : t459 < (l0.length : Int) := of_decide_eq_true (by first | (with_reducible assumption) | assumption); obtain ⟨ad461, e461, hx461_0, hx461_1, hx461_2⟩ := at_T33 HR0.out t459 p461 q461; cases e461; replace p461 := eq_true p461; replace q461 := eq_true q461; have p462 : 0 ≤ (t460 : Int) := of_decide_eq_true (by first | (with_reducible assumption) | assumption); have q462 : t460 < (l1.length : Int) := of_decide_eq_true (by first | (with_reducible assumption) | assumption); obtain ⟨ad462, e462, hx462_0, hx462_1, hx462_2⟩ := at_T33 HR1.out t460 p462 q462; cases e462; replace p462 := eq_true p462; replace q462 := eq_true q462)); (repeat (go_quiet (first | (go_at_call 44; (with_reducible refine (barqueref09_Find.calls k _ _ l0 a2 t459 _ ?side1 ?side2 A4.out).mono ?_); (case side1 => repeat (first | exact HR0.out | (with_reducible refine Kd.C_alloc ?_ _) | (with_reducible refine Kd.C_drewN ?_ _) | (with_reducible refine Kd.C_drew ?_))); (case side2 => exact HC0.out); rintro e w' ⟨rfl, ⟨nd, rfl⟩⟩; (try first | exact ⟨rfl, _, World.drewN_drewN _ _ _⟩ | exact ⟨rfl, _, Eq.trans (World.drewN_drewN _ _ _) (congrArg (World.drewN _) (Nat.add_assoc _ _ _))⟩)) | (go_at_call 44; (with_reducible refine (barqueref09_Find.calls k _ _ l1 a2 t460 _ ?side1 ?side2 A5.out).mono ?_); (case side1 => repeat (first | exact HR1.out | (with_reducible refine Kd.C_alloc ?_ _) | (with_reducible refine Kd.C_drewN ?_ _) | (with_reducible refine Kd.C_drew ?_))); (case side2 => exact HC1.out); rintro e w' ⟨rfl, ⟨nd, rfl⟩⟩; (try first | exact ⟨rfl, _, World.drewN_drewN _ _ _⟩ | exact ⟨rfl, _, Eq.trans (World.drewN_drewN _ _ _) (congrArg (World.drewN _) (Nat.add_assoc _ _ _))⟩); have p461 : 0 ≤ (t459 : Int) := of_decide_eq_true (by first | (with_reducible assumption) | assumption); have q461 : t459 < (l0.length : Int) := of_decide_eq_true (by first | (with_reducible assumption) | assumption); obtain ⟨ad461, e461, hx461_0, hx461_1, hx461_2⟩ := at_T33 HR0.out t459 p461 q461; cases e461; replace p461 := eq_true p461; replace q461 := eq_true q461; have p462 : 0 ≤ (t460 : Int) := of_decide_eq_true (by first | (with_reducible assumption) | assumption); have q462 : t460 < (l1.length : Int) := of_decide_eq_true (by first | (with_reducible assumption) | assumption); obtain ⟨ad462, e462, hx462_0, hx462_1, hx462_2⟩ := at_T33 HR1.out t460 p462 q462; cases e462; replace p462 := eq_true p462; replace q462 := eq_true q462)); try go_wp2_with (first | (go_at_call 44; (with_reducible refine (barqueref09_Find.calls k _ _ l0 a2 t459 _ ?side1 ?side2 A4.out).mono ?_); (case side1 => repeat (first | exact HR0.out | (with_reducible refine Kd.C_alloc ?_ _) | (with_reducible refine Kd.C_drewN ?_ _) | (with_reducible refine Kd.C_drew ?_))); (case side2 => exact HC0.out); rintro e w' ⟨rfl, ⟨nd, rfl⟩⟩; (try first | exact ⟨rfl, _, World.drewN_drewN _ _ _⟩ | exact ⟨rfl, _, Eq.trans (World.drewN_drewN _ _ _) (congrArg (World.drewN _) (Nat.add_assoc _ _ _))⟩)) | (go_at_call 44; (with_reducible refine (barqueref09_Find.calls k _ _ l1 a2 t460 _ ?side1 ?side2 A5.out).mono ?_); (case side1 => repeat (first | exact HR1.out | (with_reducible refine Kd.C_alloc ?_ _) | (with_reducible refine Kd.C_drewN ?_ _) | (with_reducible refine Kd.C_drew ?_))); (case side2 => exact HC1.out); rintro e w' ⟨rfl, ⟨nd, rfl⟩⟩; (try first | exact ⟨rfl, _, World.drewN_drewN _ _ _⟩ | exact ⟨rfl, _, Eq.trans (World.drewN_drewN _ _ _) (congrArg (World.drewN _) (Nat.add_assoc _ _ _))⟩); have p461 : 0 ≤ (t459 : Int) := of_decide_eq_true (by first | (with_reducible assumption) | assumption); have q461 : t459 < (l0.length : Int) := of_decide_eq_true (by first | (with_reducible assumption) | assumption); obtain ⟨ad461, e461, hx461_0, hx461_1, hx461_2⟩ := at_T33 HR0.out t459 p461 q461; cases e461; replace p461 := eq_true p461; replace q461 := eq_true q461; have p462 : 0 ≤ (t460 : Int) := of_decide_eq_true (by first | (with_reducible assumption) | assumption); have q462 : t460 < (l1.length : Int) := of_decide_eq_true (by first | (with_reducible assumption) | assumption); obtain ⟨ad462, e462, hx462_0, hx462_1, hx462_2⟩ := at_T33 HR1.out t460 p462 q462; cases e462; replace p462 := eq_true p462; replace q462 := eq_true q462)))); go_ret; exact ⟨by first | rfl | (simp; done) | (simp [*]; done), by repeat (first | exact Drawn0.refl _ | apply Drawn0.step)⟩
      ·rw [if_neg c11] at H; exact absurd H (by simp)
     ·rw [if_neg c10] at H; exact absurd H (by simp)
    ·rw [if_neg c9] at H; exact absurd H (by simp)
   ·rw [if_neg c8] at H; exact absurd H (by simp)
end Go.Proofs.YtmeofdpmddjbgaaDoor.G
end
