/- Texts of this session's claim of TreeReads, less what its theorem does not reach. No condition. -/
import Derived.Test.YtafjlibcdlihcaaDoorTR12
import Derived.Test.YtafjlibcdlihcaaDoorTR13
import Derived.Test.YtafjlibcdlihcaaDoorTR14
import Derived.Test.YtafjlibcdlihcaaDoorTR15
import Derived.Test.YtafjlibcdlihcaaDoorTR16
import Derived.Test.YtafjlibcdlihcaaDoorTR17
import Derived.Test.YtafjlibcdlihcaaDoorTR18
section
namespace Go.Proofs.YtafjlibcdlihcaaDoor.G
open Go.RowKit Go.Proofs.YtafjlibcdlihcaaDoorW.PrintWords Go.Proofs.YtafjlibcdlihcaaDoorW.PrintLast Go.Proofs.YtafjlibcdlihcaaDoorW.PrintMore
set_option linter.unusedVariables false
set_option linter.unusedSimpArgs false
theorem refof_end (s : ByteArray) (cnt : Int) (out : List S56) (last : ByteArray) (i : Int) (at_ : Nat) (e : Int) (ho : out.length ≤ 256) : Ev (fun k => barqueref09_Of.j1 k cnt out last i false s (at_ : Int) e) (if endS s at_ e = 0 then (if rightE out = 0 then (out, 0) else ([], rightE out)) else ([], endS s at_ e)) := by
 apply Ev.step
 ·intro k; rw [barqueref09_Of.j1]
 simp only [Bool.false_eq_true, ↓reduceIte, refend_f s at_ e, Option.bind_some]
 by_cases q : endS s at_ e = 0
 ·simp only [q, ↓reduceIte]
  refine Ev.bind (refright_ev out (by omega)) ?_
  by_cases q2 : rightE out = 0
  ·simp only [q2, ↓reduceIte]
   exact Ev.now _
  ·simp only [q2, ↓reduceIte]
   exact Ev.now _
 ·simp only [q, ↓reduceIte]
  exact Ev.now _
theorem refof_l0 (s : ByteArray) (hs : s.size ≤ 140737488351232) (cnt : Nat) (hc : cnt ≤ 256) : ∀ (d i : Nat) (out : List S56) (last : ByteArray) (at_ : Nat), cnt - i = d → i ≤ cnt → out.length ≤ 256 → last.size ≤ 400 → out.length = i → at_ ≤ s.size →
  Ev (fun k => barqueref09_Of.l0 k (cnt : Int) out last (i : Int) s (at_ : Int) 0) (ofGo s d out last at_) := by
 intro d
 induction d with
 | zero =>
  intro i out last at_ hd hi ho hl hoi ha
  have e : i = cnt := by omega
  subst e
  apply Ev.step
  ·intro k; rw [barqueref09_Of.l0]
  have c1 : ¬ ((i : Int) < (i : Int)) := by omega
  simp only [c1, ↓reduceIte]
  exact refof_end s i out last i at_ 0 ho
 | succ d ih =>
  intro i out last at_ hd hi ho hl hoi ha
  have hd1 : cnt - (i + 1) = d := by omega
  have hi1 : i + 1 ≤ cnt := by omega
  have c1 : ((i : Int) < (cnt : Int)) := by omega
  have c7 : out.length < 2932031007402 := by omega
  have z : ((0 : Int) == 0) = true := rfl
  have ho1 : ∀ x : S56, (out ++ [x]).length ≤ 256 ∧ (out ++ [x]).length = i + 1 := fun x => by rw [List.length_append, List.length_singleton]; omega
  have hw : wrap64 ((i : Int) + 1) = ((i + 1 : Nat) : Int) := by rw [w64_ (by omega) (by omega)]; omega
  obtain ⟨e1, e2, e3, e4, e5⟩ := itemR_eqs s at_
  obtain ⟨a1, a2, a3, a4, a5⟩ := itemR_at s at_ ha
  have t1 := refcount_ev s hs at_ 0 200 ha
  rw [← e1] at t1
  have t2 := reftextr_ev s hs _ (itemR s at_).c.2.2 200 a1
  rw [← e2] at t2
  have t3 := refnumr_ev s hs _ (itemR s at_).t.2.2 a2
  rw [← e3] at t3
  have t4 := refnumr_ev s hs _ (itemR s at_).m.2.2 a3
  rw [← e4] at t4
  have t5 := refraw_f s hs _ (itemR s at_).z.2.2 32 a4 ⟨by decide, by decide⟩
  rw [← e5] at t5
  have hok := itemR_ok s at_
  unfold ofGo
  obtain ⟨r, hr⟩ : ∃ r, itemR s at_ = r := ⟨_, rfl⟩
  rw [hr] at t1 t2 t3 t4 t5 hok a1 a2 a3 a4 a5 ⊢
  clear e1 e2 e3 e4 e5 hr
  apply Ev.step
  ·intro k; rw [barqueref09_Of.l0]
  simp only [c1, z, ↓reduceIte]
  apply Ev.step
  ·intro k; rw [barqueref09_Of.j1]
  simp only [↓reduceIte]
  refine Ev.bind t1 (Ev.bind t2 (Ev.bind t3 (Ev.bind t4 ?_)))
  simp only [t5, Option.bind_some]
  by_cases q : r.k.2.2 = 0
  ·obtain ⟨o1, o2, o3, o4, o5, o6, o7⟩ := hok q
   simp only [q, ↓reduceIte]
   by_cases q2 : (last.size : Int) < r.c.1
   ·have q3 : r.c.1 > (last.size : Int) := q2
    simp only [q2, q3, ↓reduceIte]
    exact Ev.now _
   ·have q3 : ¬ r.c.1 > (last.size : Int) := q2
    have q4 : r.c.1 ≤ (last.size : Int) := Int.not_lt.1 q2
    have hps := pathR_size last r o5 o6 o7
    have q5 : (last.extract 0 r.c.1.toNat).size + r.t.1.size ≤ 9223372036854775807 := by
     unfold pathR at hps
     rw [ByteArray.size_append] at hps
     clear hw
     omega
    simp only [q2, q3, q4, q5, o5, ↓reduceIte]
    have hsh := refshared_ev last (pathR last r) (by clear hw; omega) (by clear hw; omega)
    refine Ev.bind hsh ?_
    by_cases q6 : ((comL last.data.toList (pathR last r).data.toList : Nat) : Int) = r.c.1
    ·simp only [q6, c7, ↓reduceIte, hw]
     exact ih (i + 1) _ (pathR last r) r.k.2.1 hd1 hi1 (ho1 _).1 hps (ho1 _).2 a5
    ·simp only [q6, ↓reduceIte]
     exact Ev.now _
  ·simp only [q, ↓reduceIte]
   exact Ev.now _
theorem refof_ev (s : ByteArray) (hs : s.size ≤ 140737488351232) : Ev (fun k => barqueref09_Of.f k s) (ofE s) := by
 unfold barqueref09_Of.f new_reader.f ofE
 simp only [Option.bind_some]
 have t1 := refcount_ev s hs 0 0 256 (Nat.zero_le _)
 have a1 := countS_at s 0 0 256 (Nat.zero_le _)
 have r1 := countS_range s 0 0 256
 have h1 := countS_e s 0 0 256
 have h2 := countS_bad s 0 256
 obtain ⟨c, hc⟩ : ∃ c, countS s 0 0 256 = c := ⟨_, rfl⟩
 rw [hc] at t1 a1 r1 h1 h2 ⊢
 refine Ev.bind t1 ?_
 by_cases q : c.2.2 = 0
 ·obtain ⟨_, h3⟩ := h1 q
  have e : c.1 = ((c.1.toNat : Nat) : Int) := by omega
  simp only [q, ↓reduceIte]
  have := refof_l0 s hs c.1.toNat (by omega) c.1.toNat 0 [] ⟨#[]⟩ c.2.1 (by omega) (by omega) (by simp) (by decide) rfl a1.2
  rw [← e] at this
  exact this
 ·simp only [q, ↓reduceIte, h2 q]
  apply Ev.step
  ·intro k; rw [barqueref09_Of.l0]
  have c1 : ¬ ((0 : Int) < 0) := by decide
  simp only [c1, ↓reduceIte]
  have e : endS s c.2.1 c.2.2 = c.2.2 := by unfold endS; rw [if_neg q]
  have := refof_end s 0 [] ⟨#[]⟩ 0 c.2.1 c.2.2 (by simp)
  rw [e, if_neg q] at this
  exact this
end Go.Proofs.YtafjlibcdlihcaaDoor.G
end
section
namespace Go.Proofs.YtafjlibcdlihcaaDoor.G
open Go.RowKit Go.Proofs.YtafjlibcdlihcaaDoorW.PrintWords Go.Proofs.YtafjlibcdlihcaaDoorW.PrintLast Go.Proofs.YtafjlibcdlihcaaDoorW.PrintMore
attribute [local go_sem] max2_int min2_int max_two min_two max_three min_three max_four min_four   -- for this text's walks alone
set_option linter.unusedVariables false
set_option linter.unusedSimpArgs false
mutual
def tree_Check.l0 : Nat → List (S58) → List ByteArray → List (S58) → Int → Int → Option (Int)
 | 0, _, _, _, _, _ => none
 | k + 1, x0, x3, x9, x10, x11 => if x11 < x10 then (if 0 ≤ x11 then (if x11 < (x9.length : Int) then (if x3.length < 8796093022208 then (tree_Check.l0 k x0 (x3 ++ [(rd_T58 x9 x11).f0]) x9 x10 (wrap64 (x11 + 1))) else (none)) else (none)) else (none)) else ((tree_paths.f k x3).bind fun t128 => (if t128 = 0 then (tree_Check.l1 k x0 (x0.length : Int) 0) else (some t128)))
def tree_Check.l1 : Nat → List (S58) → Int → Int → Option (Int)
 | 0, _, _, _ => none
 | k + 1, x26, x27, x28 => if x28 < x27 then (if 0 ≤ x28 then (if x28 < (x26.length : Int) then ((tree_mode.f ((rd_T58 x26 x28).f1)).bind fun t131 => (if t131 = true then (if (((rd_T58 x26 x28).f2).size : Int) > 65536 then (some 4) else (tree_Check.l1 k x26 x27 (wrap64 (x28 + 1)))) else (some 11))) else (none)) else (none)) else (some 0)
end
def tree_Check.f (k : Nat) (l0 : List (S58)) : Option (Int) := tree_Check.l0 k l0 ([] : List ByteArray) l0 (l0.length : Int) 0
theorem tree_Check.mono_l : ∀ k, (∀ y0 y1 y2 y3 y4, LeO (tree_Check.l0 k y0 y1 y2 y3 y4) (tree_Check.l0 (k + 1) y0 y1 y2 y3 y4)) ∧ (∀ y0 y1 y2, LeO (tree_Check.l1 k y0 y1 y2) (tree_Check.l1 (k + 1) y0 y1 y2))
 | 0 => ⟨fun _ _ _ _ _ r h => by simp [tree_Check.l0] at h, fun _ _ _ r h => by simp [tree_Check.l1] at h⟩
 | k + 1 => by
  obtain ⟨ih0, ih1⟩ := tree_Check.mono_l k
  refine ⟨?_, ?_⟩
  ·intro y0 y1 y2 y3 y4
   unfold tree_Check.l0
   repeat' first
   | (with_reducible exact ih0 _ _ _ _ _)
   | (with_reducible exact ih1 _ _ _)
   | (with_reducible exact tree_paths.mono _ _)
   | (with_reducible exact LeO.refl _)
   | (with_reducible exact LeO.none _)
   | (with_reducible refine LeO.ite ?_ ?_)
   | (with_reducible refine LeO.bind ?_ (fun _ => ?_))
   | exact ih0 _ _ _ _ _
   | exact ih1 _ _ _
   | exact tree_paths.mono _ _
   | exact LeO.none _
   | refine LeO.ite ?_ ?_
   | refine LeO.bind ?_ (fun _ => ?_)
  ·intro y0 y1 y2
   unfold tree_Check.l1
   repeat' first
   | (with_reducible exact ih0 _ _ _ _ _)
   | (with_reducible exact ih1 _ _ _)
   | (with_reducible exact tree_paths.mono _ _)
   | (with_reducible exact LeO.refl _)
   | (with_reducible exact LeO.none _)
   | (with_reducible refine LeO.ite ?_ ?_)
   | (with_reducible refine LeO.bind ?_ (fun _ => ?_))
   | exact ih0 _ _ _ _ _
   | exact ih1 _ _ _
   | exact tree_paths.mono _ _
   | exact LeO.none _
   | refine LeO.ite ?_ ?_
   | refine LeO.bind ?_ (fun _ => ?_)
theorem tree_Check.mono : ∀ a0 k, LeO (tree_Check.f k a0) (tree_Check.f (k + 1) a0) := by
 intro a0 k
 obtain ⟨ih0, ih1⟩ := tree_Check.mono_l k
 unfold tree_Check.f
 repeat' first
   | (with_reducible exact ih0 _ _ _ _ _)
   | (with_reducible exact ih1 _ _ _)
   | (with_reducible exact tree_paths.mono _ _)
   | (with_reducible exact LeO.refl _)
   | (with_reducible exact LeO.none _)
   | (with_reducible refine LeO.ite ?_ ?_)
   | (with_reducible refine LeO.bind ?_ (fun _ => ?_))
   | exact ih0 _ _ _ _ _
   | exact ih1 _ _ _
   | exact tree_paths.mono _ _
   | exact LeO.none _
   | refine LeO.ite ?_ ?_
   | refine LeO.bind ?_ (fun _ => ?_)
set_option maxHeartbeats 8000000 in
set_option maxRecDepth 100000 in
theorem tree_Check.calls (k : Nat) (A0 : Option Addr) (c0 : Nat) (l0 : List (S58)) (r : Int) (w : World) (hr0 : Kd.C k58 w A0 l0.length l0) (hc0 : l0.length ≤ c0) (h : tree_Check.f k l0 = some r) :
  Calls Tryd.prog 19 #[.slice A0 l0.length c0] w fun e w' => e = .returned (.int .i64 r) ∧ Below w.heap.size w w' := by
 have hu58 := Tryd.underlying58
 have HR0 := Aside0.mk hr0
 have HC0 := Aside0.mk hc0
 clear hr0 hc0
 have HB := Aside0.mk (Below.refl w.heap.size w)
 have H : (tree_Check.l0 k l0 ([] : List ByteArray) l0 (l0.length : Int) 0) = some r := h
 clear h
 have H' := Aside0.mk H
 clear H
 go_enter Tryd.func19, Tryd.ntmps19
 go_wp2
 go_loopg [3, 11] k (fun kq v3 v11 w' => ∃ (x3_1 : List ByteArray) (x11_1 : Int), v11 = .int .i64 x11_1 ∧ Aside0 (tree_Check.l0 kq l0 x3_1 l0 (l0.length : Int) x11_1 = some r) ∧ Aside0 (kq ≤ k) ∧ Aside0 (Kd.R Kd.string 9 w' w.heap.size (fun _ => True) v3 x3_1) ∧ Aside0 (Below w.heap.size w w'))
 case atStart => exact ⟨(([] : List ByteArray)), (0), (by first | rfl | (simp; done) | (simp [*]; done)), H', ⟨Nat.le_refl _⟩, ⟨by first | exact Kd.R_nil _ _ _ _ _ | exact Kd.N_nil _ _ _ _ _ | exact Kd.V_nil _ _ _ _ _ | exact Kd.Q_nil _ _ _ _ _ | exact Kd.S_nil _ _ _ _ _⟩, ⟨by repeat (first | (with_reducible first | exact HB.out | apply below_alloc | apply pw_below_drewN | apply below_drew1) | exact HB.out)⟩⟩
 case round =>
  clear H'
  try clear c1
  obtain ⟨x3_1, x11_1, rfl, HA, HK1, HO_3, HB⟩ := hrel
  cases gk with
  | zero => exact absurd HA.out (by simp [tree_Check.l0])
  | succ k1 =>
   have H := HA.out
   clear HA
   simp only [tree_Check.l0] at H
   by_cases c2 : x11_1 < (l0.length : Int)
   ·rw [if_pos c2] at H
    have c2b0 : decide (x11_1 < (l0.length : Int)) = true := decide_eq_true c2
    clear c2
    by_cases c3 : 0 ≤ x11_1
    ·rw [if_pos c3] at H
     have c3b0 : decide (0 ≤ x11_1) = true := decide_eq_true c3
     clear c3
     by_cases c4 : x11_1 < (l0.length : Int)
     ·rw [if_pos c4] at H
      have c4b0 : decide (x11_1 < (l0.length : Int)) = true := decide_eq_true c4
      clear c4
      by_cases c5 : x3_1.length < 8796093022208
      ·rw [if_pos c5] at H
       have LMc5 := Aside0.mk c5
       clear c5
       obtain ⟨y125, hy125⟩ : ∃ y_ : List ByteArray, y_ = (x3_1 ++ [(rd_T58 l0 x11_1).f0]) := ⟨_, rfl⟩
       replace H : (tree_Check.l0 k1 l0 y125 l0 (l0.length : Int) (wrap64 (x11_1 + 1))) = some r := by first | (rw [hy125]; with_reducible exact H) | (have H2_ := (Option.bind_some _ _).symm.trans H; rw [hy125]; with_reducible exact H2_) | (have H2_ := (Option.bind_some _ _).symm.trans H; with_reducible exact H2_) | with_reducible exact H | (rw [hy125]; exact H) | exact H
       have Ny125 := Aside0.mk hy125
       clear hy125
       have H' := Aside0.mk H
       clear H
       have p123 : 0 ≤ (x11_1 : Int) := of_decide_eq_true (by first | (with_reducible assumption) | assumption)
       have q123 : x11_1 < (l0.length : Int) := of_decide_eq_true (by first | (with_reducible assumption) | assumption)
       obtain ⟨ad123, e123, hx123_0, hx123_1, hx123_2⟩ := at_T58 HR0.out x11_1 p123 q123
       cases e123
       replace hx123_0 := (HB.out.cell (World.block_lt_of_cell? w _ hx123_0)).trans hx123_0
       replace hx123_1 := (HB.out.cell (World.block_lt_of_cell? w _ hx123_1)).trans hx123_1
       replace hx123_2 := (HB.out.cell (World.block_lt_of_cell? w _ hx123_2)).trans hx123_2
       replace p123 := eq_true p123
       replace q123 := eq_true q123
       go_wp2_with (first | ((with_reducible refine gate_dst (N := 5) rfl ?_); refine box_event ?hg (N := 5) ?hd (cs := #[.string (⟨#[]⟩ : ByteArray), .int .i64 0, .string (⟨#[]⟩ : ByteArray)]) (t := 58) ?hr ?_; (case hd => rfl); (case hg => rfl); (case hr => first | (go_simp; done) | (go_simp; rfl)); intro gb124 hg w6 hbox hb; have n0_ := Aside0.mk (Kd.R_below (by (with_reducible repeat (first | apply Kd.R_alloc | apply Kd.R_drewN | apply Kd.R_drew)); exact HO_3.out) hb); have n1_ := Aside0.mk (below_step (by repeat (first | (with_reducible first | exact HB.out | apply below_alloc | apply pw_below_drewN | apply below_drew1) | exact HB.out)) hb); have n2_ := Aside0.mk (hbox); have n3_ := Aside0.mk ((by rw [hg]; exact (below_size (by repeat (first | (with_reducible first | exact HB.out | apply below_alloc | apply pw_below_drewN | apply below_drew1) | exact HB.out))) : w.heap.size ≤ gb124)); have n4_ := Aside0.mk ((by rw [hg]; exact (below_size (by repeat (first | (with_reducible first | exact HB.out | apply below_alloc | apply pw_below_drewN | apply below_drew1) | exact HB.out))) : w.heap.size ≤ gb124)); clear HO_3; clear HB; have HO_3 := n0_; have HB := n1_; have BK124 := n2_; have GW124 := n3_; have GE124 := n4_; clear n0_ n1_ n2_ n3_ n4_; clear hb hbox hg; have hcz7_0 : w6.cell? ⟨gb124, 0, none⟩ = some (.string (⟨#[]⟩ : ByteArray)) := (blk_cell BK124.out 0).trans rfl; have hcz7_1 : w6.cell? ⟨gb124, 1, none⟩ = some (.int .i64 0) := (blk_cell BK124.out 1).trans rfl; have hcz7_2 : w6.cell? ⟨gb124, 2, none⟩ = some (.string (⟨#[]⟩ : ByteArray)) := (blk_cell BK124.out 2).trans rfl; have hfz7_0 := blk_frozen BK124.out 0; have hfz7_1 := blk_frozen BK124.out 1; have hfz7_2 := blk_frozen BK124.out 2) | ((with_reducible refine gate_builtin (b := .append) (xs := #[.tmp 15, .tmp 18]) rfl ?_); at_builtin; refine Kd.R_append Kd.string (w0 := w) w.heap.size rfl (.tmp 15) (.tmp 18) 33 9 (.string ⟨#[]⟩) 16 rfl Tryd.underlying33 info9 rfl (by decide) (by omega) u3 x3_1 ((rd_T58 l0 x11_1).f0) [.string ((rd_T58 l0 x11_1).f0)] (fun _ => True) (fun _ => False) rfl (by first | (go_simp; done) | (go_simp; rfl)) ?aP (fun _ hk => hk.elim) ?aF ?aO ?aB ?aS ?aL ?_; (case aP => exact rfl); (case aB => exact (by repeat (first | (with_reducible first | exact HB.out | apply below_alloc | apply pw_below_drewN | apply below_drew1 | refine below_set ?_ GE124.out) | exact HB.out))); (case aF => exact (fun _ _ => trivial)); (case aO => exact (by (with_reducible repeat (first | apply Kd.R_alloc | apply Kd.R_drewN | apply Kd.R_drew)); exact Kd.R_mono (Kd.R_far (p := ⟨gb124, 2, none⟩) (Kd.R_far (p := ⟨gb124, 1, none⟩) (Kd.R_far (p := ⟨gb124, 0, none⟩) (Kd.R_types HO_3.out BK124.out (by decide)) (fun _ hk => hk.2) (.string ((rd_T58 l0 x11_1).f0))) (fun _ hk => hk.2) (.int .i64 ((rd_T58 l0 x11_1).f1))) (fun _ hk => hk.2) (.string ((rd_T58 l0 x11_1).f2))) (fun _ hk => trivial))); (case aS => exact (below_size (by repeat (first | (with_reducible first | exact HB.out | apply below_alloc | apply pw_below_drewN | apply below_drew1 | refine below_set ?_ GE124.out) | exact HB.out)))); (case aL => have := LMc5.out; omega); intro v126 w8 ho hb hg hat; rw [← Ny125.out] at ho; have n0_ := Aside0.mk (blk_grown (g := gb124) (o := .cells #[.string ((rd_T58 l0 x11_1).f0), .int .i64 ((rd_T58 l0 x11_1).f1), .string ((rd_T58 l0 x11_1).f2)] 58 (0, 0)) (by (with_reducible repeat (first | refine blk_drewN ?_ _ | refine blk_drew ?_ | refine blk_alloc ?_ _)); refine blk_put (cs := #[.string ((rd_T58 l0 x11_1).f0), .int .i64 ((rd_T58 l0 x11_1).f1), .string (⟨#[]⟩ : ByteArray)]) ?_ 2 _ rfl; (with_reducible repeat (first | refine blk_drewN ?_ _ | refine blk_drew ?_ | refine blk_alloc ?_ _)); refine blk_put (cs := #[.string ((rd_T58 l0 x11_1).f0), .int .i64 0, .string (⟨#[]⟩ : ByteArray)]) ?_ 1 _ rfl; (with_reducible repeat (first | refine blk_drewN ?_ _ | refine blk_drew ?_ | refine blk_alloc ?_ _)); refine blk_put (cs := #[.string (⟨#[]⟩ : ByteArray), .int .i64 0, .string (⟨#[]⟩ : ByteArray)]) ?_ 0 _ rfl; (with_reducible repeat (first | refine blk_drewN ?_ _ | refine blk_drew ?_ | refine blk_alloc ?_ _)); exact BK124.out) hg (Kd.R_ne HO_3.out BK124.out (by decide))); have n1_ := Aside0.mk (hb); have n2_ := Aside0.mk (ho); clear BK124; clear HB; clear HO_3; have BK124 := n0_; have HB := n1_; have HO127 := n2_; clear n0_ n1_ n2_; clear ho hb hg hat))
       go_roundg k1
       case measure => have := HK1.out; omega
       case rel => exact ⟨(y125), (wrap64 (x11_1 + 1)), (by first | rfl | (simp; done) | (simp [*]; done)), H', ⟨by have := HK1.out; omega⟩, ⟨by (with_reducible repeat (first | apply Kd.R_alloc | apply Kd.R_drewN | apply Kd.R_drew)); exact HO127.out⟩, ⟨by repeat (first | (with_reducible first | exact HB.out | apply below_alloc | apply pw_below_drewN | apply below_drew1 | refine below_set ?_ GE124.out) | exact HB.out)⟩⟩
      ·rw [if_neg c5] at H
       exact absurd H (by simp)
     ·rw [if_neg c4] at H
      exact absurd H (by simp)
    ·rw [if_neg c3] at H
     exact absurd H (by simp)
   ·rw [if_neg c2] at H
    have c2b0 : decide (x11_1 < (l0.length : Int)) = false := decide_eq_false c2
    clear c2
    replace H := Option.bind_eq_some_iff.mp H
    obtain ⟨t128, A90, H⟩ := H
    replace H : (if t128 = 0 then (tree_Check.l1 k1 l0 (l0.length : Int) 0) else (some t128)) = some r := H
    have A9 := Aside0.mk A90
    clear A90
    by_cases c10 : t128 = 0
    ·rw [if_pos c10] at H
     have c10b0 : (t128 == 0) = true := beq_iff_eq.mpr c10
     have c10b1 : (t128 != 0) = false := bne_eq_false_iff_eq.mpr c10
     clear c10
     have H' := Aside0.mk H
     clear H
     obtain ⟨Ao11, co11, eo11⟩ := Kd.R_slice HO_3.out
     subst eo11
     go_wp2_with (first | ((with_reducible refine gate_callee (f := 48) rfl ?_); refine goesL_ (some 22) rfl rfl Tryd.func48 (by kernel_rfl) rfl #[.slice Ao11 x3_1.length co11] rfl (by (try simp only [List.map_toArray, List.map_cons, List.map_nil]); first | done | rfl | (simp only [List.length_drop, List.length_take]; rfl)) ?_; (with_reducible refine (tree_paths.calls k1 _ _ x3_1 t128 _ ?side1 ?side2 A9.out).mono ?_); (case side1 => repeat (first | exact (Kd.R_reads' HO_3.out).2.2 | (with_reducible refine Kd.C_alloc ?_ _) | (with_reducible refine Kd.C_drewN ?_ _) | (with_reducible refine Kd.C_drew ?_))); (case side2 => exact (Kd.R_reads' HO_3.out).2.1); rintro e w12 ⟨rfl, hb⟩; refine ⟨_, rfl, ?_⟩; have n0_ := Aside0.mk (Kd.R_below (by (with_reducible repeat (first | apply Kd.R_alloc | apply Kd.R_drewN | apply Kd.R_drew)); exact HO_3.out) hb); have n1_ := Aside0.mk (below_step (by repeat (first | (with_reducible first | exact HB.out | apply below_alloc | apply pw_below_drewN | apply below_drew1) | exact HB.out)) hb); clear HO_3; clear HB; have HO_3 := n0_; have HB := n1_; clear n0_ n1_; (try clear hb); (try clear hb2); (try clear hk); (try clear hi)))
     go_loopg [28] k1 (fun kq v28 w' => ∃ (x28_2 : Int), v28 = .int .i64 x28_2 ∧ Aside0 (tree_Check.l1 kq l0 (l0.length : Int) x28_2 = some r) ∧ Aside0 (kq ≤ k1) ∧ Aside0 (Below w.heap.size w w'))
     case atStart => exact ⟨(0), (by first | rfl | (simp; done) | (simp [*]; done)), H', ⟨Nat.le_refl _⟩, ⟨by repeat (first | (with_reducible first | exact HB.out | apply below_alloc | apply pw_below_drewN | apply below_drew1) | exact HB.out)⟩⟩
     case round =>
      clear H'
      try clear c1
      try clear p1
      try clear q1
      try clear hx1
      try clear c2
      try clear c2b0
      try clear p2
      try clear c3
      try clear c3b0
      try clear c4
      try clear c4b0
      try clear c5
      try clear p6
      try clear c10
      try clear c10b0
      try clear c10b1
      try clear p12
      try clear q12
      try clear hx12
      try clear hcz7_0
      try clear hcz7_1
      try clear hcz7_2
      try clear hfz7_0
      try clear hfz7_1
      try clear hfz7_2
      try clear hx123_0
      try clear hx123_1
      try clear hx123_2
      try clear p123
      try clear q123
      obtain ⟨x28_2, rfl, HA, HK2, HB⟩ := hrel
      cases gk with
      | zero => exact absurd HA.out (by simp [tree_Check.l1])
      | succ k2 =>
       have H := HA.out
       clear HA
       simp only [tree_Check.l1] at H
       by_cases c13 : x28_2 < (l0.length : Int)
       ·rw [if_pos c13] at H
        have c13b0 : decide (x28_2 < (l0.length : Int)) = true := decide_eq_true c13
        clear c13
        by_cases c14 : 0 ≤ x28_2
        ·rw [if_pos c14] at H
         have c14b0 : decide (0 ≤ x28_2) = true := decide_eq_true c14
         clear c14
         by_cases c15 : x28_2 < (l0.length : Int)
         ·rw [if_pos c15] at H
          have c15b0 : decide (x28_2 < (l0.length : Int)) = true := decide_eq_true c15
          clear c15
          replace H := Option.bind_eq_some_iff.mp H
          obtain ⟨t131, A160, H⟩ := H
          replace H : (if t131 = true then (if (((rd_T58 l0 x28_2).f2).size : Int) > 65536 then (some 4) else (tree_Check.l1 k2 l0 (l0.length : Int) (wrap64 (x28_2 + 1)))) else (some 11)) = some r := H
          have A16 := Aside0.mk A160
          clear A160
          by_cases c17 : t131 = true
          ·subst c17
           have H1 : (if (((rd_T58 l0 x28_2).f2).size : Int) > 65536 then (some 4) else (tree_Check.l1 k2 l0 (l0.length : Int) (wrap64 (x28_2 + 1)))) = some r := by rw [if_pos rfl] at H; exact H
           clear H
           have H := H1
           clear H1
           by_cases c18 : (((rd_T58 l0 x28_2).f2).size : Int) > 65536
           ·rw [if_pos c18] at H
            have c18b0 : decide (65536 < (((rd_T58 l0 x28_2).f2).size : Int)) = true := decide_eq_true c18
            have c18b1 : decide (65536 < ((rd_T58 l0 x28_2).f2).size) = true := decide_eq_true (by omega)
            clear c18
            obtain rfl := Option.some.inj H
            have p129 : 0 ≤ (x28_2 : Int) := of_decide_eq_true (by first | (with_reducible assumption) | assumption)
            have q129 : x28_2 < (l0.length : Int) := of_decide_eq_true (by first | (with_reducible assumption) | assumption)
            obtain ⟨ad129, e129, hx129_0, hx129_1, hx129_2⟩ := at_T58 HR0.out x28_2 p129 q129
            cases e129
            replace hx129_0 := (HB.out.cell (World.block_lt_of_cell? w _ hx129_0)).trans hx129_0
            replace hx129_1 := (HB.out.cell (World.block_lt_of_cell? w _ hx129_1)).trans hx129_1
            replace hx129_2 := (HB.out.cell (World.block_lt_of_cell? w _ hx129_2)).trans hx129_2
            replace p129 := eq_true p129
            replace q129 := eq_true q129
            go_wp2_with (first | ((with_reducible refine gate_dst (N := 8) rfl ?_); refine box_event ?hg (N := 8) ?hd (cs := #[.string (⟨#[]⟩ : ByteArray), .int .i64 0, .string (⟨#[]⟩ : ByteArray)]) (t := 58) ?hr ?_; (case hd => rfl); (case hg => rfl); (case hr => first | (go_simp; done) | (go_simp; rfl)); intro gb130 hg w19 hbox hb; have n0_ := Aside0.mk (below_step (by repeat (first | (with_reducible first | exact HB.out | apply below_alloc | apply pw_below_drewN | apply below_drew1) | exact HB.out)) hb); have n1_ := Aside0.mk (hbox); have n2_ := Aside0.mk ((by rw [hg]; exact (below_size (by repeat (first | (with_reducible first | exact HB.out | apply below_alloc | apply pw_below_drewN | apply below_drew1) | exact HB.out))) : w.heap.size ≤ gb130)); have n3_ := Aside0.mk ((by rw [hg]; exact (below_size (by repeat (first | (with_reducible first | exact HB.out | apply below_alloc | apply pw_below_drewN | apply below_drew1) | exact HB.out))) : w.heap.size ≤ gb130)); clear HB; have HB := n0_; have BK130 := n1_; have GW130 := n2_; have GE130 := n3_; clear n0_ n1_ n2_ n3_; clear hb hbox hg; have hcz20_0 : w19.cell? ⟨gb130, 0, none⟩ = some (.string (⟨#[]⟩ : ByteArray)) := (blk_cell BK130.out 0).trans rfl; have hcz20_1 : w19.cell? ⟨gb130, 1, none⟩ = some (.int .i64 0) := (blk_cell BK130.out 1).trans rfl; have hcz20_2 : w19.cell? ⟨gb130, 2, none⟩ = some (.string (⟨#[]⟩ : ByteArray)) := (blk_cell BK130.out 2).trans rfl; have hfz20_0 := blk_frozen BK130.out 0; have hfz20_1 := blk_frozen BK130.out 1; have hfz20_2 := blk_frozen BK130.out 2) | ((with_reducible refine gate_callee (f := 49) rfl ?_); refine goesL_ (some 35) rfl rfl Tryd.func49 (by kernel_rfl) rfl #[.int .i64 ((rd_T58 l0 x28_2).f1)] rfl (by (try simp only [List.map_toArray, List.map_cons, List.map_nil]); first | done | rfl | (simp only [List.length_drop, List.length_take]; rfl)) ?_; (with_reducible refine (tree_mode.calls ((rd_T58 l0 x28_2).f1) true _ A16.out).mono ?_); rintro e w' ⟨rfl, ⟨nd, rfl⟩⟩; refine ⟨_, rfl, ?_⟩))
            go_ret
            exact ⟨by first | rfl | (simp [errW_none, errW_some] <;> rfl) | (simp [*, errW_none, errW_some] <;> rfl), by repeat (first | (with_reducible first | exact HB.out | apply below_alloc | apply pw_below_drewN | apply below_drew1 | refine below_set ?_ GE130.out) | exact HB.out)⟩
           ·rw [if_neg c18] at H
            have c18b0 : decide (65536 < (((rd_T58 l0 x28_2).f2).size : Int)) = false := decide_eq_false c18
            have c18b1 : decide (65536 < ((rd_T58 l0 x28_2).f2).size) = false := decide_eq_false (by omega)
            clear c18
            have H' := Aside0.mk H
            clear H
            have p129 : 0 ≤ (x28_2 : Int) := of_decide_eq_true (by first | (with_reducible assumption) | assumption)
            have q129 : x28_2 < (l0.length : Int) := of_decide_eq_true (by first | (with_reducible assumption) | assumption)
            obtain ⟨ad129, e129, hx129_0, hx129_1, hx129_2⟩ := at_T58 HR0.out x28_2 p129 q129
            cases e129
            replace hx129_0 := (HB.out.cell (World.block_lt_of_cell? w _ hx129_0)).trans hx129_0
            replace hx129_1 := (HB.out.cell (World.block_lt_of_cell? w _ hx129_1)).trans hx129_1
            replace hx129_2 := (HB.out.cell (World.block_lt_of_cell? w _ hx129_2)).trans hx129_2
            replace p129 := eq_true p129
            replace q129 := eq_true q129
            go_wp2_with (first | ((with_reducible refine gate_dst (N := 8) rfl ?_); refine box_event ?hg (N := 8) ?hd (cs := #[.string (⟨#[]⟩ : ByteArray), .int .i64 0, .string (⟨#[]⟩ : ByteArray)]) (t := 58) ?hr ?_; (case hd => rfl); (case hg => rfl); (case hr => first | (go_simp; done) | (go_simp; rfl)); intro gb130 hg w21 hbox hb; have n0_ := Aside0.mk (below_step (by repeat (first | (with_reducible first | exact HB.out | apply below_alloc | apply pw_below_drewN | apply below_drew1) | exact HB.out)) hb); have n1_ := Aside0.mk (hbox); have n2_ := Aside0.mk ((by rw [hg]; exact (below_size (by repeat (first | (with_reducible first | exact HB.out | apply below_alloc | apply pw_below_drewN | apply below_drew1) | exact HB.out))) : w.heap.size ≤ gb130)); have n3_ := Aside0.mk ((by rw [hg]; exact (below_size (by repeat (first | (with_reducible first | exact HB.out | apply below_alloc | apply pw_below_drewN | apply below_drew1) | exact HB.out))) : w.heap.size ≤ gb130)); clear HB; have HB := n0_; have BK130 := n1_; have GW130 := n2_; have GE130 := n3_; clear n0_ n1_ n2_ n3_; clear hb hbox hg; have hcz22_0 : w21.cell? ⟨gb130, 0, none⟩ = some (.string (⟨#[]⟩ : ByteArray)) := (blk_cell BK130.out 0).trans rfl; have hcz22_1 : w21.cell? ⟨gb130, 1, none⟩ = some (.int .i64 0) := (blk_cell BK130.out 1).trans rfl; have hcz22_2 : w21.cell? ⟨gb130, 2, none⟩ = some (.string (⟨#[]⟩ : ByteArray)) := (blk_cell BK130.out 2).trans rfl; have hfz22_0 := blk_frozen BK130.out 0; have hfz22_1 := blk_frozen BK130.out 1; have hfz22_2 := blk_frozen BK130.out 2) | ((with_reducible refine gate_callee (f := 49) rfl ?_); refine goesL_ (some 35) rfl rfl Tryd.func49 (by kernel_rfl) rfl #[.int .i64 ((rd_T58 l0 x28_2).f1)] rfl (by (try simp only [List.map_toArray, List.map_cons, List.map_nil]); first | done | rfl | (simp only [List.length_drop, List.length_take]; rfl)) ?_; (with_reducible refine (tree_mode.calls ((rd_T58 l0 x28_2).f1) true _ A16.out).mono ?_); rintro e w' ⟨rfl, ⟨nd, rfl⟩⟩; refine ⟨_, rfl, ?_⟩))
            go_roundg k2
            case measure => have := HK1.out; have := HK2.out; omega
            case rel => exact ⟨(wrap64 (x28_2 + 1)), (by first | rfl | (simp; done) | (simp [*]; done)), H', ⟨by have := HK1.out; have := HK2.out; omega⟩, ⟨by repeat (first | (with_reducible first | exact HB.out | apply below_alloc | apply pw_below_drewN | apply below_drew1 | refine below_set ?_ GE130.out) | exact HB.out)⟩⟩
          ·replace c17 := Bool.eq_false_iff.mpr c17
           subst c17
           have H1 : (some 11) = some r := by rw [if_neg (show ¬ (false = true) by decide)] at H; exact H
           clear H
           have H := H1
           clear H1
           obtain rfl := Option.some.inj H
           have p129 : 0 ≤ (x28_2 : Int) := of_decide_eq_true (by first | (with_reducible assumption) | assumption)
           have q129 : x28_2 < (l0.length : Int) := of_decide_eq_true (by first | (with_reducible assumption) | assumption)
           obtain ⟨ad129, e129, hx129_0, hx129_1, hx129_2⟩ := at_T58 HR0.out x28_2 p129 q129
           cases e129
           replace hx129_0 := (HB.out.cell (World.block_lt_of_cell? w _ hx129_0)).trans hx129_0
           replace hx129_1 := (HB.out.cell (World.block_lt_of_cell? w _ hx129_1)).trans hx129_1
           replace hx129_2 := (HB.out.cell (World.block_lt_of_cell? w _ hx129_2)).trans hx129_2
           replace p129 := eq_true p129
           replace q129 := eq_true q129
           go_wp2_with (first | ((with_reducible refine gate_dst (N := 8) rfl ?_); refine box_event ?hg (N := 8) ?hd (cs := #[.string (⟨#[]⟩ : ByteArray), .int .i64 0, .string (⟨#[]⟩ : ByteArray)]) (t := 58) ?hr ?_; (case hd => rfl); (case hg => rfl); (case hr => first | (go_simp; done) | (go_simp; rfl)); intro gb130 hg w23 hbox hb; have n0_ := Aside0.mk (below_step (by repeat (first | (with_reducible first | exact HB.out | apply below_alloc | apply pw_below_drewN | apply below_drew1) | exact HB.out)) hb); have n1_ := Aside0.mk (hbox); have n2_ := Aside0.mk ((by rw [hg]; exact (below_size (by repeat (first | (with_reducible first | exact HB.out | apply below_alloc | apply pw_below_drewN | apply below_drew1) | exact HB.out))) : w.heap.size ≤ gb130)); have n3_ := Aside0.mk ((by rw [hg]; exact (below_size (by repeat (first | (with_reducible first | exact HB.out | apply below_alloc | apply pw_below_drewN | apply below_drew1) | exact HB.out))) : w.heap.size ≤ gb130)); clear HB; have HB := n0_; have BK130 := n1_; have GW130 := n2_; have GE130 := n3_; clear n0_ n1_ n2_ n3_; clear hb hbox hg; have hcz24_0 : w23.cell? ⟨gb130, 0, none⟩ = some (.string (⟨#[]⟩ : ByteArray)) := (blk_cell BK130.out 0).trans rfl; have hcz24_1 : w23.cell? ⟨gb130, 1, none⟩ = some (.int .i64 0) := (blk_cell BK130.out 1).trans rfl; have hcz24_2 : w23.cell? ⟨gb130, 2, none⟩ = some (.string (⟨#[]⟩ : ByteArray)) := (blk_cell BK130.out 2).trans rfl; have hfz24_0 := blk_frozen BK130.out 0; have hfz24_1 := blk_frozen BK130.out 1; have hfz24_2 := blk_frozen BK130.out 2) | ((with_reducible refine gate_callee (f := 49) rfl ?_); refine goesL_ (some 35) rfl rfl Tryd.func49 (by kernel_rfl) rfl #[.int .i64 ((rd_T58 l0 x28_2).f1)] rfl (by (try simp only [List.map_toArray, List.map_cons, List.map_nil]); first | done | rfl | (simp only [List.length_drop, List.length_take]; rfl)) ?_; (with_reducible refine (tree_mode.calls ((rd_T58 l0 x28_2).f1) false _ A16.out).mono ?_); rintro e w' ⟨rfl, ⟨nd, rfl⟩⟩; refine ⟨_, rfl, ?_⟩))
           go_ret
           exact ⟨by first | rfl | (simp [errW_none, errW_some] <;> rfl) | (simp [*, errW_none, errW_some] <;> rfl), by repeat (first | (with_reducible first | exact HB.out | apply below_alloc | apply pw_below_drewN | apply below_drew1 | refine below_set ?_ GE130.out) | exact HB.out)⟩
         ·rw [if_neg c15] at H
          exact absurd H (by simp)
        ·rw [if_neg c14] at H
         exact absurd H (by simp)
       ·rw [if_neg c13] at H
        have c13b0 : decide (x28_2 < (l0.length : Int)) = false := decide_eq_false c13
        clear c13
        obtain rfl := Option.some.inj H
        go_wp2
        go_ret
        exact ⟨by first | rfl | (simp [errW_none, errW_some] <;> rfl) | (simp [*, errW_none, errW_some] <;> rfl), by repeat (first | (with_reducible first | exact HB.out | apply below_alloc | apply pw_below_drewN | apply below_drew1) | exact HB.out)⟩
    ·rw [if_neg c10] at H
     have c10b0 : (t128 == 0) = false := beq_eq_false_iff_ne.mpr c10
     have c10b1 : (t128 != 0) = true := bne_iff_ne.mpr c10
     obtain rfl := Option.some.inj H
     obtain ⟨Ao25, co25, eo25⟩ := Kd.R_slice HO_3.out
     subst eo25
     go_wp2_with (first | ((with_reducible refine gate_callee (f := 48) rfl ?_); refine goesL_ (some 22) rfl rfl Tryd.func48 (by kernel_rfl) rfl #[.slice Ao25 x3_1.length co25] rfl (by (try simp only [List.map_toArray, List.map_cons, List.map_nil]); first | done | rfl | (simp only [List.length_drop, List.length_take]; rfl)) ?_; (with_reducible refine (tree_paths.calls k1 _ _ x3_1 t128 _ ?side1 ?side2 A9.out).mono ?_); (case side1 => repeat (first | exact (Kd.R_reads' HO_3.out).2.2 | (with_reducible refine Kd.C_alloc ?_ _) | (with_reducible refine Kd.C_drewN ?_ _) | (with_reducible refine Kd.C_drew ?_))); (case side2 => exact (Kd.R_reads' HO_3.out).2.1); rintro e w26 ⟨rfl, hb⟩; refine ⟨_, rfl, ?_⟩; have n0_ := Aside0.mk (Kd.R_below (by (with_reducible repeat (first | apply Kd.R_alloc | apply Kd.R_drewN | apply Kd.R_drew)); exact HO_3.out) hb); have n1_ := Aside0.mk (below_step (by repeat (first | (with_reducible first | exact HB.out | apply below_alloc | apply pw_below_drewN | apply below_drew1) | exact HB.out)) hb); clear HO_3; clear HB; have HO_3 := n0_; have HB := n1_; clear n0_ n1_; (try clear hb); (try clear hb2); (try clear hk); (try clear hi)))
     go_ret
     exact ⟨by first | rfl | (simp [errW_none, errW_some] <;> rfl) | (simp [*, errW_none, errW_some] <;> rfl), by repeat (first | (with_reducible first | exact HB.out | apply below_alloc | apply pw_below_drewN | apply below_drew1) | exact HB.out)⟩
end Go.Proofs.YtafjlibcdlihcaaDoor.G
end
section
namespace Go.Proofs.YtafjlibcdlihcaaDoor.G
open Go.RowKit Go.Proofs.YtafjlibcdlihcaaDoorW.PrintWords Go.Proofs.YtafjlibcdlihcaaDoorW.PrintLast Go.Proofs.YtafjlibcdlihcaaDoorW.PrintMore
attribute [local go_sem] max2_int min2_int max_two min_two max_three min_three max_four min_four   -- for this text's walks alone
set_option linter.unusedVariables false
set_option linter.unusedSimpArgs false
def plainL (s : List UInt8) : List UInt8 := s.map fun c => if c = 42 ∨ c = 63 then 97 else c
def tree_plain.f (a0 : ByteArray) : Option ByteArray := if a0.size ≤ 140737488351232 then some ⟨(plainL a0.data.toList).toArray⟩ else none
theorem plainL_length (l : List UInt8) : (plainL l).length = l.length := by simp [plainL]
theorem plain_at_ (l : List UInt8) (k : Nat) (hk : k < l.length) : (((plainL (l.take k)) ++ l.drop k).map fun c => (c.toNat : Int)).getD k 0 = ((l[k]'hk).toNat : Int) := by
 have h1 : (plainL (l.take k)).length = k := by rw [plainL_length, List.length_take]; omega
 rw [List.getD_eq_getElem?_getD, List.getElem?_map, List.getElem?_append_right (by omega), h1]
 simp [hk]
theorem plain_len_ (l : List UInt8) (k : Nat) (hk : k ≤ l.length) : (((plainL (l.take k)) ++ l.drop k).map fun c => (c.toNat : Int)).length = l.length := by
 simp [plainL_length]
 omega
theorem plain_snoc_ (l : List UInt8) (c : UInt8) : plainL (l ++ [c]) = plainL l ++ [if c = 42 ∨ c = 63 then 97 else c] := by unfold plainL; rw [List.map_append]; rfl
theorem plain_keep_ (l : List UInt8) (k : Nat) (hk : k < l.length) (hc : ¬ (l[k]'hk = 42 ∨ l[k]'hk = 63)) : plainL (l.take k) ++ l.drop k = plainL (l.take (k + 1)) ++ l.drop (k + 1) := by
 rw [List.take_succ_eq_append_getElem hk, plain_snoc_, List.append_assoc, if_neg hc]
 rw [List.drop_eq_getElem_cons hk]
 rfl
theorem plain_set_ (l : List UInt8) (k : Nat) (hk : k < l.length) (hc : l[k]'hk = 42 ∨ l[k]'hk = 63) : ((plainL (l.take k) ++ l.drop k).map fun c => (c.toNat : Int)).set k 97 = (plainL (l.take (k + 1)) ++ l.drop (k + 1)).map fun c => (c.toNat : Int) := by
 have h1 : (plainL (l.take k)).length = k := by rw [plainL_length, List.length_take]; omega
 rw [List.take_succ_eq_append_getElem hk, plain_snoc_, List.append_assoc, if_pos hc]
 rw [List.drop_eq_getElem_cons hk, List.map_append, List.map_append]
 rw [List.set_append_right _ _ (by rw [List.length_map, h1]; exact Nat.le_refl _), List.length_map, h1, Nat.sub_self]
 rfl
theorem strOf_plain_ (l : List UInt8) : strOfNums ((plainL (l.take l.length) ++ l.drop l.length).map fun c => (c.toNat : Int)) = ⟨(plainL l).toArray⟩ := by
 simp [strOfNums, List.map_map, Function.comp_def]
set_option maxHeartbeats 2000000 in
set_option maxRecDepth 100000 in
theorem tree_plain.calls (a0 : ByteArray) (r : ByteArray) (w : World) (h : tree_plain.f a0 = some r) :
  Calls Tryd.prog 51 #[.string a0] w fun e w' => e = .returned (.string r) ∧ Below w.heap.size w w' := by
 unfold tree_plain.f at h
 by_cases hs : a0.size ≤ 140737488351232
 case neg => rw [if_neg hs] at h; exact absurd h (by simp)
 rw [if_pos hs] at h
 have hcv := fun w => Lib.run_convert_string_bytes (P := Tryd.prog) w 9 66 5 a0 Tryd.underlying9 Tryd.underlying66 Tryd.underlying5
 go_enter Tryd.func51, Tryd.ntmps51
 go_wp2
 have hr := Option.some.inj h
 have HS := Aside0.mk hr
 clear h hr hcv
 obtain ⟨wb, hwb⟩ : ∃ wb, wb = Lib.bytesWorld w 5 a0 := ⟨_, rfl⟩
 have HB0 := Aside0.mk (show Below w.heap.size w wb by rw [hwb]; exact bytesWorld_below_ _ _ _)
 have HR0 := Aside0.mk (show RowB 5 wb w.heap.size (a0.data.toList.map fun c => (c.toNat : Int)) by rw [hwb]; exact RowB.new _ _ _)
 rw [← hwb]
 clear hwb
 go_loopw [4, 5, 10] (fun v4 v5 v10 wr => ∃ (k : Nat) (xs : List Int), v10 = .int .i64 k ∧ Aside0 (k ≤ a0.size) ∧ Aside0 (xs = ((plainL (a0.data.toList.take k)) ++ a0.data.toList.drop k).map fun c => (c.toNat : Int)) ∧ Aside0 (RowB 5 wr w.heap.size xs) ∧ Aside0 (Below w.heap.size w wr)) (fun _ _ v10 _ => a0.size - (intOf v10).toNat)
 case atStart => exact ⟨0, _, rfl, ⟨Nat.zero_le _⟩, ⟨rfl⟩, HR0, HB0⟩
 case round =>
  clear HR0 HB0
  obtain ⟨k, xs, rfl, HK, HX, HR, HB⟩ := hrel
  have hsz : a0.data.toList.length = a0.size := by simp
  have HL := Aside0.mk (show xs.length = a0.size by rw [HX.out, plain_len_ _ _ (by rw [hsz]; exact HK.out), hsz])
  have HSZ := Aside0.mk hsz
  clear hsz
  by_cases hk : k < a0.size
  ·have hc := HR.out.cell k (by rw [HL.out]; exact hk)
   have hfz := HR.out.frozen k (by rw [HL.out]; exact hk)
   have hkl : k < a0.data.toList.length := by rw [HSZ.out]; exact hk
   rw [HX.out, plain_at_ _ _ hkl] at hc
   obtain ⟨c, hcc⟩ : ∃ c : UInt8, a0.data.toList[k]'hkl = c := ⟨_, rfl⟩
   rw [hcc] at hc
   have HC := Aside0.mk hcc
   obtain ⟨n, hn⟩ : ∃ n : Nat, c.toNat = n := ⟨_, rfl⟩
   rw [hn] at hc
   have HN := Aside0.mk hn
   clear hcc hn
   by_cases t1 : n = 42
   ·have t1b : ((n : Int) == 42) = true := by subst t1; rfl
    have HT : Aside0 (c = 42 ∨ c = 63) := ⟨.inl (by apply UInt8.toNat_inj.1; rw [HN.out, t1]; rfl)⟩
    clear t1
    go_wp2
    go_roundw
    case rel => exact ⟨k + 1, _, by go_num, ⟨hk⟩, ⟨by rw [HX.out]; exact plain_set_ _ _ hkl (by rw [HC.out]; exact HT.out)⟩, ⟨HR.out.set k 97⟩, ⟨Below.setCell HB.out (Nat.le_refl _) _⟩⟩
    case measure => simp [intOf]; omega
   ·have t1b : ((n : Int) == 42) = false := by simp; omega
    by_cases t2 : n = 63
    ·have t2b : ((n : Int) == 63) = true := by subst t2; rfl
     have HT : Aside0 (c = 42 ∨ c = 63) := ⟨.inr (by apply UInt8.toNat_inj.1; rw [HN.out, t2]; rfl)⟩
     clear t1 t2
     go_wp2
     go_roundw
     case rel => exact ⟨k + 1, _, by go_num, ⟨hk⟩, ⟨by rw [HX.out]; exact plain_set_ _ _ hkl (by rw [HC.out]; exact HT.out)⟩, ⟨HR.out.set k 97⟩, ⟨Below.setCell HB.out (Nat.le_refl _) _⟩⟩
     case measure => simp [intOf]; omega
    ·have t2b : ((n : Int) == 63) = false := by simp; omega
     have HT : Aside0 (¬ (c = 42 ∨ c = 63)) := ⟨fun z => z.elim (fun z => t1 (by rw [← HN.out, z]; rfl)) (fun z => t2 (by rw [← HN.out, z]; rfl))⟩
     clear t1 t2
     go_wp2
     go_roundw
     case rel => exact ⟨k + 1, _, by go_num, ⟨hk⟩, ⟨by rw [HX.out, plain_keep_ _ _ hkl (by rw [HC.out]; exact HT.out)]⟩, HR, HB⟩
     case measure => simp [intOf]; omega
  ·have hcv := run_convert_bytes_arg (P := Tryd.prog) wr 66 5 Tryd.underlying66 Tryd.underlying5 w.heap.size 0 a0.size (grownCap w a0.size 0 5) xs HL.out (fun i hi => by rw [Nat.zero_add]; exact HR.out.cell i (by rw [HL.out]; exact hi)) 9 Tryd.underlying9
   have hout : strOfNums xs = r := by
    have hkk : k = a0.data.toList.length := by rw [HSZ.out]; have := HK.out; omega
    rw [HX.out, hkk, strOf_plain_, HS.out]
   rw [hout] at hcv
   clear hout
   go_wp2
   go_ret
   exact ⟨rfl, HB.out⟩
end Go.Proofs.YtafjlibcdlihcaaDoor.G
end
section
namespace Go.Proofs.YtafjlibcdlihcaaDoor.G
open Go.RowKit Go.Proofs.YtafjlibcdlihcaaDoorW.PrintWords Go.Proofs.YtafjlibcdlihcaaDoorW.PrintLast Go.Proofs.YtafjlibcdlihcaaDoorW.PrintMore
attribute [local go_sem] max2_int min2_int max_two min_two max_three min_three max_four min_four   -- for this text's walks alone
set_option linter.unusedVariables false
set_option linter.unusedSimpArgs false
def tree_Pattern.l0 : Nat → List ByteArray → Int → Int → Option (Int)
 | 0, _, _, _ => none
 | k + 1, x9, x10, x11 => if x11 < x10 then (if 0 ≤ x11 then (if x11 < (x9.length : Int) then (if (rdOf ByteArray.empty x9 x11).toList = ([42, 42] : List UInt8) then (tree_Pattern.l0 k x9 x10 (wrap64 (x11 + 1))) else ((tree_plain.f (rdOf ByteArray.empty x9 x11)).bind fun t136 => ((tree_name.f t136).bind fun t137 => (if t137 = true then (tree_Pattern.l0 k x9 x10 (wrap64 (x11 + 1))) else (some 10))))) else (none)) else (none)) else (some 0)
def tree_Pattern.f (k : Nat) (a0 : ByteArray) : Option (Int) := if (a0.size : Int) > 200 then (some 4) else ((strings_Split.f a0 (⟨#[47]⟩ : ByteArray)).bind fun t132 => (tree_Pattern.l0 k t132 (t132.length : Int) 0))
theorem tree_Pattern.mono_l : ∀ k, (∀ y0 y1 y2, LeO (tree_Pattern.l0 k y0 y1 y2) (tree_Pattern.l0 (k + 1) y0 y1 y2))
 | 0 => fun _ _ _ r h => by simp [tree_Pattern.l0] at h
 | k + 1 => by
  have ih0 := tree_Pattern.mono_l k
  ·intro y0 y1 y2
   unfold tree_Pattern.l0
   repeat' first
   | (with_reducible exact ih0 _ _ _)
   | (with_reducible exact LeO.refl _)
   | (with_reducible exact LeO.none _)
   | (with_reducible refine LeO.ite ?_ ?_)
   | (with_reducible refine LeO.bind ?_ (fun _ => ?_))
   | exact ih0 _ _ _
   | exact LeO.none _
   | refine LeO.ite ?_ ?_
   | refine LeO.bind ?_ (fun _ => ?_)
theorem tree_Pattern.mono : ∀ a0 k, LeO (tree_Pattern.f k a0) (tree_Pattern.f (k + 1) a0) := by
 intro a0 k
 have ih0 := tree_Pattern.mono_l k
 unfold tree_Pattern.f
 repeat' first
   | (with_reducible exact ih0 _ _ _)
   | (with_reducible exact LeO.refl _)
   | (with_reducible exact LeO.none _)
   | (with_reducible refine LeO.ite ?_ ?_)
   | (with_reducible refine LeO.bind ?_ (fun _ => ?_))
   | exact ih0 _ _ _
   | exact LeO.none _
   | refine LeO.ite ?_ ?_
   | refine LeO.bind ?_ (fun _ => ?_)
set_option maxHeartbeats 8000000 in
set_option maxRecDepth 100000 in
theorem tree_Pattern.calls (k : Nat) (a0 : ByteArray) (r : Int) (w : World) (h : tree_Pattern.f k a0 = some r) :
  Calls Tryd.prog 21 #[.string a0] w fun e w' => e = .returned (.int .i64 r) ∧ Below w.heap.size w w' := by
 have HB := Aside0.mk (Below.refl w.heap.size w)
 have H : (if (a0.size : Int) > 200 then (some 4) else ((strings_Split.f a0 (⟨#[47]⟩ : ByteArray)).bind fun t132 => (tree_Pattern.l0 k t132 (t132.length : Int) 0))) = some r := h
 clear h
 by_cases c2 : (a0.size : Int) > 200
 ·rw [if_pos c2] at H
  have c2b0 : decide (200 < (a0.size : Int)) = true := decide_eq_true c2
  have c2b1 : decide (200 < a0.size) = true := decide_eq_true (by omega)
  clear c2
  obtain rfl := Option.some.inj H
  go_enter Tryd.func21, Tryd.ntmps21
  go_wp2
  go_ret
  exact ⟨by first | rfl | (simp [errW_none, errW_some] <;> rfl) | (simp [*, errW_none, errW_some] <;> rfl), by repeat (first | (with_reducible first | exact HB.out | apply below_alloc | apply pw_below_drewN | apply below_drew1) | exact HB.out)⟩
 ·rw [if_neg c2] at H
  have c2b0 : decide (200 < (a0.size : Int)) = false := decide_eq_false c2
  have c2b1 : decide (200 < a0.size) = false := decide_eq_false (by omega)
  clear c2
  replace H := Option.bind_eq_some_iff.mp H
  obtain ⟨t132, A30, H⟩ := H
  replace H : (tree_Pattern.l0 k t132 (t132.length : Int) 0) = some r := H
  have A3 := Aside0.mk A30
  clear A30
  have H' := Aside0.mk H
  clear H
  go_enter Tryd.func21, Tryd.ntmps21
  go_wp2_with (first | ((with_reducible refine gate_callee (f := 44) rfl ?_); refine goesL_ (some 9) rfl rfl Tryd.func44 (by kernel_rfl) rfl #[.string a0, .string (⟨#[47]⟩ : ByteArray)] rfl (by (try simp only [List.map_toArray, List.map_cons, List.map_nil]); first | done | rfl | (simp only [List.length_drop, List.length_take]; rfl)) ?_; (with_reducible refine (strings_Split.calls a0 (⟨#[47]⟩ : ByteArray) t132 _ A3.out).mono ?_); rintro e w4 ⟨v133, rfl, ho0, hb⟩; refine ⟨_, rfl, ?_⟩; have n0_ := Aside0.mk (Kd.R_lower ho0 (below_size (by repeat (first | (with_reducible first | exact HB.out | apply below_alloc | apply pw_below_drewN | apply below_drew1) | exact HB.out)))); have n1_ := Aside0.mk (below_step (by repeat (first | (with_reducible first | exact HB.out | apply below_alloc | apply pw_below_drewN | apply below_drew1) | exact HB.out)) hb); clear HB; have HO134 := n0_; have HB := n1_; clear n0_ n1_; (try clear hb); (try clear hb2); (try clear hk); (try clear hi); (try clear ho0); obtain ⟨Ao5, co5, eo5⟩ := Kd.R_slice HO134.out; subst eo5))
  go_loopg [11] k (fun kq v11 w' => ∃ (x11_1 : Int), v11 = .int .i64 x11_1 ∧ Aside0 (tree_Pattern.l0 kq t132 (t132.length : Int) x11_1 = some r) ∧ Aside0 (kq ≤ k) ∧ Aside0 (Kd.R Kd.string 9 w' w.heap.size (fun _ => True) (.slice Ao5 t132.length co5) t132) ∧ Aside0 (Below w.heap.size w w'))
  case atStart => exact ⟨(0), (by first | rfl | (simp; done) | (simp [*]; done)), H', ⟨Nat.le_refl _⟩, ⟨by (with_reducible repeat (first | apply Kd.R_alloc | apply Kd.R_drewN | apply Kd.R_drew)); exact HO134.out⟩, ⟨by repeat (first | (with_reducible first | exact HB.out | apply below_alloc | apply pw_below_drewN | apply below_drew1) | exact HB.out)⟩⟩
  case round =>
   clear H'
   try clear c2
   try clear c2b0
   try clear c2b1
   try clear p2
   try clear c4
   obtain ⟨x11_1, rfl, HA, HK1, HO_9, HB⟩ := hrel
   cases gk with
   | zero => exact absurd HA.out (by simp [tree_Pattern.l0])
   | succ k1 =>
    have H := HA.out
    clear HA
    simp only [tree_Pattern.l0] at H
    by_cases c6 : x11_1 < (t132.length : Int)
    ·rw [if_pos c6] at H
     have c6b0 : decide (x11_1 < (t132.length : Int)) = true := decide_eq_true c6
     clear c6
     by_cases c7 : 0 ≤ x11_1
     ·rw [if_pos c7] at H
      have c7b0 : decide (0 ≤ x11_1) = true := decide_eq_true c7
      clear c7
      by_cases c8 : x11_1 < (t132.length : Int)
      ·rw [if_pos c8] at H
       have c8b0 : decide (x11_1 < (t132.length : Int)) = true := decide_eq_true c8
       clear c8
       by_cases c9 : (rdOf ByteArray.empty t132 x11_1).toList = ([42, 42] : List UInt8)
       ·rw [if_pos c9] at H
        have c9b0 : ((rdOf ByteArray.empty t132 x11_1).toList == ([42, 42] : List UInt8)) = true := beq_iff_eq.mpr c9
        have c9b1 : ((rdOf ByteArray.empty t132 x11_1).toList != ([42, 42] : List UInt8)) = false := bne_eq_false_iff_eq.mpr c9
        clear c9
        have H' := Aside0.mk H
        clear H
        have p135 : 0 ≤ (x11_1 : Int) := of_decide_eq_true (by first | (with_reducible assumption) | assumption)
        have q135 : x11_1 < (t132.length : Int) := of_decide_eq_true (by first | (with_reducible assumption) | assumption)
        obtain ⟨ad135, e135, hx135_0⟩ := Kd.at_string (Kd.R_reads' HO_9.out).2.2 x11_1 p135 q135
        cases e135
        replace p135 := eq_true p135
        replace q135 := eq_true q135
        go_wp2
        go_roundg k1
        case measure => have := HK1.out; omega
        case rel => exact ⟨(wrap64 (x11_1 + 1)), (by first | rfl | (simp; done) | (simp [*]; done)), H', ⟨by have := HK1.out; omega⟩, ⟨by (with_reducible repeat (first | apply Kd.R_alloc | apply Kd.R_drewN | apply Kd.R_drew)); exact HO_9.out⟩, ⟨by repeat (first | (with_reducible first | exact HB.out | apply below_alloc | apply pw_below_drewN | apply below_drew1) | exact HB.out)⟩⟩
       ·rw [if_neg c9] at H
        have c9b0 : ((rdOf ByteArray.empty t132 x11_1).toList == ([42, 42] : List UInt8)) = false := beq_eq_false_iff_ne.mpr c9
        have c9b1 : ((rdOf ByteArray.empty t132 x11_1).toList != ([42, 42] : List UInt8)) = true := bne_iff_ne.mpr c9
        replace H := Option.bind_eq_some_iff.mp H
        obtain ⟨t136, A100, H⟩ := H
        replace H : ((tree_name.f t136).bind fun t137 => (if t137 = true then (tree_Pattern.l0 k1 t132 (t132.length : Int) (wrap64 (x11_1 + 1))) else (some 10))) = some r := H
        have A10 := Aside0.mk A100
        clear A100
        replace H := Option.bind_eq_some_iff.mp H
        obtain ⟨t137, A110, H⟩ := H
        replace H : (if t137 = true then (tree_Pattern.l0 k1 t132 (t132.length : Int) (wrap64 (x11_1 + 1))) else (some 10)) = some r := H
        have A11 := Aside0.mk A110
        clear A110
        by_cases c12 : t137 = true
        ·subst c12
         have H1 : (tree_Pattern.l0 k1 t132 (t132.length : Int) (wrap64 (x11_1 + 1))) = some r := by rw [if_pos rfl] at H; exact H
         clear H
         have H := H1
         clear H1
         have H' := Aside0.mk H
         clear H
         have p135 : 0 ≤ (x11_1 : Int) := of_decide_eq_true (by first | (with_reducible assumption) | assumption)
         have q135 : x11_1 < (t132.length : Int) := of_decide_eq_true (by first | (with_reducible assumption) | assumption)
         obtain ⟨ad135, e135, hx135_0⟩ := Kd.at_string (Kd.R_reads' HO_9.out).2.2 x11_1 p135 q135
         cases e135
         replace p135 := eq_true p135
         replace q135 := eq_true q135
         go_wp2_with (first | (go_at_call 51; (with_reducible refine (tree_plain.calls (rdOf ByteArray.empty t132 x11_1) t136 _ A10.out).mono ?_); rintro e w13 ⟨rfl, hb⟩; have n0_ := Aside0.mk (Kd.R_below (by (with_reducible repeat (first | apply Kd.R_alloc | apply Kd.R_drewN | apply Kd.R_drew)); exact HO_9.out) hb); have n1_ := Aside0.mk (below_step (by repeat (first | (with_reducible first | exact HB.out | apply below_alloc | apply pw_below_drewN | apply below_drew1) | exact HB.out)) hb); clear HO_9; clear HB; have HO_9 := n0_; have HB := n1_; clear n0_ n1_; (try clear hb); (try clear hb2); (try clear hk); (try clear hi)) | (go_at_call 45; (with_reducible refine (tree_name.calls t136 true _ A11.out).mono ?_); rintro e w14 ⟨rfl, hb⟩; have n0_ := Aside0.mk (Kd.R_below (by (with_reducible repeat (first | apply Kd.R_alloc | apply Kd.R_drewN | apply Kd.R_drew)); exact HO_9.out) hb); have n1_ := Aside0.mk (below_step (by repeat (first | (with_reducible first | exact HB.out | apply below_alloc | apply pw_below_drewN | apply below_drew1) | exact HB.out)) hb); clear HO_9; clear HB; have HO_9 := n0_; have HB := n1_; clear n0_ n1_; (try clear hb); (try clear hb2); (try clear hk); (try clear hi)))
         go_roundg k1
         case measure => have := HK1.out; omega
         case rel => exact ⟨(wrap64 (x11_1 + 1)), (by first | rfl | (simp; done) | (simp [*]; done)), H', ⟨by have := HK1.out; omega⟩, ⟨by (with_reducible repeat (first | apply Kd.R_alloc | apply Kd.R_drewN | apply Kd.R_drew)); exact HO_9.out⟩, ⟨by repeat (first | (with_reducible first | exact HB.out | apply below_alloc | apply pw_below_drewN | apply below_drew1) | exact HB.out)⟩⟩
        ·replace c12 := Bool.eq_false_iff.mpr c12
         subst c12
         have H1 : (some 10) = some r := by rw [if_neg (show ¬ (false = true) by decide)] at H; exact H
         clear H
         have H := H1
         clear H1
         obtain rfl := Option.some.inj H
         have p135 : 0 ≤ (x11_1 : Int) := of_decide_eq_true (by first | (with_reducible assumption) | assumption)
         have q135 : x11_1 < (t132.length : Int) := of_decide_eq_true (by first | (with_reducible assumption) | assumption)
         obtain ⟨ad135, e135, hx135_0⟩ := Kd.at_string (Kd.R_reads' HO_9.out).2.2 x11_1 p135 q135
         cases e135
         replace p135 := eq_true p135
         replace q135 := eq_true q135
         go_wp2_with (first | (go_at_call 51; (with_reducible refine (tree_plain.calls (rdOf ByteArray.empty t132 x11_1) t136 _ A10.out).mono ?_); rintro e w15 ⟨rfl, hb⟩; have n0_ := Aside0.mk (Kd.R_below (by (with_reducible repeat (first | apply Kd.R_alloc | apply Kd.R_drewN | apply Kd.R_drew)); exact HO_9.out) hb); have n1_ := Aside0.mk (below_step (by repeat (first | (with_reducible first | exact HB.out | apply below_alloc | apply pw_below_drewN | apply below_drew1) | exact HB.out)) hb); clear HO_9; clear HB; have HO_9 := n0_; have HB := n1_; clear n0_ n1_; (try clear hb); (try clear hb2); (try clear hk); (try clear hi)) | (go_at_call 45; (with_reducible refine (tree_name.calls t136 false _ A11.out).mono ?_); rintro e w16 ⟨rfl, hb⟩; have n0_ := Aside0.mk (Kd.R_below (by (with_reducible repeat (first | apply Kd.R_alloc | apply Kd.R_drewN | apply Kd.R_drew)); exact HO_9.out) hb); have n1_ := Aside0.mk (below_step (by repeat (first | (with_reducible first | exact HB.out | apply below_alloc | apply pw_below_drewN | apply below_drew1) | exact HB.out)) hb); clear HO_9; clear HB; have HO_9 := n0_; have HB := n1_; clear n0_ n1_; (try clear hb); (try clear hb2); (try clear hk); (try clear hi)))
         go_ret
         exact ⟨by first | rfl | (simp [errW_none, errW_some] <;> rfl) | (simp [*, errW_none, errW_some] <;> rfl), by repeat (first | (with_reducible first | exact HB.out | apply below_alloc | apply pw_below_drewN | apply below_drew1) | exact HB.out)⟩
      ·rw [if_neg c8] at H
       exact absurd H (by simp)
     ·rw [if_neg c7] at H
      exact absurd H (by simp)
    ·rw [if_neg c6] at H
     have c6b0 : decide (x11_1 < (t132.length : Int)) = false := decide_eq_false c6
     clear c6
     obtain rfl := Option.some.inj H
     go_wp2
     go_ret
     exact ⟨by first | rfl | (simp [errW_none, errW_some] <;> rfl) | (simp [*, errW_none, errW_some] <;> rfl), by repeat (first | (with_reducible first | exact HB.out | apply below_alloc | apply pw_below_drewN | apply below_drew1) | exact HB.out)⟩
end Go.Proofs.YtafjlibcdlihcaaDoor.G
end
section
namespace Go.Proofs.YtafjlibcdlihcaaDoor.G
open Go.RowKit Go.Proofs.YtafjlibcdlihcaaDoorW.PrintWords Go.Proofs.YtafjlibcdlihcaaDoorW.PrintLast Go.Proofs.YtafjlibcdlihcaaDoorW.PrintMore
attribute [local go_sem] max2_int min2_int max_two min_two max_three min_three max_four min_four   -- for this text's walks alone
set_option linter.unusedVariables false
set_option linter.unusedSimpArgs false
mutual
def tree_inName.l0 : Nat → ByteArray → List Bool → List Int → Int → Int → Option (Bool)
 | 0, _, _, _, _, _ => none
 | k + 1, x1, x5, x17, x18, x19 => if x19 < x18 then (if 0 ≤ x19 then (if x19 < (x17.length : Int) then (if 0 ≤ (wrap64 ((x1.size : Int) + 1)) then (if (wrap64 ((x1.size : Int) + 1) : Int).toNat ≤ 281474976710656 then ((some (List.replicate (wrap64 ((x1.size : Int) + 1) : Int).toNat false : List Bool)).bind fun y147 => (tree_inName.l1 k x1 x5 (rd x17 x19) y147 x17 x18 x19 (y147.length : Int) 0)) else (none)) else (none)) else (none)) else (none)) else (if 0 ≤ (x1.size : Int) then (if (x1.size : Int) < (x5.length : Int) then (some (rdOf false x5 (x1.size : Int))) else (none)) else (none))
def tree_inName.l1 : Nat → ByteArray → List Bool → Int → List Bool → List Int → Int → Int → Int → Int → Option (Bool)
 | 0, _, _, _, _, _, _, _, _, _ => none
 | k + 1, x1, x5, x7, x8, x17, x18, x19, x28, x29 => if x29 < x28 then (if x7 = 42 then (if 0 ≤ x29 then (if x29 < (x5.length : Int) then (if rdOf false x5 x29 = true then (if x29 < (x8.length : Int) then (tree_inName.l1 k x1 x5 x7 (x8.set (x29 : Int).toNat true) x17 x18 x19 x28 (wrap64 (x29 + 1))) else (none)) else (if x29 > 0 then (if 0 ≤ (wrap64 (x29 - 1)) then (if (wrap64 (x29 - 1)) < (x8.length : Int) then (if x29 < (x8.length : Int) then (tree_inName.l1 k x1 x5 x7 (x8.set (x29 : Int).toNat (rdOf false x8 (wrap64 (x29 - 1)))) x17 x18 x19 x28 (wrap64 (x29 + 1))) else (none)) else (none)) else (none)) else (if x29 < (x8.length : Int) then (tree_inName.l1 k x1 x5 x7 (x8.set (x29 : Int).toNat false) x17 x18 x19 x28 (wrap64 (x29 + 1))) else (none)))) else (none)) else (none)) else (if x29 > 0 then (if 0 ≤ (wrap64 (x29 - 1)) then (if (wrap64 (x29 - 1)) < (x5.length : Int) then (if rdOf false x5 (wrap64 (x29 - 1)) = true then (if x7 = 63 then (if 0 ≤ x29 then (if x29 < (x8.length : Int) then (tree_inName.l1 k x1 x5 x7 (x8.set (x29 : Int).toNat true) x17 x18 x19 x28 (wrap64 (x29 + 1))) else (none)) else (none)) else (if (wrap64 (x29 - 1)) < (x1.size : Int) then (if 0 ≤ x29 then (if x29 < (x8.length : Int) then (tree_inName.l1 k x1 x5 x7 (x8.set (x29 : Int).toNat (x7 == (bt x1 (wrap64 (x29 - 1))))) x17 x18 x19 x28 (wrap64 (x29 + 1))) else (none)) else (none)) else (none))) else (if 0 ≤ x29 then (if x29 < (x8.length : Int) then (tree_inName.l1 k x1 x5 x7 (x8.set (x29 : Int).toNat false) x17 x18 x19 x28 (wrap64 (x29 + 1))) else (none)) else (none))) else (none)) else (none)) else (tree_inName.l1 k x1 x5 x7 x8 x17 x18 x19 x28 (wrap64 (x29 + 1))))) else (tree_inName.l0 k x1 x8 x17 x18 (wrap64 (x19 + 1)))
end
def tree_inName.f (k : Nat) (a0 : ByteArray) (a1 : ByteArray) : Option (Bool) := if 0 ≤ (wrap64 ((a1.size : Int) + 1)) then (if (wrap64 ((a1.size : Int) + 1) : Int).toNat ≤ 281474976710656 then ((some (List.replicate (wrap64 ((a1.size : Int) + 1) : Int).toNat false : List Bool)).bind fun y138 => (if 0 < (y138.length : Int) then ((conv_bytes.f a0).bind fun t142 => (tree_inName.l0 k a1 (y138.set (0 : Int).toNat true) t142 (t142.length : Int) 0)) else (none))) else (none)) else (none)
theorem tree_inName.mono_l : ∀ k, (∀ y0 y1 y2 y3 y4, LeO (tree_inName.l0 k y0 y1 y2 y3 y4) (tree_inName.l0 (k + 1) y0 y1 y2 y3 y4)) ∧ (∀ y0 y1 y2 y3 y4 y5 y6 y7 y8, LeO (tree_inName.l1 k y0 y1 y2 y3 y4 y5 y6 y7 y8) (tree_inName.l1 (k + 1) y0 y1 y2 y3 y4 y5 y6 y7 y8))
 | 0 => ⟨fun _ _ _ _ _ r h => by simp [tree_inName.l0] at h, fun _ _ _ _ _ _ _ _ _ r h => by simp [tree_inName.l1] at h⟩
 | k + 1 => by
  obtain ⟨ih0, ih1⟩ := tree_inName.mono_l k
  refine ⟨?_, ?_⟩
  ·intro y0 y1 y2 y3 y4
   unfold tree_inName.l0
   repeat' first
   | (with_reducible exact ih0 _ _ _ _ _)
   | (with_reducible exact ih1 _ _ _ _ _ _ _ _ _)
   | (with_reducible exact LeO.refl _)
   | (with_reducible exact LeO.none _)
   | (with_reducible refine LeO.ite ?_ ?_)
   | (with_reducible refine LeO.bind ?_ (fun _ => ?_))
   | exact ih0 _ _ _ _ _
   | exact ih1 _ _ _ _ _ _ _ _ _
   | exact LeO.none _
   | refine LeO.ite ?_ ?_
   | refine LeO.bind ?_ (fun _ => ?_)
  ·intro y0 y1 y2 y3 y4 y5 y6 y7 y8
   unfold tree_inName.l1
   repeat' first
   | (with_reducible exact ih0 _ _ _ _ _)
   | (with_reducible exact ih1 _ _ _ _ _ _ _ _ _)
   | (with_reducible exact LeO.refl _)
   | (with_reducible exact LeO.none _)
   | (with_reducible refine LeO.ite ?_ ?_)
   | (with_reducible refine LeO.bind ?_ (fun _ => ?_))
   | exact ih0 _ _ _ _ _
   | exact ih1 _ _ _ _ _ _ _ _ _
   | exact LeO.none _
   | refine LeO.ite ?_ ?_
   | refine LeO.bind ?_ (fun _ => ?_)
theorem tree_inName.mono : ∀ a0 a1 k, LeO (tree_inName.f k a0 a1) (tree_inName.f (k + 1) a0 a1) := by
 intro a0 a1 k
 obtain ⟨ih0, ih1⟩ := tree_inName.mono_l k
 unfold tree_inName.f
 repeat' first
   | (with_reducible exact ih0 _ _ _ _ _)
   | (with_reducible exact ih1 _ _ _ _ _ _ _ _ _)
   | (with_reducible exact LeO.refl _)
   | (with_reducible exact LeO.none _)
   | (with_reducible refine LeO.ite ?_ ?_)
   | (with_reducible refine LeO.bind ?_ (fun _ => ?_))
   | exact ih0 _ _ _ _ _
   | exact ih1 _ _ _ _ _ _ _ _ _
   | exact LeO.none _
   | refine LeO.ite ?_ ?_
   | refine LeO.bind ?_ (fun _ => ?_)
set_option maxHeartbeats 8000000 in
set_option maxRecDepth 100000 in
theorem tree_inName.calls (k : Nat) (a0 : ByteArray) (a1 : ByteArray) (r : Bool) (w : World) (h : tree_inName.f k a0 a1 = some r) :
  Calls Tryd.prog 52 #[.string a0, .string a1] w fun e w' => e = .returned (.bool r) ∧ Below w.heap.size w w' := by
 have HB := Aside0.mk (Below.refl w.heap.size w)
 have H : (if 0 ≤ (wrap64 ((a1.size : Int) + 1)) then (if (wrap64 ((a1.size : Int) + 1) : Int).toNat ≤ 281474976710656 then ((some (List.replicate (wrap64 ((a1.size : Int) + 1) : Int).toNat false : List Bool)).bind fun y138 => (if 0 < (y138.length : Int) then ((conv_bytes.f a0).bind fun t142 => (tree_inName.l0 k a1 (y138.set (0 : Int).toNat true) t142 (t142.length : Int) 0)) else (none))) else (none)) else (none)) = some r := h
 clear h
 obtain ⟨ji3, hji3⟩ : ∃ j_ : Int, (wrap64 ((a1.size : Int) + 1)) = j_ := ⟨_, rfl⟩
 replace H : (if 0 ≤ (ji3) then (if (ji3 : Int).toNat ≤ 281474976710656 then ((some (List.replicate (ji3 : Int).toNat false : List Bool)).bind fun y138 => (if 0 < (y138.length : Int) then ((conv_bytes.f a0).bind fun t142 => (tree_inName.l0 k a1 (y138.set (0 : Int).toNat true) t142 (t142.length : Int) 0)) else (none))) else (none)) else (none)) = some r := by first | (rw [hji3] at H; exact H) | (simp only [hji3] at H ⊢; exact H)
 have hji3w : (IntKind.i64.wrap ((a1.size : Int) + 1)) = ji3 := (i64_w _).trans hji3
 by_cases c4 : 0 ≤ (ji3)
 ·rw [if_pos c4] at H
  have c4b0 := eq_true c4
  have c4b1 : decide (0 ≤ (ji3)) = true := decide_eq_true c4
  clear c4
  by_cases c5 : (ji3 : Int).toNat ≤ 281474976710656
  ·rw [if_pos c5] at H
   have c5b0 := eq_true c5
   have c5b1 : decide ((ji3 : Int).toNat ≤ 281474976710656) = true := decide_eq_true c5
   clear c5
   obtain ⟨y138, hy138⟩ : ∃ y_ : List Bool, y_ = (List.replicate (ji3 : Int).toNat false) := ⟨_, rfl⟩
   replace H : (if 0 < (y138.length : Int) then ((conv_bytes.f a0).bind fun t142 => (tree_inName.l0 k a1 (y138.set (0 : Int).toNat true) t142 (t142.length : Int) 0)) else (none)) = some r := by first | (rw [hy138]; with_reducible exact H) | (have H2_ := (Option.bind_some _ _).symm.trans H; rw [hy138]; with_reducible exact H2_) | (have H2_ := (Option.bind_some _ _).symm.trans H; with_reducible exact H2_) | with_reducible exact H | (rw [hy138]; exact H) | exact H
   have Ny138 := Aside0.mk hy138
   clear hy138
   by_cases c6 : 0 < (y138.length : Int)
   ·rw [if_pos c6] at H
    have c6b0 : decide (0 < (y138.length : Int)) = true := decide_eq_true c6
    have c6b1 : decide (0 < y138.length) = true := decide_eq_true (by omega)
    clear c6
    obtain ⟨y141, hy141⟩ : ∃ y_ : List Bool, y_ = (y138.set (0 : Int).toNat true) := ⟨_, rfl⟩
    replace H : ((conv_bytes.f a0).bind fun t142 => (tree_inName.l0 k a1 y141 t142 (t142.length : Int) 0)) = some r := by first | (rw [hy141]; with_reducible exact H) | (have H2_ := (Option.bind_some _ _).symm.trans H; rw [hy141]; with_reducible exact H2_) | (have H2_ := (Option.bind_some _ _).symm.trans H; with_reducible exact H2_) | with_reducible exact H | (rw [hy141]; exact H) | exact H
    have Ny141 := Aside0.mk hy141
    clear hy141
    replace H := Option.bind_eq_some_iff.mp H
    obtain ⟨t142, A80, H⟩ := H
    replace H : (tree_inName.l0 k a1 y141 t142 (t142.length : Int) 0) = some r := H
    have A8 := Aside0.mk A80
    clear A80
    have H' := Aside0.mk H
    clear H
    go_enter Tryd.func52, Tryd.ntmps52
    go_wp2_with (first | ((with_reducible refine gate_dst (N := 13) rfl ?_); refine Kd.R_make Kd.bool _ 4 rfl (N := 13) rfl 67 _ _ rfl ji3 rfl rfl Tryd.underlying67 (.bool false) 1 info4 rfl (by decide) (by omega) false (ok := fun _ => True) (okp := fun _ => True) rfl (fun _ hk => hk) trivial (of_decide_eq_true (by first | (with_reducible assumption) | assumption)) (Nat.le_trans (Nat.mul_le_mul_right _ (of_decide_eq_true (by first | (with_reducible assumption) | assumption) : ji3.toNat ≤ 281474976710656)) (by omega)) (Below.refl _ _) (Nat.le_refl _) ?_; intro v139 w9 ho10 hb hg_ hnew_; clear hg_ hnew_; (first | rw [← Ny138.out] at ho10 | (simp only [Int.reduceToNat] at ho10; rw [← Ny138.out] at ho10)); have n0_ := Aside0.mk (Kd.R_lower ho10 (below_size (by repeat (first | (with_reducible first | exact HB.out | apply below_alloc | apply pw_below_drewN | apply below_drew1) | exact HB.out)))); have n1_ := Aside0.mk (below_step (by repeat (first | (with_reducible first | exact HB.out | apply below_alloc | apply pw_below_drewN | apply below_drew1) | exact HB.out)) hb); clear HB; have HO140 := n0_; have HB := n1_; clear n0_ n1_; clear hb ho10; have p7 : 0 ≤ (0 : Int) := (by omega); have q7 : (0 : Int) < ((y138.length : Int) : Int) := of_decide_eq_true (by first | (with_reducible assumption) | assumption); have qi7 : (0 < y138.length) = True := eq_true (by omega); obtain ⟨go7, co7, eo7, gb7, gl7, cl7, HG7⟩ := Kd.R_form HO140.out (by omega); (first | cases eo7 | (injection eo7 with ea_ en_ ec_; (first | subst ea_ | (injection ea_ with ea_; subst ea_)); subst ec_; clear en_)); have GB7 := Aside0.mk gb7; have GG7 := Aside0.mk HG7; clear gb7 gl7 HG7; obtain ⟨hx7_0, hf7_0⟩ := Kd.R_celln false HO140.out (0 : Int) p7 q7; (try rw [show ((0 : Int)).toNat = 0 from rfl] at hx7_0); (try simp only [Nat.reduceMul, Nat.zero_mul, Nat.zero_add, Nat.reduceAdd] at hx7_0); (try rw [show ((0 : Int)).toNat = 0 from rfl] at hf7_0); (try simp only [Nat.reduceMul, Nat.zero_mul, Nat.zero_add, Nat.reduceAdd] at hf7_0); replace p7 := eq_true p7; replace q7 := eq_true q7; obtain ⟨hy11_, hz11_⟩ := Kd.R_celln false HO140.out (0 : Int) (by omega) (of_decide_eq_true (by first | (with_reducible assumption) | assumption)); (try simp only [Int.reduceToNat, Int.toNat_zero, Int.toNat_ofNat, Nat.reduceMul, Nat.zero_mul, Nat.zero_add] at hy11_ hz11_); (try rw [show ((0 : Int)).toNat = 0 from rfl] at hy11_); (try rw [show ((0 : Int)).toNat = 0 from rfl] at hz11_); have HP11 := Kd.R_putg HO140.out (0 : Int) true) | ((with_reducible refine gate_store (t := 4) (p := 15) rfl ?_); refine store_event (t := 4) (p := 15) (v := ?vo_w12) (w1 := (w9.setCell ⟨go7, (0 : Int).toNat, none⟩ (.bool true))) ?hg ?ho ?hn ?hr ?_; (case ho => rfl); (case hg => rfl); (case hn => rfl); (case hr => first | (go_simp; done) | (go_simp; rfl)); intro w12 hw; have hg : w9.grownBy w12 (some go7) := (by rw [hw]; exact HP11.2); have hp_ : Kd.R Kd.bool 4 w12 w.heap.size (fun _ => True) (.slice (some ⟨go7, 0, none⟩) y138.length co7) y141 := (by rw [hw, Ny141.out]; exact HP11.1); clear HP11; have n0_ := Aside0.mk (hp_); have n1_ := Aside0.mk ((by rw [hw]; exact below_set (HB.out) GB7.out : Below w.heap.size w w12)); clear HO140; clear HB; have HO140 := n0_; have HB := n1_; clear n0_ n1_; clear hg hw hp_) | ((with_reducible refine gate_conv_ (s := 9) (t := 66) rfl ?_); refine convL_ (some 17) rfl rfl 9 66 5 a0 rfl rfl Tryd.underlying9 Tryd.underlying66 Tryd.underlying5 A8.out ?_; rintro e w13 ⟨v143, rfl, ho0, hb⟩; refine ⟨_, rfl, ?_⟩; have n0_ := Aside0.mk (Kd.R_below (by (with_reducible repeat (first | apply Kd.R_alloc | apply Kd.R_drewN | apply Kd.R_drew)); exact HO140.out) hb); have n1_ := Aside0.mk (Kd.V_lower (Kd.V_mono (ok' := fun k_ => some k_ ≠ (.slice (some ⟨go7, 0, none⟩) y138.length co7 : Value).ownBlock) ho0 (fun k_ hk_ => (Kd.fresh' (Kd.R_lt (by (with_reducible repeat (first | apply Kd.R_alloc | apply Kd.R_drewN | apply Kd.R_drew)); exact HO140.out)) k_ hk_))) (below_size (by repeat (first | (with_reducible first | exact HB.out | apply below_alloc | apply pw_below_drewN | apply below_drew1) | exact HB.out)))); have n2_ := Aside0.mk (below_step (by repeat (first | (with_reducible first | exact HB.out | apply below_alloc | apply pw_below_drewN | apply below_drew1) | exact HB.out)) hb); clear HO140; clear HB; have HO140 := n0_; have HO144 := n1_; have HB := n2_; clear n0_ n1_ n2_; (try clear hb); (try clear hb2); (try clear hk); (try clear hi); (try clear ho0); obtain ⟨Ao14, co14, eo14⟩ := Kd.V_slice HO144.out; subst eo14))
    go_loopg [5, 19] k (fun kq v5 v19 w' => ∃ (x5_1 : List Bool) (x19_1 : Int), v19 = .int .i64 x19_1 ∧ Aside0 (tree_inName.l0 kq a1 x5_1 t142 (t142.length : Int) x19_1 = some r) ∧ Aside0 (kq ≤ k) ∧ Aside0 (Kd.R Kd.bool 4 w' w.heap.size (fun _ => True) v5 x5_1) ∧ Aside0 (Kd.V (Kd.int .u8) 5 w' w.heap.size (fun k_ => some k_ ≠ (v5 : Value).ownBlock) (.slice Ao14 t142.length co14) t142) ∧ Aside0 (Below w.heap.size w w'))
    case atStart => exact ⟨(y141), (0), (by first | rfl | (simp; done) | (simp [*]; done)), H', ⟨Nat.le_refl _⟩, ⟨by (with_reducible repeat (first | apply Kd.R_alloc | apply Kd.R_drewN | apply Kd.R_drew)); exact HO140.out⟩, ⟨by (with_reducible repeat (first | apply Kd.V_alloc | apply Kd.V_drewN | apply Kd.V_drew)); exact HO144.out⟩, ⟨by repeat (first | (with_reducible first | exact HB.out | apply below_alloc | apply pw_below_drewN | apply below_drew1) | exact HB.out)⟩⟩
    case round =>
     clear H'
     try clear c1
     try clear p2
     try clear c4
     try clear c4b0
     try clear c4b1
     try clear c5
     try clear c5b0
     try clear c5b1
     try clear c6
     try clear c6b0
     try clear c6b1
     try clear p6
     try clear p7
     try clear q7
     try clear hx7
     try clear qi7
     try clear hf7
     try clear c14
     try clear hx7_0
     try clear p7
     try clear q7
     obtain ⟨x5_1, x19_1, rfl, HA, HK1, HO_5, HO_17, HB⟩ := hrel
     cases gk with
     | zero => exact absurd HA.out (by simp [tree_inName.l0])
     | succ k1 =>
      have H := HA.out
      clear HA
      simp only [tree_inName.l0] at H
      by_cases c15 : x19_1 < (t142.length : Int)
      ·rw [if_pos c15] at H
       have c15b0 : decide (x19_1 < (t142.length : Int)) = true := decide_eq_true c15
       clear c15
       by_cases c16 : 0 ≤ x19_1
       ·rw [if_pos c16] at H
        have c16b0 : decide (0 ≤ x19_1) = true := decide_eq_true c16
        clear c16
        by_cases c17 : x19_1 < (t142.length : Int)
        ·rw [if_pos c17] at H
         have c17b0 : decide (x19_1 < (t142.length : Int)) = true := decide_eq_true c17
         clear c17
         obtain ⟨ji18, hji18⟩ : ∃ j_ : Int, (wrap64 ((a1.size : Int) + 1)) = j_ := ⟨_, rfl⟩
         (try (have hjq_ : ji18 = ji3 := hji18.symm.trans hji3; subst hjq_))
         replace H : (if 0 ≤ (ji18) then (if (ji18 : Int).toNat ≤ 281474976710656 then ((some (List.replicate (ji18 : Int).toNat false : List Bool)).bind fun y147 => (tree_inName.l1 k1 a1 x5_1 (rd t142 x19_1) y147 t142 (t142.length : Int) x19_1 (y147.length : Int) 0)) else (none)) else (none)) = some r := by first | (rw [hji18] at H; exact H) | (simp only [hji18] at H ⊢; exact H)
         have hji18w : (IntKind.i64.wrap ((a1.size : Int) + 1)) = ji18 := (i64_w _).trans hji18
         by_cases c19 : 0 ≤ (ji18)
         ·rw [if_pos c19] at H
          have c19b0 := eq_true c19
          have c19b1 : decide (0 ≤ (ji18)) = true := decide_eq_true c19
          clear c19
          by_cases c20 : (ji18 : Int).toNat ≤ 281474976710656
          ·rw [if_pos c20] at H
           have c20b0 := eq_true c20
           have c20b1 : decide ((ji18 : Int).toNat ≤ 281474976710656) = true := decide_eq_true c20
           clear c20
           obtain ⟨y147, hy147⟩ : ∃ y_ : List Bool, y_ = (List.replicate (ji18 : Int).toNat false) := ⟨_, rfl⟩
           replace H : (tree_inName.l1 k1 a1 x5_1 (rd t142 x19_1) y147 t142 (t142.length : Int) x19_1 (y147.length : Int) 0) = some r := by first | (rw [hy147]; with_reducible exact H) | (have H2_ := (Option.bind_some _ _).symm.trans H; rw [hy147]; with_reducible exact H2_) | (have H2_ := (Option.bind_some _ _).symm.trans H; with_reducible exact H2_) | with_reducible exact H | (rw [hy147]; exact H) | exact H
           have Ny147 := Aside0.mk hy147
           clear hy147
           have H' := Aside0.mk H
           clear H
           have p146 : 0 ≤ (x19_1 : Int) := of_decide_eq_true (by first | (with_reducible assumption) | assumption)
           have q146 : x19_1 < (t142.length : Int) := of_decide_eq_true (by first | (with_reducible assumption) | assumption)
           obtain ⟨ad146, e146, hx146_0⟩ := Kd.at_int (Kd.V_reads' HO_17.out).2.2 x19_1 p146 q146
           cases e146
           replace p146 := eq_true p146
           replace q146 := eq_true q146
           go_wp2_with (first | ((with_reducible refine gate_dst (N := 26) rfl ?_); refine Kd.R_make Kd.bool _ 4 rfl (N := 26) rfl 67 _ _ rfl ji18 rfl rfl Tryd.underlying67 (.bool false) 1 info4 rfl (by decide) (by omega) false (ok := fun _ => True) (okp := fun _ => True) rfl (fun _ hk => hk) trivial (of_decide_eq_true (by first | (with_reducible assumption) | assumption)) (Nat.le_trans (Nat.mul_le_mul_right _ (of_decide_eq_true (by first | (with_reducible assumption) | assumption) : ji18.toNat ≤ 281474976710656)) (by omega)) (Below.refl _ _) (Nat.le_refl _) ?_; intro v148 w21 ho22 hb hg_ hnew_; clear hg_ hnew_; (first | rw [← Ny147.out] at ho22 | (simp only [Int.reduceToNat] at ho22; rw [← Ny147.out] at ho22)); have n0_ := Aside0.mk (Kd.R_elder' (by (with_reducible repeat (first | apply Kd.R_alloc | apply Kd.R_drewN | apply Kd.R_drew)); exact HO_5.out) (Kd.R_base ho22) hb); have n1_ := Aside0.mk (Kd.V_elder' (by (with_reducible repeat (first | apply Kd.V_alloc | apply Kd.V_drewN | apply Kd.V_drew)); exact HO_17.out) (Kd.R_base ho22) hb); have n2_ := Aside0.mk (Kd.R_lower (Kd.R_new' ho22 (Kd.R_lt (by (with_reducible repeat (first | apply Kd.R_alloc | apply Kd.R_drewN | apply Kd.R_drew)); exact HO_5.out))) (below_size (by repeat (first | (with_reducible first | exact HB.out | apply below_alloc | apply pw_below_drewN | apply below_drew1) | exact HB.out)))); have n3_ := Aside0.mk (below_step (by repeat (first | (with_reducible first | exact HB.out | apply below_alloc | apply pw_below_drewN | apply below_drew1) | exact HB.out)) hb); clear HO_5; clear HO_17; clear HB; have HO_5 := n0_; have HO_17 := n1_; have HO149 := n2_; have HB := n3_; clear n0_ n1_ n2_ n3_; clear hb ho22; obtain ⟨Ao23, co23, eo23⟩ := Kd.R_slice HO149.out; subst eo23))
           go_loopg [29] k1 (fun kq v29 w' => ∃ (x8_2 : List Bool) (x29_2 : Int), v29 = .int .i64 x29_2 ∧ Aside0 (tree_inName.l1 kq a1 x5_1 (rd t142 x19_1) x8_2 t142 (t142.length : Int) x19_1 (y147.length : Int) x29_2 = some r) ∧ Aside0 (kq ≤ k1) ∧ Aside0 (Kd.R Kd.bool 4 w' w.heap.size (fun k_ => some k_ ≠ ((.slice Ao23 y147.length co23) : Value).ownBlock) u5 x5_1) ∧ Aside0 (Kd.R Kd.bool 4 w' w.heap.size (fun k_ => some k_ ≠ (u5 : Value).ownBlock) (.slice Ao23 y147.length co23) x8_2) ∧ Aside0 (Kd.V (Kd.int .u8) 5 w' w.heap.size (fun k_ => some k_ ≠ (u5 : Value).ownBlock ∧ some k_ ≠ ((.slice Ao23 y147.length co23) : Value).ownBlock) (.slice (some ad146) t142.length co14) t142) ∧ Aside0 (Below w.heap.size w w'))
           case atStart => exact ⟨(y147), (0), (by first | rfl | (simp; done) | (simp [*]; done)), H', ⟨Nat.le_refl _⟩, ⟨by (with_reducible repeat (first | apply Kd.R_alloc | apply Kd.R_drewN | apply Kd.R_drew)); exact Kd.R_mono HO_5.out (fun _ hk => hk.2)⟩, ⟨by (with_reducible repeat (first | apply Kd.R_alloc | apply Kd.R_drewN | apply Kd.R_drew)); exact Kd.R_mono HO149.out (fun _ hk => hk.2)⟩, ⟨by (with_reducible repeat (first | apply Kd.V_alloc | apply Kd.V_drewN | apply Kd.V_drew)); exact HO_17.out⟩, ⟨by repeat (first | (with_reducible first | exact HB.out | apply below_alloc | apply pw_below_drewN | apply below_drew1) | exact HB.out)⟩⟩
           case round =>
            clear H'
            try clear c1
            try clear p1
            try clear q1
            try clear hx1
            try clear c2
            try clear p2
            try clear c4
            try clear c4b0
            try clear c4b1
            try clear c5
            try clear c5b0
            try clear c5b1
            try clear c6
            try clear c6b0
            try clear c6b1
            try clear p6
            try clear p7
            try clear q7
            try clear hx7
            try clear qi7
            try clear hf7
            try clear c14
            try clear p14
            try clear q14
            try clear hx14
            try clear c15
            try clear c15b0
            try clear c16
            try clear c16b0
            try clear c17
            try clear c17b0
            try clear c19
            try clear c19b0
            try clear c19b1
            try clear c20
            try clear c20b0
            try clear c20b1
            try clear hx146_0
            try clear hx7_0
            try clear p146
            try clear p2
            try clear p6
            try clear p7
            try clear q146
            try clear q7
            obtain ⟨x8_2, x29_2, rfl, HA, HK2, HO_5, HO_8, HO_17, HB⟩ := hrel
            have hl8_2 := (Kd.R_reads' HO_8.out).1
            rw [hl8_2] at HO_8
            (try simp only [hl8_2])
            (try simp only [hl8_2] at HO_5)
            (try simp only [hl8_2] at HO_17)
            cases gk with
            | zero => exact absurd HA.out (by simp [tree_inName.l1])
            | succ k2 =>
             have H := HA.out
             clear HA
             simp only [tree_inName.l1] at H
             by_cases c24 : x29_2 < (y147.length : Int)
             ·rw [if_pos c24] at H
              have c24b0 : decide (x29_2 < (y147.length : Int)) = true := decide_eq_true c24
              (try simp only [hl8_2] at c24b0)
              clear c24
              by_cases c25 : (rd t142 x19_1) = 42
              ·rw [if_pos c25] at H
               have c25b0 : ((rd t142 x19_1) == 42) = true := beq_iff_eq.mpr c25
               have c25b1 : ((rd t142 x19_1) != 42) = false := bne_eq_false_iff_eq.mpr c25
               clear c25
               by_cases c26 : 0 ≤ x29_2
               ·rw [if_pos c26] at H
                have c26b0 : decide (0 ≤ x29_2) = true := decide_eq_true c26
                clear c26
                by_cases c27 : x29_2 < (x5_1.length : Int)
                ·rw [if_pos c27] at H
                 have c27b0 : decide (x29_2 < (x5_1.length : Int)) = true := decide_eq_true c27
                 (try simp only [hl8_2] at c27b0)
                 clear c27
                 obtain ⟨bq28, hbq28⟩ : ∃ b_ : Bool, b_ = (rdOf false x5_1 x29_2) := ⟨_, rfl⟩
                 replace H : (if bq28 = true then (if x29_2 < (x8_2.length : Int) then (tree_inName.l1 k2 a1 x5_1 (rd t142 x19_1) (x8_2.set (x29_2 : Int).toNat true) t142 (t142.length : Int) x19_1 (y147.length : Int) (wrap64 (x29_2 + 1))) else (none)) else (if x29_2 > 0 then (if 0 ≤ (wrap64 (x29_2 - 1)) then (if (wrap64 (x29_2 - 1)) < (x8_2.length : Int) then (if x29_2 < (x8_2.length : Int) then (tree_inName.l1 k2 a1 x5_1 (rd t142 x19_1) (x8_2.set (x29_2 : Int).toNat (rdOf false x8_2 (wrap64 (x29_2 - 1)))) t142 (t142.length : Int) x19_1 (y147.length : Int) (wrap64 (x29_2 + 1))) else (none)) else (none)) else (none)) else (if x29_2 < (x8_2.length : Int) then (tree_inName.l1 k2 a1 x5_1 (rd t142 x19_1) (x8_2.set (x29_2 : Int).toNat false) t142 (t142.length : Int) x19_1 (y147.length : Int) (wrap64 (x29_2 + 1))) else (none)))) = some r := by rw [← hbq28] at H; exact H
                 have Nbq28 := Aside0.mk hbq28
                 clear hbq28
                 by_cases c29 : bq28 = true
                 ·subst c29
                  have H1 : (if x29_2 < (x8_2.length : Int) then (tree_inName.l1 k2 a1 x5_1 (rd t142 x19_1) (x8_2.set (x29_2 : Int).toNat true) t142 (t142.length : Int) x19_1 (y147.length : Int) (wrap64 (x29_2 + 1))) else (none)) = some r := by rw [if_pos rfl] at H; exact H
                  clear H
                  have H := H1
                  clear H1
                  by_cases c30 : x29_2 < (x8_2.length : Int)
                  ·rw [if_pos c30] at H
                   have c30b0 : decide (x29_2 < (x8_2.length : Int)) = true := decide_eq_true c30
                   (try simp only [hl8_2] at c30b0)
                   clear c30
                   obtain ⟨y151, hy151⟩ : ∃ y_ : List Bool, y_ = (x8_2.set (x29_2 : Int).toNat true) := ⟨_, rfl⟩
                   replace H : (tree_inName.l1 k2 a1 x5_1 (rd t142 x19_1) y151 t142 (t142.length : Int) x19_1 (y147.length : Int) (wrap64 (x29_2 + 1))) = some r := by first | (rw [hy151]; with_reducible exact H) | (have H2_ := (Option.bind_some _ _).symm.trans H; rw [hy151]; with_reducible exact H2_) | (have H2_ := (Option.bind_some _ _).symm.trans H; with_reducible exact H2_) | with_reducible exact H | (rw [hy151]; exact H) | exact H
                   have Ny151 := Aside0.mk hy151
                   clear hy151
                   have H' := Aside0.mk H
                   clear H
                   obtain ⟨Ao32, co32, eo32⟩ := Kd.R_slice HO_5.out
                   subst eo32
                   have p150 : 0 ≤ (x29_2 : Int) := of_decide_eq_true (by first | (with_reducible assumption) | assumption)
                   have q150 : x29_2 < (x5_1.length : Int) := of_decide_eq_true (by first | (with_reducible assumption) | assumption)
                   obtain ⟨ad150, e150, hx150_0⟩ := Kd.at_bool (Kd.R_reads' HO_5.out).2.2 x29_2 p150 q150
                   (try rw [← Nbq28.out] at hx150_0)
                   cases e150
                   replace p150 := eq_true p150
                   replace q150 := eq_true q150
                   have p31 : 0 ≤ (x29_2 : Int) := of_decide_eq_true (by first | (with_reducible assumption) | assumption)
                   have q31 : (x29_2 : Int) < ((x8_2.length : Int) : Int) := of_decide_eq_true (by first | (with_reducible assumption) | assumption)
                   obtain ⟨go31, co31, eo31, gb31, gl31, cl31, HG31⟩ := Kd.R_form HO_8.out (by omega)
                   (first | cases eo31 | (injection eo31 with ea_ en_ ec_; (first | subst ea_ | (injection ea_ with ea_; subst ea_)); subst ec_; clear en_))
                   have GB31 := Aside0.mk gb31
                   have GG31 := Aside0.mk HG31
                   clear gb31 gl31 HG31
                   obtain ⟨hx31_0, hf31_0⟩ := Kd.R_celln false HO_8.out (x29_2 : Int) p31 q31
                   replace p31 := eq_true p31
                   replace q31 := eq_true q31
                   have HP33 := Kd.R_putg HO_8.out (x29_2 : Int) true
                   go_wp2_with (first | ((with_reducible refine gate_store (t := 4) (p := 52) rfl ?_); refine store_event (t := 4) (p := 52) (v := ?vo_w34) (w1 := (wr.setCell ⟨go31, (x29_2 : Int).toNat, none⟩ (.bool true))) ?hg ?ho ?hn ?hr ?_; (case ho => rfl); (case hg => rfl); (case hn => rfl); (case hr => first | (go_simp; done) | (go_simp; rfl)); intro w34 hw; have hg : wr.grownBy w34 (some go31) := (by rw [hw]; exact HP33.2); have hp_ : Kd.R Kd.bool 4 w34 w.heap.size (fun k_ => some k_ ≠ (.slice (some ad150) x5_1.length co32 : Value).ownBlock) (.slice (some ⟨go31, 0, none⟩) x8_2.length co23) y151 := (by rw [hw, Ny151.out]; exact HP33.1); clear HP33; have n0_ := Aside0.mk (Kd.R_after (v := (.slice (some ⟨go31, 0, none⟩) x8_2.length co23)) (v1 := (.slice (some ⟨go31, 0, none⟩) x8_2.length co23)) (ok := (fun _ => True)) (by (with_reducible repeat (first | apply Kd.R_alloc | apply Kd.R_drewN | apply Kd.R_drew)); exact Kd.R_mono HO_5.out (fun _ hk => ⟨trivial, hk⟩)) hg (.inl rfl)); have n1_ := Aside0.mk (hp_); have n2_ := Aside0.mk (Kd.V_afterv (v := (.slice (some ⟨go31, 0, none⟩) x8_2.length co23)) (v1 := (.slice (some ⟨go31, 0, none⟩) x8_2.length co23)) (ok := (fun k_ => some k_ ≠ (.slice (some ad150) x5_1.length co32 : Value).ownBlock)) (by (with_reducible repeat (first | apply Kd.V_alloc | apply Kd.V_drewN | apply Kd.V_drew)); exact HO_17.out) hg (.inl rfl)); have n3_ := Aside0.mk ((by rw [hw]; exact below_set (HB.out) GB31.out : Below w.heap.size w w34)); clear HO_5; clear HO_8; clear HO_17; clear HB; have HO_5 := n0_; have HO_8 := n1_; have HO_17 := n2_; have HB := n3_; clear n0_ n1_ n2_ n3_; clear hg hw hp_))
                   (try simp only [← hl8_2])
                   go_roundg k2
                   case measure => have := HK1.out; have := HK2.out; omega
                   case rel => exact ⟨(y151), (wrap64 (x29_2 + 1)), (by first | rfl | (simp; done) | (simp [*]; done)), H', ⟨by have := HK1.out; have := HK2.out; omega⟩, ⟨by (try simp only [hl8_2]); (with_reducible repeat (first | apply Kd.R_alloc | apply Kd.R_drewN | apply Kd.R_drew)); exact Kd.R_mono HO_5.out (fun _ hk => hk.2)⟩, ⟨by (try simp only [hl8_2]); (with_reducible repeat (first | apply Kd.R_alloc | apply Kd.R_drewN | apply Kd.R_drew)); exact HO_8.out⟩, ⟨by (try simp only [hl8_2]); (with_reducible repeat (first | apply Kd.V_alloc | apply Kd.V_drewN | apply Kd.V_drew)); exact HO_17.out⟩, ⟨by repeat (first | (with_reducible first | exact HB.out | apply below_alloc | apply pw_below_drewN | apply below_drew1) | exact HB.out)⟩⟩
                  ·rw [if_neg c30] at H
                   exact absurd H (by simp)
                 ·replace c29 := Bool.eq_false_iff.mpr c29
                  subst c29
                  have H1 : (if x29_2 > 0 then (if 0 ≤ (wrap64 (x29_2 - 1)) then (if (wrap64 (x29_2 - 1)) < (x8_2.length : Int) then (if x29_2 < (x8_2.length : Int) then (tree_inName.l1 k2 a1 x5_1 (rd t142 x19_1) (x8_2.set (x29_2 : Int).toNat (rdOf false x8_2 (wrap64 (x29_2 - 1)))) t142 (t142.length : Int) x19_1 (y147.length : Int) (wrap64 (x29_2 + 1))) else (none)) else (none)) else (none)) else (if x29_2 < (x8_2.length : Int) then (tree_inName.l1 k2 a1 x5_1 (rd t142 x19_1) (x8_2.set (x29_2 : Int).toNat false) t142 (t142.length : Int) x19_1 (y147.length : Int) (wrap64 (x29_2 + 1))) else (none))) = some r := by rw [if_neg (show ¬ (false = true) by decide)] at H; exact H
                  clear H
                  have H := H1
                  clear H1
                  by_cases c35 : x29_2 > 0
                  ·rw [if_pos c35] at H
                   have c35b0 : decide (0 < x29_2) = true := decide_eq_true c35
                   clear c35
                   obtain ⟨ji36, hji36⟩ : ∃ j_ : Int, (wrap64 (x29_2 - 1)) = j_ := ⟨_, rfl⟩
                   replace H : (if 0 ≤ (ji36) then (if (ji36) < (x8_2.length : Int) then (if x29_2 < (x8_2.length : Int) then (tree_inName.l1 k2 a1 x5_1 (rd t142 x19_1) (x8_2.set (x29_2 : Int).toNat (rdOf false x8_2 (ji36))) t142 (t142.length : Int) x19_1 (y147.length : Int) (wrap64 (x29_2 + 1))) else (none)) else (none)) else (none)) = some r := by first | (rw [hji36] at H; exact H) | (simp only [hji36] at H ⊢; exact H)
                   have hji36w : (IntKind.i64.wrap (x29_2 - 1)) = ji36 := (i64_w _).trans hji36
                   by_cases c37 : 0 ≤ (ji36)
                   ·rw [if_pos c37] at H
                    have c37b0 : decide (0 ≤ (ji36)) = true := decide_eq_true c37
                    clear c37
                    by_cases c38 : (ji36) < (x8_2.length : Int)
                    ·rw [if_pos c38] at H
                     have c38b0 : decide ((ji36) < (x8_2.length : Int)) = true := decide_eq_true c38
                     (try simp only [hl8_2] at c38b0)
                     clear c38
                     by_cases c39 : x29_2 < (x8_2.length : Int)
                     ·rw [if_pos c39] at H
                      have c39b0 : decide (x29_2 < (x8_2.length : Int)) = true := decide_eq_true c39
                      (try simp only [hl8_2] at c39b0)
                      clear c39
                      obtain ⟨y153, hy153⟩ : ∃ y_ : List Bool, y_ = (x8_2.set (x29_2 : Int).toNat (rdOf false x8_2 (ji36))) := ⟨_, rfl⟩
                      replace H : (tree_inName.l1 k2 a1 x5_1 (rd t142 x19_1) y153 t142 (t142.length : Int) x19_1 (y147.length : Int) (wrap64 (x29_2 + 1))) = some r := by first | (rw [hy153]; with_reducible exact H) | (have H2_ := (Option.bind_some _ _).symm.trans H; rw [hy153]; with_reducible exact H2_) | (have H2_ := (Option.bind_some _ _).symm.trans H; with_reducible exact H2_) | with_reducible exact H | (rw [hy153]; exact H) | exact H
                      have Ny153 := Aside0.mk hy153
                      clear hy153
                      have H' := Aside0.mk H
                      clear H
                      obtain ⟨Ao41, co41, eo41⟩ := Kd.R_slice HO_5.out
                      subst eo41
                      have p150 : 0 ≤ (x29_2 : Int) := of_decide_eq_true (by first | (with_reducible assumption) | assumption)
                      have q150 : x29_2 < (x5_1.length : Int) := of_decide_eq_true (by first | (with_reducible assumption) | assumption)
                      obtain ⟨ad150, e150, hx150_0⟩ := Kd.at_bool (Kd.R_reads' HO_5.out).2.2 x29_2 p150 q150
                      (try rw [← Nbq28.out] at hx150_0)
                      cases e150
                      replace p150 := eq_true p150
                      replace q150 := eq_true q150
                      have p152 : 0 ≤ ((ji36) : Int) := of_decide_eq_true (by first | (with_reducible assumption) | assumption)
                      have q152 : (ji36) < (x8_2.length : Int) := of_decide_eq_true (by first | (with_reducible assumption) | assumption)
                      obtain ⟨ad152, e152, hx152_0⟩ := Kd.at_bool (Kd.R_reads' HO_8.out).2.2 (ji36) p152 q152
                      (try rw [← Nbq28.out] at hx152_0)
                      cases e152
                      replace p152 := eq_true p152
                      replace q152 := eq_true q152
                      have p40 : 0 ≤ (x29_2 : Int) := of_decide_eq_true (by first | (with_reducible assumption) | assumption)
                      have q40 : (x29_2 : Int) < ((x8_2.length : Int) : Int) := of_decide_eq_true (by first | (with_reducible assumption) | assumption)
                      obtain ⟨go40, co40, eo40, gb40, gl40, cl40, HG40⟩ := Kd.R_form HO_8.out (by omega)
                      (first | cases eo40 | (injection eo40 with ea_ en_ ec_; (first | subst ea_ | (injection ea_ with ea_; subst ea_)); subst ec_; clear en_))
                      have GB40 := Aside0.mk gb40
                      have GG40 := Aside0.mk HG40
                      clear gb40 gl40 HG40
                      (first | simp only [add_plain] at hx152_0 | skip)
                      obtain ⟨hx40_0, hf40_0⟩ := Kd.R_celln false HO_8.out (x29_2 : Int) p40 q40
                      replace p40 := eq_true p40
                      replace q40 := eq_true q40
                      have HP42 := Kd.R_putg HO_8.out (x29_2 : Int) (rdOf false x8_2 (ji36))
                      go_wp2_with (first | ((with_reducible refine gate_store (t := 4) (p := 52) rfl ?_); refine store_event (t := 4) (p := 52) (v := ?vo_w43) (w1 := (wr.setCell ⟨go40, (x29_2 : Int).toNat, none⟩ (.bool (rdOf false x8_2 (ji36))))) ?hg ?ho ?hn ?hr ?_; (case ho => rfl); (case hg => rfl); (case hn => rfl); (case hr => first | (go_simp; done) | (go_simp; rfl)); intro w43 hw; have hg : wr.grownBy w43 (some go40) := (by rw [hw]; exact HP42.2); have hp_ : Kd.R Kd.bool 4 w43 w.heap.size (fun k_ => some k_ ≠ (.slice (some ad150) x5_1.length co41 : Value).ownBlock) (.slice (some ⟨go40, 0, none⟩) x8_2.length co23) y153 := (by rw [hw, Ny153.out]; exact HP42.1); clear HP42; have n0_ := Aside0.mk (Kd.R_after (v := (.slice (some ⟨go40, 0, none⟩) x8_2.length co23)) (v1 := (.slice (some ⟨go40, 0, none⟩) x8_2.length co23)) (ok := (fun _ => True)) (by (with_reducible repeat (first | apply Kd.R_alloc | apply Kd.R_drewN | apply Kd.R_drew)); exact Kd.R_mono HO_5.out (fun _ hk => ⟨trivial, hk⟩)) hg (.inl rfl)); have n1_ := Aside0.mk (hp_); have n2_ := Aside0.mk (Kd.V_afterv (v := (.slice (some ⟨go40, 0, none⟩) x8_2.length co23)) (v1 := (.slice (some ⟨go40, 0, none⟩) x8_2.length co23)) (ok := (fun k_ => some k_ ≠ (.slice (some ad150) x5_1.length co41 : Value).ownBlock)) (by (with_reducible repeat (first | apply Kd.V_alloc | apply Kd.V_drewN | apply Kd.V_drew)); exact HO_17.out) hg (.inl rfl)); have n3_ := Aside0.mk ((by rw [hw]; exact below_set (HB.out) GB40.out : Below w.heap.size w w43)); clear HO_5; clear HO_8; clear HO_17; clear HB; have HO_5 := n0_; have HO_8 := n1_; have HO_17 := n2_; have HB := n3_; clear n0_ n1_ n2_ n3_; clear hg hw hp_))
                      (try simp only [← hl8_2])
                      go_roundg k2
                      case measure => have := HK1.out; have := HK2.out; omega
                      case rel => exact ⟨(y153), (wrap64 (x29_2 + 1)), (by first | rfl | (simp; done) | (simp [*]; done)), H', ⟨by have := HK1.out; have := HK2.out; omega⟩, ⟨by (try simp only [hl8_2]); (with_reducible repeat (first | apply Kd.R_alloc | apply Kd.R_drewN | apply Kd.R_drew)); exact Kd.R_mono HO_5.out (fun _ hk => hk.2)⟩, ⟨by (try simp only [hl8_2]); (with_reducible repeat (first | apply Kd.R_alloc | apply Kd.R_drewN | apply Kd.R_drew)); exact HO_8.out⟩, ⟨by (try simp only [hl8_2]); (with_reducible repeat (first | apply Kd.V_alloc | apply Kd.V_drewN | apply Kd.V_drew)); exact HO_17.out⟩, ⟨by repeat (first | (with_reducible first | exact HB.out | apply below_alloc | apply pw_below_drewN | apply below_drew1) | exact HB.out)⟩⟩
                     ·rw [if_neg c39] at H
                      exact absurd H (by simp)
                    ·rw [if_neg c38] at H
                     exact absurd H (by simp)
                   ·rw [if_neg c37] at H
                    exact absurd H (by simp)
                  ·rw [if_neg c35] at H
                   have c35b0 : decide (0 < x29_2) = false := decide_eq_false c35
                   clear c35
                   by_cases c44 : x29_2 < (x8_2.length : Int)
                   ·rw [if_pos c44] at H
                    have c44b0 : decide (x29_2 < (x8_2.length : Int)) = true := decide_eq_true c44
                    (try simp only [hl8_2] at c44b0)
                    clear c44
                    obtain ⟨y154, hy154⟩ : ∃ y_ : List Bool, y_ = (x8_2.set (x29_2 : Int).toNat false) := ⟨_, rfl⟩
                    replace H : (tree_inName.l1 k2 a1 x5_1 (rd t142 x19_1) y154 t142 (t142.length : Int) x19_1 (y147.length : Int) (wrap64 (x29_2 + 1))) = some r := by first | (rw [hy154]; with_reducible exact H) | (have H2_ := (Option.bind_some _ _).symm.trans H; rw [hy154]; with_reducible exact H2_) | (have H2_ := (Option.bind_some _ _).symm.trans H; with_reducible exact H2_) | with_reducible exact H | (rw [hy154]; exact H) | exact H
                    have Ny154 := Aside0.mk hy154
                    clear hy154
                    have H' := Aside0.mk H
                    clear H
                    obtain ⟨Ao46, co46, eo46⟩ := Kd.R_slice HO_5.out
                    subst eo46
                    have p150 : 0 ≤ (x29_2 : Int) := of_decide_eq_true (by first | (with_reducible assumption) | assumption)
                    have q150 : x29_2 < (x5_1.length : Int) := of_decide_eq_true (by first | (with_reducible assumption) | assumption)
                    obtain ⟨ad150, e150, hx150_0⟩ := Kd.at_bool (Kd.R_reads' HO_5.out).2.2 x29_2 p150 q150
                    (try rw [← Nbq28.out] at hx150_0)
                    cases e150
                    replace p150 := eq_true p150
                    replace q150 := eq_true q150
                    have p45 : 0 ≤ (x29_2 : Int) := of_decide_eq_true (by first | (with_reducible assumption) | assumption)
                    have q45 : (x29_2 : Int) < ((x8_2.length : Int) : Int) := of_decide_eq_true (by first | (with_reducible assumption) | assumption)
                    obtain ⟨go45, co45, eo45, gb45, gl45, cl45, HG45⟩ := Kd.R_form HO_8.out (by omega)
                    (first | cases eo45 | (injection eo45 with ea_ en_ ec_; (first | subst ea_ | (injection ea_ with ea_; subst ea_)); subst ec_; clear en_))
                    have GB45 := Aside0.mk gb45
                    have GG45 := Aside0.mk HG45
                    clear gb45 gl45 HG45
                    obtain ⟨hx45_0, hf45_0⟩ := Kd.R_celln false HO_8.out (x29_2 : Int) p45 q45
                    replace p45 := eq_true p45
                    replace q45 := eq_true q45
                    have HP47 := Kd.R_putg HO_8.out (x29_2 : Int) false
                    go_wp2_with (first | ((with_reducible refine gate_store (t := 4) (p := 52) rfl ?_); refine store_event (t := 4) (p := 52) (v := ?vo_w48) (w1 := (wr.setCell ⟨go45, (x29_2 : Int).toNat, none⟩ (.bool false))) ?hg ?ho ?hn ?hr ?_; (case ho => rfl); (case hg => rfl); (case hn => rfl); (case hr => first | (go_simp; done) | (go_simp; rfl)); intro w48 hw; have hg : wr.grownBy w48 (some go45) := (by rw [hw]; exact HP47.2); have hp_ : Kd.R Kd.bool 4 w48 w.heap.size (fun k_ => some k_ ≠ (.slice (some ad150) x5_1.length co46 : Value).ownBlock) (.slice (some ⟨go45, 0, none⟩) x8_2.length co23) y154 := (by rw [hw, Ny154.out]; exact HP47.1); clear HP47; have n0_ := Aside0.mk (Kd.R_after (v := (.slice (some ⟨go45, 0, none⟩) x8_2.length co23)) (v1 := (.slice (some ⟨go45, 0, none⟩) x8_2.length co23)) (ok := (fun _ => True)) (by (with_reducible repeat (first | apply Kd.R_alloc | apply Kd.R_drewN | apply Kd.R_drew)); exact Kd.R_mono HO_5.out (fun _ hk => ⟨trivial, hk⟩)) hg (.inl rfl)); have n1_ := Aside0.mk (hp_); have n2_ := Aside0.mk (Kd.V_afterv (v := (.slice (some ⟨go45, 0, none⟩) x8_2.length co23)) (v1 := (.slice (some ⟨go45, 0, none⟩) x8_2.length co23)) (ok := (fun k_ => some k_ ≠ (.slice (some ad150) x5_1.length co46 : Value).ownBlock)) (by (with_reducible repeat (first | apply Kd.V_alloc | apply Kd.V_drewN | apply Kd.V_drew)); exact HO_17.out) hg (.inl rfl)); have n3_ := Aside0.mk ((by rw [hw]; exact below_set (HB.out) GB45.out : Below w.heap.size w w48)); clear HO_5; clear HO_8; clear HO_17; clear HB; have HO_5 := n0_; have HO_8 := n1_; have HO_17 := n2_; have HB := n3_; clear n0_ n1_ n2_ n3_; clear hg hw hp_))
                    (try simp only [← hl8_2])
                    go_roundg k2
                    case measure => have := HK1.out; have := HK2.out; omega
                    case rel => exact ⟨(y154), (wrap64 (x29_2 + 1)), (by first | rfl | (simp; done) | (simp [*]; done)), H', ⟨by have := HK1.out; have := HK2.out; omega⟩, ⟨by (try simp only [hl8_2]); (with_reducible repeat (first | apply Kd.R_alloc | apply Kd.R_drewN | apply Kd.R_drew)); exact Kd.R_mono HO_5.out (fun _ hk => hk.2)⟩, ⟨by (try simp only [hl8_2]); (with_reducible repeat (first | apply Kd.R_alloc | apply Kd.R_drewN | apply Kd.R_drew)); exact HO_8.out⟩, ⟨by (try simp only [hl8_2]); (with_reducible repeat (first | apply Kd.V_alloc | apply Kd.V_drewN | apply Kd.V_drew)); exact HO_17.out⟩, ⟨by repeat (first | (with_reducible first | exact HB.out | apply below_alloc | apply pw_below_drewN | apply below_drew1) | exact HB.out)⟩⟩
                   ·rw [if_neg c44] at H
                    exact absurd H (by simp)
                ·rw [if_neg c27] at H
                 exact absurd H (by simp)
               ·rw [if_neg c26] at H
                exact absurd H (by simp)
              ·rw [if_neg c25] at H
               have c25b0 : ((rd t142 x19_1) == 42) = false := beq_eq_false_iff_ne.mpr c25
               have c25b1 : ((rd t142 x19_1) != 42) = true := bne_iff_ne.mpr c25
               by_cases c49 : x29_2 > 0
               ·rw [if_pos c49] at H
                have c49b0 : decide (0 < x29_2) = true := decide_eq_true c49
                clear c49
                obtain ⟨ji50, hji50⟩ : ∃ j_ : Int, (wrap64 (x29_2 - 1)) = j_ := ⟨_, rfl⟩
                replace H : (if 0 ≤ (ji50) then (if (ji50) < (x5_1.length : Int) then (if rdOf false x5_1 (ji50) = true then (if (rd t142 x19_1) = 63 then (if 0 ≤ x29_2 then (if x29_2 < (x8_2.length : Int) then (tree_inName.l1 k2 a1 x5_1 (rd t142 x19_1) (x8_2.set (x29_2 : Int).toNat true) t142 (t142.length : Int) x19_1 (y147.length : Int) (wrap64 (x29_2 + 1))) else (none)) else (none)) else (if (ji50) < (a1.size : Int) then (if 0 ≤ x29_2 then (if x29_2 < (x8_2.length : Int) then (tree_inName.l1 k2 a1 x5_1 (rd t142 x19_1) (x8_2.set (x29_2 : Int).toNat ((rd t142 x19_1) == (bt a1 (ji50)))) t142 (t142.length : Int) x19_1 (y147.length : Int) (wrap64 (x29_2 + 1))) else (none)) else (none)) else (none))) else (if 0 ≤ x29_2 then (if x29_2 < (x8_2.length : Int) then (tree_inName.l1 k2 a1 x5_1 (rd t142 x19_1) (x8_2.set (x29_2 : Int).toNat false) t142 (t142.length : Int) x19_1 (y147.length : Int) (wrap64 (x29_2 + 1))) else (none)) else (none))) else (none)) else (none)) = some r := by first | (rw [hji50] at H; exact H) | (simp only [hji50] at H ⊢; exact H)
                have hji50w : (IntKind.i64.wrap (x29_2 - 1)) = ji50 := (i64_w _).trans hji50
                by_cases c51 : 0 ≤ (ji50)
                ·rw [if_pos c51] at H
                 have c51b0 : decide (0 ≤ (ji50)) = true := decide_eq_true c51
                 clear c51
                 by_cases c52 : (ji50) < (x5_1.length : Int)
                 ·rw [if_pos c52] at H
                  have c52b0 : decide ((ji50) < (x5_1.length : Int)) = true := decide_eq_true c52
                  (try simp only [hl8_2] at c52b0)
                  clear c52
                  obtain ⟨bq53, hbq53⟩ : ∃ b_ : Bool, b_ = (rdOf false x5_1 (ji50)) := ⟨_, rfl⟩
                  replace H : (if bq53 = true then (if (rd t142 x19_1) = 63 then (if 0 ≤ x29_2 then (if x29_2 < (x8_2.length : Int) then (tree_inName.l1 k2 a1 x5_1 (rd t142 x19_1) (x8_2.set (x29_2 : Int).toNat true) t142 (t142.length : Int) x19_1 (y147.length : Int) (wrap64 (x29_2 + 1))) else (none)) else (none)) else (if (ji50) < (a1.size : Int) then (if 0 ≤ x29_2 then (if x29_2 < (x8_2.length : Int) then (tree_inName.l1 k2 a1 x5_1 (rd t142 x19_1) (x8_2.set (x29_2 : Int).toNat ((rd t142 x19_1) == (bt a1 (ji50)))) t142 (t142.length : Int) x19_1 (y147.length : Int) (wrap64 (x29_2 + 1))) else (none)) else (none)) else (none))) else (if 0 ≤ x29_2 then (if x29_2 < (x8_2.length : Int) then (tree_inName.l1 k2 a1 x5_1 (rd t142 x19_1) (x8_2.set (x29_2 : Int).toNat false) t142 (t142.length : Int) x19_1 (y147.length : Int) (wrap64 (x29_2 + 1))) else (none)) else (none))) = some r := by rw [← hbq53] at H; exact H
                  have Nbq53 := Aside0.mk hbq53
                  clear hbq53
                  by_cases c54 : bq53 = true
                  ·subst c54
                   have H1 : (if (rd t142 x19_1) = 63 then (if 0 ≤ x29_2 then (if x29_2 < (x8_2.length : Int) then (tree_inName.l1 k2 a1 x5_1 (rd t142 x19_1) (x8_2.set (x29_2 : Int).toNat true) t142 (t142.length : Int) x19_1 (y147.length : Int) (wrap64 (x29_2 + 1))) else (none)) else (none)) else (if (ji50) < (a1.size : Int) then (if 0 ≤ x29_2 then (if x29_2 < (x8_2.length : Int) then (tree_inName.l1 k2 a1 x5_1 (rd t142 x19_1) (x8_2.set (x29_2 : Int).toNat ((rd t142 x19_1) == (bt a1 (ji50)))) t142 (t142.length : Int) x19_1 (y147.length : Int) (wrap64 (x29_2 + 1))) else (none)) else (none)) else (none))) = some r := by rw [if_pos rfl] at H; exact H
                   clear H
                   have H := H1
                   clear H1
                   by_cases c55 : (rd t142 x19_1) = 63
                   ·rw [if_pos c55] at H
                    have c55b0 : ((rd t142 x19_1) == 63) = true := beq_iff_eq.mpr c55
                    have c55b1 : ((rd t142 x19_1) != 63) = false := bne_eq_false_iff_eq.mpr c55
                    clear c55
                    by_cases c56 : 0 ≤ x29_2
                    ·rw [if_pos c56] at H
                     have c56b0 : decide (0 ≤ x29_2) = true := decide_eq_true c56
                     clear c56
                     by_cases c57 : x29_2 < (x8_2.length : Int)
                     ·rw [if_pos c57] at H
                      have c57b0 : decide (x29_2 < (x8_2.length : Int)) = true := decide_eq_true c57
                      (try simp only [hl8_2] at c57b0)
                      clear c57
                      obtain ⟨y156, hy156⟩ : ∃ y_ : List Bool, y_ = (x8_2.set (x29_2 : Int).toNat true) := ⟨_, rfl⟩
                      replace H : (tree_inName.l1 k2 a1 x5_1 (rd t142 x19_1) y156 t142 (t142.length : Int) x19_1 (y147.length : Int) (wrap64 (x29_2 + 1))) = some r := by first | (rw [hy156]; with_reducible exact H) | (have H2_ := (Option.bind_some _ _).symm.trans H; rw [hy156]; with_reducible exact H2_) | (have H2_ := (Option.bind_some _ _).symm.trans H; with_reducible exact H2_) | with_reducible exact H | (rw [hy156]; exact H) | exact H
                      have Ny156 := Aside0.mk hy156
                      clear hy156
                      have H' := Aside0.mk H
                      clear H
                      obtain ⟨Ao59, co59, eo59⟩ := Kd.R_slice HO_5.out
                      subst eo59
                      have p155 : 0 ≤ ((ji50) : Int) := of_decide_eq_true (by first | (with_reducible assumption) | assumption)
                      have q155 : (ji50) < (x5_1.length : Int) := of_decide_eq_true (by first | (with_reducible assumption) | assumption)
                      obtain ⟨ad155, e155, hx155_0⟩ := Kd.at_bool (Kd.R_reads' HO_5.out).2.2 (ji50) p155 q155
                      (try rw [← Nbq53.out] at hx155_0)
                      cases e155
                      replace p155 := eq_true p155
                      replace q155 := eq_true q155
                      have p58 : 0 ≤ (x29_2 : Int) := of_decide_eq_true (by first | (with_reducible assumption) | assumption)
                      have q58 : (x29_2 : Int) < ((x8_2.length : Int) : Int) := of_decide_eq_true (by first | (with_reducible assumption) | assumption)
                      obtain ⟨go58, co58, eo58, gb58, gl58, cl58, HG58⟩ := Kd.R_form HO_8.out (by omega)
                      (first | cases eo58 | (injection eo58 with ea_ en_ ec_; (first | subst ea_ | (injection ea_ with ea_; subst ea_)); subst ec_; clear en_))
                      have GB58 := Aside0.mk gb58
                      have GG58 := Aside0.mk HG58
                      clear gb58 gl58 HG58
                      obtain ⟨hx58_0, hf58_0⟩ := Kd.R_celln false HO_8.out (x29_2 : Int) p58 q58
                      replace p58 := eq_true p58
                      replace q58 := eq_true q58
                      have HP60 := Kd.R_putg HO_8.out (x29_2 : Int) true
                      go_wp2_with (first | ((with_reducible refine gate_store (t := 4) (p := 75) rfl ?_); refine store_event (t := 4) (p := 75) (v := ?vo_w61) (w1 := (wr.setCell ⟨go58, (x29_2 : Int).toNat, none⟩ (.bool true))) ?hg ?ho ?hn ?hr ?_; (case ho => rfl); (case hg => rfl); (case hn => rfl); (case hr => first | (go_simp; done) | (go_simp; rfl)); intro w61 hw; have hg : wr.grownBy w61 (some go58) := (by rw [hw]; exact HP60.2); have hp_ : Kd.R Kd.bool 4 w61 w.heap.size (fun k_ => some k_ ≠ (.slice (some ad155) x5_1.length co59 : Value).ownBlock) (.slice (some ⟨go58, 0, none⟩) x8_2.length co23) y156 := (by rw [hw, Ny156.out]; exact HP60.1); clear HP60; have n0_ := Aside0.mk (Kd.R_after (v := (.slice (some ⟨go58, 0, none⟩) x8_2.length co23)) (v1 := (.slice (some ⟨go58, 0, none⟩) x8_2.length co23)) (ok := (fun _ => True)) (by (with_reducible repeat (first | apply Kd.R_alloc | apply Kd.R_drewN | apply Kd.R_drew)); exact Kd.R_mono HO_5.out (fun _ hk => ⟨trivial, hk⟩)) hg (.inl rfl)); have n1_ := Aside0.mk (hp_); have n2_ := Aside0.mk (Kd.V_afterv (v := (.slice (some ⟨go58, 0, none⟩) x8_2.length co23)) (v1 := (.slice (some ⟨go58, 0, none⟩) x8_2.length co23)) (ok := (fun k_ => some k_ ≠ (.slice (some ad155) x5_1.length co59 : Value).ownBlock)) (by (with_reducible repeat (first | apply Kd.V_alloc | apply Kd.V_drewN | apply Kd.V_drew)); exact HO_17.out) hg (.inl rfl)); have n3_ := Aside0.mk ((by rw [hw]; exact below_set (HB.out) GB58.out : Below w.heap.size w w61)); clear HO_5; clear HO_8; clear HO_17; clear HB; have HO_5 := n0_; have HO_8 := n1_; have HO_17 := n2_; have HB := n3_; clear n0_ n1_ n2_ n3_; clear hg hw hp_))
                      (try simp only [← hl8_2])
                      go_roundg k2
                      case measure => have := HK1.out; have := HK2.out; omega
                      case rel => exact ⟨(y156), (wrap64 (x29_2 + 1)), (by first | rfl | (simp; done) | (simp [*]; done)), H', ⟨by have := HK1.out; have := HK2.out; omega⟩, ⟨by (try simp only [hl8_2]); (with_reducible repeat (first | apply Kd.R_alloc | apply Kd.R_drewN | apply Kd.R_drew)); exact Kd.R_mono HO_5.out (fun _ hk => hk.2)⟩, ⟨by (try simp only [hl8_2]); (with_reducible repeat (first | apply Kd.R_alloc | apply Kd.R_drewN | apply Kd.R_drew)); exact HO_8.out⟩, ⟨by (try simp only [hl8_2]); (with_reducible repeat (first | apply Kd.V_alloc | apply Kd.V_drewN | apply Kd.V_drew)); exact HO_17.out⟩, ⟨by repeat (first | (with_reducible first | exact HB.out | apply below_alloc | apply pw_below_drewN | apply below_drew1) | exact HB.out)⟩⟩
                     ·rw [if_neg c57] at H
                      exact absurd H (by simp)
                    ·rw [if_neg c56] at H
                     exact absurd H (by simp)
                   ·rw [if_neg c55] at H
                    have c55b0 : ((rd t142 x19_1) == 63) = false := beq_eq_false_iff_ne.mpr c55
                    have c55b1 : ((rd t142 x19_1) != 63) = true := bne_iff_ne.mpr c55
                    by_cases c62 : (ji50) < (a1.size : Int)
                    ·rw [if_pos c62] at H
                     have c62b0 : decide ((ji50) < (a1.size : Int)) = true := decide_eq_true c62
                     clear c62
                     by_cases c64 : 0 ≤ x29_2
                     ·rw [if_pos c64] at H
                      have c64b0 : decide (0 ≤ x29_2) = true := decide_eq_true c64
                      clear c64
                      by_cases c65 : x29_2 < (x8_2.length : Int)
                      ·rw [if_pos c65] at H
                       have c65b0 : decide (x29_2 < (x8_2.length : Int)) = true := decide_eq_true c65
                       (try simp only [hl8_2] at c65b0)
                       clear c65
                       obtain ⟨y157, hy157⟩ : ∃ y_ : List Bool, y_ = (x8_2.set (x29_2 : Int).toNat ((rd t142 x19_1) == (bt a1 (ji50)))) := ⟨_, rfl⟩
                       replace H : (tree_inName.l1 k2 a1 x5_1 (rd t142 x19_1) y157 t142 (t142.length : Int) x19_1 (y147.length : Int) (wrap64 (x29_2 + 1))) = some r := by first | (rw [hy157]; with_reducible exact H) | (have H2_ := (Option.bind_some _ _).symm.trans H; rw [hy157]; with_reducible exact H2_) | (have H2_ := (Option.bind_some _ _).symm.trans H; with_reducible exact H2_) | with_reducible exact H | (rw [hy157]; exact H) | exact H
                       have Ny157 := Aside0.mk hy157
                       clear hy157
                       have H' := Aside0.mk H
                       clear H
                       obtain ⟨Ao67, co67, eo67⟩ := Kd.R_slice HO_5.out
                       subst eo67
                       have p155 : 0 ≤ ((ji50) : Int) := of_decide_eq_true (by first | (with_reducible assumption) | assumption)
                       have q155 : (ji50) < (x5_1.length : Int) := of_decide_eq_true (by first | (with_reducible assumption) | assumption)
                       obtain ⟨ad155, e155, hx155_0⟩ := Kd.at_bool (Kd.R_reads' HO_5.out).2.2 (ji50) p155 q155
                       (try rw [← Nbq53.out] at hx155_0)
                       cases e155
                       replace p155 := eq_true p155
                       replace q155 := eq_true q155
                       have p63 : 0 ≤ ((ji50) : Int) := of_decide_eq_true (by first | (with_reducible assumption) | assumption)
                       have q63 : (ji50) < (a1.size : Int) := of_decide_eq_true (by first | (with_reducible assumption) | assumption)
                       have hx63 := bt_at a1 (ji50)
                       replace p63 := eq_true p63
                       replace q63 := eq_true q63
                       have p66 : 0 ≤ (x29_2 : Int) := of_decide_eq_true (by first | (with_reducible assumption) | assumption)
                       have q66 : (x29_2 : Int) < ((x8_2.length : Int) : Int) := of_decide_eq_true (by first | (with_reducible assumption) | assumption)
                       obtain ⟨go66, co66, eo66, gb66, gl66, cl66, HG66⟩ := Kd.R_form HO_8.out (by omega)
                       (first | cases eo66 | (injection eo66 with ea_ en_ ec_; (first | subst ea_ | (injection ea_ with ea_; subst ea_)); subst ec_; clear en_))
                       have GB66 := Aside0.mk gb66
                       have GG66 := Aside0.mk HG66
                       clear gb66 gl66 HG66
                       obtain ⟨hx66_0, hf66_0⟩ := Kd.R_celln false HO_8.out (x29_2 : Int) p66 q66
                       replace p66 := eq_true p66
                       replace q66 := eq_true q66
                       have HP68 := Kd.R_putg HO_8.out (x29_2 : Int) ((rd t142 x19_1) == (bt a1 (ji50)))
                       go_wp2_with (first | ((with_reducible refine gate_store (t := 4) (p := 75) rfl ?_); refine store_event (t := 4) (p := 75) (v := ?vo_w69) (w1 := (wr.setCell ⟨go66, (x29_2 : Int).toNat, none⟩ (.bool ((rd t142 x19_1) == (bt a1 (ji50)))))) ?hg ?ho ?hn ?hr ?_; (case ho => rfl); (case hg => rfl); (case hn => rfl); (case hr => first | (go_simp; done) | (go_simp; rfl)); intro w69 hw; have hg : wr.grownBy w69 (some go66) := (by rw [hw]; exact HP68.2); have hp_ : Kd.R Kd.bool 4 w69 w.heap.size (fun k_ => some k_ ≠ (.slice (some ad155) x5_1.length co67 : Value).ownBlock) (.slice (some ⟨go66, 0, none⟩) x8_2.length co23) y157 := (by rw [hw, Ny157.out]; exact HP68.1); clear HP68; have n0_ := Aside0.mk (Kd.R_after (v := (.slice (some ⟨go66, 0, none⟩) x8_2.length co23)) (v1 := (.slice (some ⟨go66, 0, none⟩) x8_2.length co23)) (ok := (fun _ => True)) (by (with_reducible repeat (first | apply Kd.R_alloc | apply Kd.R_drewN | apply Kd.R_drew)); exact Kd.R_mono HO_5.out (fun _ hk => ⟨trivial, hk⟩)) hg (.inl rfl)); have n1_ := Aside0.mk (hp_); have n2_ := Aside0.mk (Kd.V_afterv (v := (.slice (some ⟨go66, 0, none⟩) x8_2.length co23)) (v1 := (.slice (some ⟨go66, 0, none⟩) x8_2.length co23)) (ok := (fun k_ => some k_ ≠ (.slice (some ad155) x5_1.length co67 : Value).ownBlock)) (by (with_reducible repeat (first | apply Kd.V_alloc | apply Kd.V_drewN | apply Kd.V_drew)); exact HO_17.out) hg (.inl rfl)); have n3_ := Aside0.mk ((by rw [hw]; exact below_set (HB.out) GB66.out : Below w.heap.size w w69)); clear HO_5; clear HO_8; clear HO_17; clear HB; have HO_5 := n0_; have HO_8 := n1_; have HO_17 := n2_; have HB := n3_; clear n0_ n1_ n2_ n3_; clear hg hw hp_))
                       (try simp only [← hl8_2])
                       go_roundg k2
                       case measure => have := HK1.out; have := HK2.out; omega
                       case rel => exact ⟨(y157), (wrap64 (x29_2 + 1)), (by first | rfl | (simp; done) | (simp [*]; done)), H', ⟨by have := HK1.out; have := HK2.out; omega⟩, ⟨by (try simp only [hl8_2]); (with_reducible repeat (first | apply Kd.R_alloc | apply Kd.R_drewN | apply Kd.R_drew)); exact Kd.R_mono HO_5.out (fun _ hk => hk.2)⟩, ⟨by (try simp only [hl8_2]); (with_reducible repeat (first | apply Kd.R_alloc | apply Kd.R_drewN | apply Kd.R_drew)); exact HO_8.out⟩, ⟨by (try simp only [hl8_2]); (with_reducible repeat (first | apply Kd.V_alloc | apply Kd.V_drewN | apply Kd.V_drew)); exact HO_17.out⟩, ⟨by repeat (first | (with_reducible first | exact HB.out | apply below_alloc | apply pw_below_drewN | apply below_drew1) | exact HB.out)⟩⟩
                      ·rw [if_neg c65] at H
                       exact absurd H (by simp)
                     ·rw [if_neg c64] at H
                      exact absurd H (by simp)
                    ·rw [if_neg c62] at H
                     exact absurd H (by simp)
                  ·replace c54 := Bool.eq_false_iff.mpr c54
                   subst c54
                   have H1 : (if 0 ≤ x29_2 then (if x29_2 < (x8_2.length : Int) then (tree_inName.l1 k2 a1 x5_1 (rd t142 x19_1) (x8_2.set (x29_2 : Int).toNat false) t142 (t142.length : Int) x19_1 (y147.length : Int) (wrap64 (x29_2 + 1))) else (none)) else (none)) = some r := by rw [if_neg (show ¬ (false = true) by decide)] at H; exact H
                   clear H
                   have H := H1
                   clear H1
                   by_cases c70 : 0 ≤ x29_2
                   ·rw [if_pos c70] at H
                    have c70b0 : decide (0 ≤ x29_2) = true := decide_eq_true c70
                    clear c70
                    by_cases c71 : x29_2 < (x8_2.length : Int)
                    ·rw [if_pos c71] at H
                     have c71b0 : decide (x29_2 < (x8_2.length : Int)) = true := decide_eq_true c71
                     (try simp only [hl8_2] at c71b0)
                     clear c71
                     obtain ⟨y158, hy158⟩ : ∃ y_ : List Bool, y_ = (x8_2.set (x29_2 : Int).toNat false) := ⟨_, rfl⟩
                     replace H : (tree_inName.l1 k2 a1 x5_1 (rd t142 x19_1) y158 t142 (t142.length : Int) x19_1 (y147.length : Int) (wrap64 (x29_2 + 1))) = some r := by first | (rw [hy158]; with_reducible exact H) | (have H2_ := (Option.bind_some _ _).symm.trans H; rw [hy158]; with_reducible exact H2_) | (have H2_ := (Option.bind_some _ _).symm.trans H; with_reducible exact H2_) | with_reducible exact H | (rw [hy158]; exact H) | exact H
                     have Ny158 := Aside0.mk hy158
                     clear hy158
                     have H' := Aside0.mk H
                     clear H
                     obtain ⟨Ao73, co73, eo73⟩ := Kd.R_slice HO_5.out
                     subst eo73
                     have p155 : 0 ≤ ((ji50) : Int) := of_decide_eq_true (by first | (with_reducible assumption) | assumption)
                     have q155 : (ji50) < (x5_1.length : Int) := of_decide_eq_true (by first | (with_reducible assumption) | assumption)
                     obtain ⟨ad155, e155, hx155_0⟩ := Kd.at_bool (Kd.R_reads' HO_5.out).2.2 (ji50) p155 q155
                     (try rw [← Nbq53.out] at hx155_0)
                     cases e155
                     replace p155 := eq_true p155
                     replace q155 := eq_true q155
                     have p72 : 0 ≤ (x29_2 : Int) := of_decide_eq_true (by first | (with_reducible assumption) | assumption)
                     have q72 : (x29_2 : Int) < ((x8_2.length : Int) : Int) := of_decide_eq_true (by first | (with_reducible assumption) | assumption)
                     obtain ⟨go72, co72, eo72, gb72, gl72, cl72, HG72⟩ := Kd.R_form HO_8.out (by omega)
                     (first | cases eo72 | (injection eo72 with ea_ en_ ec_; (first | subst ea_ | (injection ea_ with ea_; subst ea_)); subst ec_; clear en_))
                     have GB72 := Aside0.mk gb72
                     have GG72 := Aside0.mk HG72
                     clear gb72 gl72 HG72
                     obtain ⟨hx72_0, hf72_0⟩ := Kd.R_celln false HO_8.out (x29_2 : Int) p72 q72
                     replace p72 := eq_true p72
                     replace q72 := eq_true q72
                     have HP74 := Kd.R_putg HO_8.out (x29_2 : Int) false
                     go_wp2_with (first | ((with_reducible refine gate_store (t := 4) (p := 75) rfl ?_); refine store_event (t := 4) (p := 75) (v := ?vo_w75) (w1 := (wr.setCell ⟨go72, (x29_2 : Int).toNat, none⟩ (.bool false))) ?hg ?ho ?hn ?hr ?_; (case ho => rfl); (case hg => rfl); (case hn => rfl); (case hr => first | (go_simp; done) | (go_simp; rfl)); intro w75 hw; have hg : wr.grownBy w75 (some go72) := (by rw [hw]; exact HP74.2); have hp_ : Kd.R Kd.bool 4 w75 w.heap.size (fun k_ => some k_ ≠ (.slice (some ad155) x5_1.length co73 : Value).ownBlock) (.slice (some ⟨go72, 0, none⟩) x8_2.length co23) y158 := (by rw [hw, Ny158.out]; exact HP74.1); clear HP74; have n0_ := Aside0.mk (Kd.R_after (v := (.slice (some ⟨go72, 0, none⟩) x8_2.length co23)) (v1 := (.slice (some ⟨go72, 0, none⟩) x8_2.length co23)) (ok := (fun _ => True)) (by (with_reducible repeat (first | apply Kd.R_alloc | apply Kd.R_drewN | apply Kd.R_drew)); exact Kd.R_mono HO_5.out (fun _ hk => ⟨trivial, hk⟩)) hg (.inl rfl)); have n1_ := Aside0.mk (hp_); have n2_ := Aside0.mk (Kd.V_afterv (v := (.slice (some ⟨go72, 0, none⟩) x8_2.length co23)) (v1 := (.slice (some ⟨go72, 0, none⟩) x8_2.length co23)) (ok := (fun k_ => some k_ ≠ (.slice (some ad155) x5_1.length co73 : Value).ownBlock)) (by (with_reducible repeat (first | apply Kd.V_alloc | apply Kd.V_drewN | apply Kd.V_drew)); exact HO_17.out) hg (.inl rfl)); have n3_ := Aside0.mk ((by rw [hw]; exact below_set (HB.out) GB72.out : Below w.heap.size w w75)); clear HO_5; clear HO_8; clear HO_17; clear HB; have HO_5 := n0_; have HO_8 := n1_; have HO_17 := n2_; have HB := n3_; clear n0_ n1_ n2_ n3_; clear hg hw hp_))
                     (try simp only [← hl8_2])
                     go_roundg k2
                     case measure => have := HK1.out; have := HK2.out; omega
                     case rel => exact ⟨(y158), (wrap64 (x29_2 + 1)), (by first | rfl | (simp; done) | (simp [*]; done)), H', ⟨by have := HK1.out; have := HK2.out; omega⟩, ⟨by (try simp only [hl8_2]); (with_reducible repeat (first | apply Kd.R_alloc | apply Kd.R_drewN | apply Kd.R_drew)); exact Kd.R_mono HO_5.out (fun _ hk => hk.2)⟩, ⟨by (try simp only [hl8_2]); (with_reducible repeat (first | apply Kd.R_alloc | apply Kd.R_drewN | apply Kd.R_drew)); exact HO_8.out⟩, ⟨by (try simp only [hl8_2]); (with_reducible repeat (first | apply Kd.V_alloc | apply Kd.V_drewN | apply Kd.V_drew)); exact HO_17.out⟩, ⟨by repeat (first | (with_reducible first | exact HB.out | apply below_alloc | apply pw_below_drewN | apply below_drew1) | exact HB.out)⟩⟩
                    ·rw [if_neg c71] at H
                     exact absurd H (by simp)
                   ·rw [if_neg c70] at H
                    exact absurd H (by simp)
                 ·rw [if_neg c52] at H
                  exact absurd H (by simp)
                ·rw [if_neg c51] at H
                 exact absurd H (by simp)
               ·rw [if_neg c49] at H
                have c49b0 : decide (0 < x29_2) = false := decide_eq_false c49
                clear c49
                have H' := Aside0.mk H
                clear H
                go_wp2
                (try simp only [← hl8_2])
                go_roundg k2
                case measure => have := HK1.out; have := HK2.out; omega
                case rel => exact ⟨(x8_2), (wrap64 (x29_2 + 1)), (by first | rfl | (simp; done) | (simp [*]; done)), H', ⟨by have := HK1.out; have := HK2.out; omega⟩, ⟨by (try simp only [hl8_2]); (with_reducible repeat (first | apply Kd.R_alloc | apply Kd.R_drewN | apply Kd.R_drew)); exact HO_5.out⟩, ⟨by (try simp only [hl8_2]); (with_reducible repeat (first | apply Kd.R_alloc | apply Kd.R_drewN | apply Kd.R_drew)); exact HO_8.out⟩, ⟨by (try simp only [hl8_2]); (with_reducible repeat (first | apply Kd.V_alloc | apply Kd.V_drewN | apply Kd.V_drew)); exact HO_17.out⟩, ⟨by repeat (first | (with_reducible first | exact HB.out | apply below_alloc | apply pw_below_drewN | apply below_drew1) | exact HB.out)⟩⟩
             ·rw [if_neg c24] at H
              have c24b0 : decide (x29_2 < (y147.length : Int)) = false := decide_eq_false c24
              (try simp only [hl8_2] at c24b0)
              clear c24
              have H' := Aside0.mk H
              clear H
              go_wp2
              (try simp only [← hl8_2])
              go_roundg k2
              case measure => have := HK1.out; have := HK2.out; omega
              case rel => exact ⟨(x8_2), (wrap64 (x19_1 + 1)), (by first | rfl | (simp; done) | (simp [*]; done)), H', ⟨by have := HK1.out; have := HK2.out; omega⟩, ⟨by (try simp only [hl8_2]); (with_reducible repeat (first | apply Kd.R_alloc | apply Kd.R_drewN | apply Kd.R_drew)); exact Kd.R_mono HO_8.out (fun _ hk => trivial)⟩, ⟨by (try simp only [hl8_2]); (with_reducible repeat (first | apply Kd.V_alloc | apply Kd.V_drewN | apply Kd.V_drew)); exact Kd.V_mono HO_17.out (fun _ hk => hk.2)⟩, ⟨by repeat (first | (with_reducible first | exact HB.out | apply below_alloc | apply pw_below_drewN | apply below_drew1) | exact HB.out)⟩⟩
          ·rw [if_neg c20] at H
           exact absurd H (by simp)
         ·rw [if_neg c19] at H
          exact absurd H (by simp)
        ·rw [if_neg c17] at H
         exact absurd H (by simp)
       ·rw [if_neg c16] at H
        exact absurd H (by simp)
      ·rw [if_neg c15] at H
       have c15b0 : decide (x19_1 < (t142.length : Int)) = false := decide_eq_false c15
       clear c15
       by_cases c76 : 0 ≤ (a1.size : Int)
       ·rw [if_pos c76] at H
        have c76b0 : decide (0 ≤ (a1.size : Int)) = true := decide_eq_true c76
        have c76b1 : decide (0 ≤ a1.size) = true := decide_eq_true (by omega)
        clear c76
        by_cases c77 : (a1.size : Int) < (x5_1.length : Int)
        ·rw [if_pos c77] at H
         have c77b0 : decide ((a1.size : Int) < (x5_1.length : Int)) = true := decide_eq_true c77
         have c77b1 : decide (a1.size < x5_1.length) = true := decide_eq_true (Int.ofNat_lt.mp c77)
         clear c77
         obtain rfl := Option.some.inj H
         obtain ⟨Ao78, co78, eo78⟩ := Kd.R_slice HO_5.out
         subst eo78
         have p145 : 0 ≤ ((a1.size : Int) : Int) := of_decide_eq_true (by first | (with_reducible assumption) | assumption)
         have q145 : (a1.size : Int) < (x5_1.length : Int) := of_decide_eq_true (by first | (with_reducible assumption) | assumption)
         obtain ⟨ad145, e145, hx145_0⟩ := Kd.at_bool (Kd.R_reads' HO_5.out).2.2 (a1.size : Int) p145 q145
         (try simp only [Int.toNat_natCast] at hx145_0)
         cases e145
         replace p145 := eq_true p145
         replace q145 := eq_true q145
         go_wp2
         go_ret
         exact ⟨by first | rfl | (simp [errW_none, errW_some] <;> rfl) | (simp only [← hji3]; first | rfl | (simp [errW_none, errW_some] <;> rfl)) | (simp [*, errW_none, errW_some] <;> rfl), by repeat (first | (with_reducible first | exact HB.out | apply below_alloc | apply pw_below_drewN | apply below_drew1) | exact HB.out)⟩
        ·rw [if_neg c77] at H
         exact absurd H (by simp)
       ·rw [if_neg c76] at H
        exact absurd H (by simp)
   ·rw [if_neg c6] at H
    exact absurd H (by simp)
  ·rw [if_neg c5] at H
   exact absurd H (by simp)
 ·rw [if_neg c4] at H
  exact absurd H (by simp)
end Go.Proofs.YtafjlibcdlihcaaDoor.G
end
