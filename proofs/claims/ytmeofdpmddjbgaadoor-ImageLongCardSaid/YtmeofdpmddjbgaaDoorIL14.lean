/- Texts of this session's claim of ImageLong, less what its theorem does not reach. No condition. -/
import Derived.Test.YtmeofdpmddjbgaaDoorIL11
import Derived.Test.YtmeofdpmddjbgaaDoorIL12
import Derived.Test.YtmeofdpmddjbgaaDoorIL13
section
namespace Go.Proofs.YtmeofdpmddjbgaaDoor.G
open Go.RowKit Go.Proofs.YtmeofdpmddjbgaaDoorW.PrintWords Go.Proofs.YtmeofdpmddjbgaaDoorW.PrintLast Go.Proofs.YtmeofdpmddjbgaaDoorW.PrintMore
set_option linter.unusedVariables false
set_option linter.unusedSimpArgs false
def headL : List S33 → List UInt8
  | [] => []
  | x :: l => numB (x.f0.size : Int) ++ x.f0.data.toList ++ numB x.f1 ++ numB (x.f2.size : Int) ++ headL l
def dataL : List S33 → List UInt8
  | [] => []
  | x :: l => x.f2.data.toList ++ dataL l
def bodyL (l : List S33) : List UInt8 := numB (l.length : Int) ++ headL l ++ dataL l
def imageE (l : List S33) : ByteArray × Int := if checkE l = 0 then (if 524288 < (bodyL l).length then (⟨#[]⟩, 4) else (⟨(bodyL l).toArray⟩, 0)) else (⟨#[]⟩, checkE l)
def sizeE (l : List S33) : Int × Int := if checkE l = 0 then (if 524288 < (bodyL l).length then (0, 4) else (((bodyL l).length : Int), 0)) else (0, checkE l)
theorem modesE_ok : ∀ l : List S33, modesE l = 0 → ∀ x ∈ l, 0 ≤ x.f1 ∧ x.f1 ≤ 511 ∧ x.f2.size ≤ 65536
  | [], _, x, hx => by simp at hx
  | y :: l, h, x, hx => by
    unfold modesE at h
    by_cases h1 : y.f1 < 0 ∨ 511 < y.f1
    · rw [if_pos h1] at h; omega
    rw [if_neg h1] at h
    by_cases h2 : 65536 < y.f2.size
    · rw [if_pos h2] at h; omega
    rw [if_neg h2] at h
    rcases List.mem_cons.1 hx with e | e
    · subst e
      refine ⟨?_, ?_, ?_⟩ <;> omega
    · exact modesE_ok l h x e
theorem check_ok (l : List S33) (h : checkE l = 0) : pathsE (l.map (·.f0)) = 0 ∧ modesE l = 0 := by
  unfold checkE at h
  by_cases c : pathsE (l.map (·.f0)) = 0
  · rw [if_pos c] at h; exact ⟨c, h⟩
  · rw [if_neg c] at h; exact absurd h c
theorem check_files (l : List S33) (h : checkE l = 0) : l.length ≤ 256 ∧ ∀ x ∈ l, x.f0.size ≤ 200 ∧ x.f2.size ≤ 65536 ∧ 0 ≤ x.f1 ∧ x.f1 ≤ 511 := by
  obtain ⟨h1, h2⟩ := check_ok l h
  obtain ⟨s1, s2, s3⟩ := pathsE_sorted _ h1
  rw [List.length_map] at s3
  refine ⟨s3, fun x hx => ?_⟩
  obtain ⟨m1, m2, m3⟩ := modesE_ok l h2 x hx
  exact ⟨pathE_size _ (s2 _ (List.mem_map.2 ⟨x, hx, rfl⟩)), m3, m1, m2⟩
theorem headL_length : ∀ l : List S33, (∀ x ∈ l, x.f0.size ≤ 200 ∧ x.f2.size ≤ 65536 ∧ 0 ≤ x.f1 ∧ x.f1 ≤ 511) → (headL l).length ≤ 227 * l.length
  | [], _ => Nat.le_refl _
  | x :: l, h => by
    have h1 := (h x List.mem_cons_self).1
    have h2 := headL_length l (fun y hy => h y (List.mem_cons_of_mem _ hy))
    have n1 := numB_length (x.f0.size : Int)
    have n2 := numB_length x.f1
    have n3 := numB_length (x.f2.size : Int)
    unfold headL
    rw [List.length_append, List.length_append, List.length_append, List.length_append, sz_, List.length_cons]
    omega
theorem dataL_length : ∀ l : List S33, (∀ x ∈ l, x.f0.size ≤ 200 ∧ x.f2.size ≤ 65536 ∧ 0 ≤ x.f1 ∧ x.f1 ≤ 511) → (dataL l).length ≤ 65536 * l.length
  | [], _ => Nat.le_refl _
  | x :: l, h => by
    have h1 := (h x List.mem_cons_self).2.1
    have h2 := dataL_length l (fun y hy => h y (List.mem_cons_of_mem _ hy))
    unfold dataL
    rw [List.length_append, sz_, List.length_cons]
    omega
theorem imgHead_ev : ∀ (l : List S33) (acc : List UInt8), (∀ x ∈ l, x.f0.size ≤ 200 ∧ x.f2.size ≤ 65536 ∧ 0 ≤ x.f1 ∧ x.f1 ≤ 511) → acc.length + 227 * l.length ≤ 4294967296 → Ev (fun k => imgHead k l acc) (acc ++ headL l)
  | [], acc, _, _ => by
    unfold imgHead headL
    rw [List.append_nil]
    exact Ev.now _
  | x :: l, acc, h, ha => by
    have h1 := (h x List.mem_cons_self).1
    have n1 := numE_size (x.f0.size : Int)
    have n2 := numE_size x.f1
    have n3 := numE_size (x.f2.size : Int)
    rw [List.length_cons] at ha
    unfold imgHead headL
    refine Ev.bind (num_ev _) (Ev.bind (num_ev _) (Ev.bind (num_ev _) ?_))
    have c : acc.length + (numE (x.f0.size : Int)).1.size + x.f0.size + (numE x.f1).1.size + (numE (x.f2.size : Int)).1.size ≤ 140737488355328 := by omega
    simp only [c, ↓reduceIte]
    have ih := imgHead_ev l (acc ++ (numE (x.f0.size : Int)).1.data.toList ++ x.f0.data.toList ++ (numE x.f1).1.data.toList ++ (numE (x.f2.size : Int)).1.data.toList) (fun y hy => h y (List.mem_cons_of_mem _ hy)) (by
      rw [List.length_append, List.length_append, List.length_append, List.length_append, sz_, sz_, sz_, sz_]
      omega)
    have e : acc ++ (numB (x.f0.size : Int) ++ x.f0.data.toList ++ numB x.f1 ++ numB (x.f2.size : Int) ++ headL l) = acc ++ (numE (x.f0.size : Int)).1.data.toList ++ x.f0.data.toList ++ (numE x.f1).1.data.toList ++ (numE (x.f2.size : Int)).1.data.toList ++ headL l := by
      unfold numB
      simp only [List.append_assoc]
    rw [e]
    exact ih
theorem imgData_eq : ∀ (l : List S33) (acc : List UInt8), acc.length ≤ 524288 → imgData l acc = some (if 524288 < (acc ++ dataL l).length then (⟨#[]⟩, 4) else (⟨(acc ++ dataL l).toArray⟩, 0))
  | [], acc, h => by
    unfold imgData dataL
    rw [List.append_nil, if_neg (by omega)]
  | x :: l, acc, h => by
    unfold imgData dataL
    rw [if_pos h]
    by_cases c : 524288 - (acc.length : Int) < (x.f2.size : Int)
    · rw [if_pos c, if_pos]
      rw [List.length_append, List.length_append, sz_]
      omega
    · rw [if_neg c, imgData_eq l (acc ++ x.f2.data.toList) (by rw [List.length_append, sz_]; omega), List.append_assoc]
theorem imageOf_ev (l : List S33) (hl : l.length ≤ 4294967296) : Ev (fun k => image_Of.f k l) (imageE l) := by
  unfold image_Of.f imageE
  refine Ev.bind (check_ev l hl) ?_
  by_cases h : checkE l = 0
  · simp only [h, ↓reduceIte]
    obtain ⟨h1, h2⟩ := check_files l h
    refine Ev.bind (num_ev _) ?_
    have n1 := numE_size (l.length : Int)
    have c : (numE (l.length : Int)).1.size ≤ 140737488355328 := by omega
    simp only [c, ↓reduceIte]
    refine Ev.bind (imgHead_ev l _ h2 (by rw [sz_]; omega)) ?_
    have hh := headL_length l h2
    rw [imgData_eq l _ (by rw [List.length_append, sz_]; omega)]
    exact Ev.now _
  · simp only [h, ↓reduceIte]
    exact Ev.now _
theorem width_ev (n : Int) : Ev (fun k => image_Size_1.f k n) (((numB n).length : Nat) : Int) := by
  unfold image_Size_1.f
  have e : ((numB n).length : Int) = ((numE n).1.size : Int) := by unfold numB; rw [sz_]
  rw [e]
  exact Ev.bind (num_ev n) (Ev.now _)
theorem size_l0 (l : List S33) (hl : l.length ≤ 256) (hf : ∀ x ∈ l, x.f0.size ≤ 200 ∧ x.f2.size ≤ 65536 ∧ 0 ≤ x.f1 ∧ x.f1 ≤ 511) (m : Nat) (hm : m ≤ 4294967296) : ∀ (d i : Nat) (n : Nat), l.length - i = d → i ≤ l.length → n + (headL (l.drop i)).length + (dataL (l.drop i)).length = m →
    Ev (fun k => image_Size.l0 k n l l.length i) (if 524288 < m then (0, 4) else ((m : Int), 0)) := by
  intro d
  induction d with
  | zero =>
    intro i n hd hi hn
    have e : i = l.length := by omega
    subst e
    rw [List.drop_eq_nil_of_le (Nat.le_refl _), headL, dataL] at hn
    have hnm : n = m := by simpa using hn
    subst hnm
    apply Ev.step
    · intro k; rw [image_Size.l0]
    have c1 : ¬ ((l.length : Int) < (l.length : Int)) := by omega
    simp only [c1, ↓reduceIte]
    by_cases c : 524288 < n
    · have c2 : (n : Int) > 524288 := by omega
      simp only [c2, c, ↓reduceIte]
      exact Ev.now _
    · have c2 : ¬ (n : Int) > 524288 := by omega
      simp only [c2, c, ↓reduceIte]
      exact Ev.now _
  | succ d ih =>
    intro i n hd hi hn
    have hlt : i < l.length := by omega
    obtain ⟨f1, f2, f3, f4⟩ := hf _ (List.getElem_mem hlt)
    obtain ⟨x, hx⟩ : ∃ x, l[i]'hlt = x := ⟨_, rfl⟩
    rw [hx] at f1 f2 f3 f4
    rw [List.drop_eq_getElem_cons hlt, hx, headL, dataL] at hn
    simp only [List.length_append, sz_] at hn
    have n1 := numB_length (x.f0.size : Int)
    have n2 := numB_length x.f1
    have n3 := numB_length (x.f2.size : Int)
    have c1 : ((i : Int) < (l.length : Int)) := by omega
    have c2 : (0 : Int) ≤ (i : Int) := by omega
    have hd1 : l.length - (i + 1) = d := by omega
    have hi1 : i + 1 ≤ l.length := by omega
    have hn1 : n + ((numB (x.f0.size : Int)).length + x.f0.size + (numB x.f1).length + (numB (x.f2.size : Int)).length + x.f2.size) + (headL (l.drop (i + 1))).length + (dataL (l.drop (i + 1))).length = m := by omega
    have hsum : wrap64 ((n : Int) + (wrap64 ((wrap64 ((wrap64 ((wrap64 ((((numB (x.f0.size : Int)).length : Nat) : Int) + (x.f0.size : Int))) + (((numB x.f1).length : Nat) : Int))) + (((numB (x.f2.size : Int)).length : Nat) : Int))) + (x.f2.size : Int)))) = ((n + ((numB (x.f0.size : Int)).length + x.f0.size + (numB x.f1).length + (numB (x.f2.size : Int)).length + x.f2.size) : Nat) : Int) := by
      rw [w64_ (i := (((numB (x.f0.size : Int)).length : Nat) : Int) + (x.f0.size : Int)) (by omega) (by omega)]
      rw [w64_ (i := (((numB (x.f0.size : Int)).length : Nat) : Int) + (x.f0.size : Int) + (((numB x.f1).length : Nat) : Int)) (by omega) (by omega)]
      rw [w64_ (i := (((numB (x.f0.size : Int)).length : Nat) : Int) + (x.f0.size : Int) + (((numB x.f1).length : Nat) : Int) + (((numB (x.f2.size : Int)).length : Nat) : Int)) (by omega) (by omega)]
      rw [w64_ (i := (((numB (x.f0.size : Int)).length : Nat) : Int) + (x.f0.size : Int) + (((numB x.f1).length : Nat) : Int) + (((numB (x.f2.size : Int)).length : Nat) : Int) + (x.f2.size : Int)) (by omega) (by omega)]
      rw [w64_ (by omega) (by omega)]
      omega
    have hw : wrap64 ((i : Int) + 1) = ((i + 1 : Nat) : Int) := by clear hn1; rw [w64_ (by omega) (by omega)]; omega
    apply Ev.step
    · intro k; rw [image_Size.l0]
    simp only [c1, c2, ↓reduceIte, rdF_nat l i hlt, hx, hw]
    refine Ev.bind (width_ev _) (Ev.bind (width_ev _) (Ev.bind (width_ev _) ?_))
    simp only [hsum]
    exact ih (i + 1) _ hd1 hi1 hn1
theorem size_ev (l : List S33) (hl : l.length ≤ 4294967296) : Ev (fun k => image_Size.f k l) (sizeE l) := by
  unfold image_Size.f sizeE
  refine Ev.bind (check_ev l hl) ?_
  by_cases h : checkE l = 0
  · simp only [h, ↓reduceIte]
    obtain ⟨h1, h2⟩ := check_files l h
    have hh := headL_length l h2
    have hd := dataL_length l h2
    have n1 := numB_length (l.length : Int)
    have hb : (bodyL l).length = (numB (l.length : Int)).length + (headL l).length + (dataL l).length := by
      unfold bodyL
      rw [List.length_append, List.length_append]
    refine Ev.bind (width_ev _) ?_
    have := size_l0 l h1 h2 (bodyL l).length (by omega) l.length 0 (numB (l.length : Int)).length (by omega) (by omega) (by rw [List.drop_zero]; omega)
    simpa using this
  · simp only [h, ↓reduceIte]
    exact Ev.now _
end Go.Proofs.YtmeofdpmddjbgaaDoor.G
end
section
namespace Go.Proofs.YtmeofdpmddjbgaaDoor.G
open Go.RowKit Go.Proofs.YtmeofdpmddjbgaaDoorW.PrintWords Go.Proofs.YtmeofdpmddjbgaaDoorW.PrintLast Go.Proofs.YtmeofdpmddjbgaaDoorW.PrintMore
attribute [local go_sem] max2_int min2_int max_two min_two max_three min_three max_four min_four   -- for this text's walks alone
set_option linter.unusedVariables false
set_option linter.unusedSimpArgs false
mutual
def barquelaw10_few.l0 : Nat → List (S33) → List (S33) → Int → Int → Option ((List (S33)))
  | 0, _, _, _, _ => none
  | k + 1, x0, x3, x4, x5 => if x5 < (x0.length : Int) then (barquelaw10_few.j1 k x0 x3 x4 x5 (decide (x5 < 60))) else (barquelaw10_few.j1 k x0 x3 x4 x5 false)
def barquelaw10_few.j1 : Nat → List (S33) → List (S33) → Int → Int → Bool → Option ((List (S33)))
  | 0, _, _, _, _, _ => none
  | k + 1, x0, x3, x4, x5, x14 => if x14 = true then (if 0 ≤ x5 then (if x5 < (x0.length : Int) then (if (((rd_T33 x0 x5).f2).size : Int) > (wrap64 (20000 - x4)) then (if x3.length < 3518437208883 then (barquelaw10_few.l0 k x0 (x3 ++ [(⟨(rd_T33 x0 x5).f0, (rd_T33 x0 x5).f1, (⟨#[]⟩ : ByteArray)⟩ : S33)]) (wrap64 (x4 + 0)) (wrap64 (x5 + 1))) else (none)) else (if x3.length < 3518437208883 then (barquelaw10_few.l0 k x0 (x3 ++ [(⟨(rd_T33 x0 x5).f0, (rd_T33 x0 x5).f1, (rd_T33 x0 x5).f2⟩ : S33)]) (wrap64 (x4 + (((rd_T33 x0 x5).f2).size : Int))) (wrap64 (x5 + 1))) else (none))) else (none)) else (none)) else (some x3)
end
def barquelaw10_few.f (k : Nat) (l0 : List (S33)) : Option ((List (S33))) := barquelaw10_few.l0 k l0 ([] : List (S33)) 0 0
theorem barquelaw10_few.mono_l : ∀ k, (∀ y0 y1 y2 y3, LeO (barquelaw10_few.l0 k y0 y1 y2 y3) (barquelaw10_few.l0 (k + 1) y0 y1 y2 y3)) ∧ (∀ y0 y1 y2 y3 y4, LeO (barquelaw10_few.j1 k y0 y1 y2 y3 y4) (barquelaw10_few.j1 (k + 1) y0 y1 y2 y3 y4))
  | 0 => ⟨fun _ _ _ _ r h => by simp [barquelaw10_few.l0] at h, fun _ _ _ _ _ r h => by simp [barquelaw10_few.j1] at h⟩
  | k + 1 => by
    obtain ⟨ih0, ih1⟩ := barquelaw10_few.mono_l k
    refine ⟨?_, ?_⟩
    · intro y0 y1 y2 y3
      unfold barquelaw10_few.l0
      repeat' first
      | (with_reducible exact ih0 _ _ _ _)
      | (with_reducible exact ih1 _ _ _ _ _)
      | (with_reducible exact LeO.refl _)
      | (with_reducible exact LeO.none _)
      | (with_reducible refine LeO.ite ?_ ?_)
      | (with_reducible refine LeO.bind ?_ (fun _ => ?_))
      | exact ih0 _ _ _ _
      | exact ih1 _ _ _ _ _
      | exact LeO.none _
      | refine LeO.ite ?_ ?_
      | refine LeO.bind ?_ (fun _ => ?_)
    · intro y0 y1 y2 y3 y4
      unfold barquelaw10_few.j1
      repeat' first
      | (with_reducible exact ih0 _ _ _ _)
      | (with_reducible exact ih1 _ _ _ _ _)
      | (with_reducible exact LeO.refl _)
      | (with_reducible exact LeO.none _)
      | (with_reducible refine LeO.ite ?_ ?_)
      | (with_reducible refine LeO.bind ?_ (fun _ => ?_))
      | exact ih0 _ _ _ _
      | exact ih1 _ _ _ _ _
      | exact LeO.none _
      | refine LeO.ite ?_ ?_
      | refine LeO.bind ?_ (fun _ => ?_)
theorem barquelaw10_few.mono : ∀ a0 k, LeO (barquelaw10_few.f k a0) (barquelaw10_few.f (k + 1) a0) := by
  intro a0 k
  obtain ⟨ih0, ih1⟩ := barquelaw10_few.mono_l k
  unfold barquelaw10_few.f
  repeat' first
      | (with_reducible exact ih0 _ _ _ _)
      | (with_reducible exact ih1 _ _ _ _ _)
      | (with_reducible exact LeO.refl _)
      | (with_reducible exact LeO.none _)
      | (with_reducible refine LeO.ite ?_ ?_)
      | (with_reducible refine LeO.bind ?_ (fun _ => ?_))
      | exact ih0 _ _ _ _
      | exact ih1 _ _ _ _ _
      | exact LeO.none _
      | refine LeO.ite ?_ ?_
      | refine LeO.bind ?_ (fun _ => ?_)
set_option maxHeartbeats 8000000 in
set_option maxRecDepth 100000 in
theorem barquelaw10_few.calls (k : Nat) (A0 : Option Addr) (c0 : Nat) (l0 : List (S33)) (r : List (S33)) (w : World) (hr0 : Kd.C k33 w A0 l0.length l0) (hc0 : l0.length ≤ c0) (h : barquelaw10_few.f k l0 = some r) :
    Calls Tryd.prog 11 #[.slice A0 l0.length c0] w fun e w' => ∃ v0_ : Value, e = .returned (v0_) ∧ Kd.R k33 33 w' w.heap.size (fun _ => True) v0_ r ∧ Below w.heap.size w w' := by
  have hu33 := Tryd.underlying33
  have HR0 := Aside0.mk hr0
  have HC0 := Aside0.mk hc0
  clear hr0 hc0
  have HB := Aside0.mk (Below.refl w.heap.size w)
  have H : (barquelaw10_few.l0 k l0 ([] : List (S33)) 0 0) = some r := h
  clear h
  have H' := Aside0.mk H
  clear H
  go_enter Tryd.func11, Tryd.ntmps11
  go_wp2
  go_loopg [3, 4, 5] k (fun kq v3 v4 v5 w' => ∃ (x3_1 : List (S33)) (x4_1 : Int) (x5_1 : Int), v4 = .int .i64 x4_1 ∧ v5 = .int .i64 x5_1 ∧ Aside0 (barquelaw10_few.l0 kq l0 x3_1 x4_1 x5_1 = some r) ∧ Aside0 (kq ≤ k) ∧ Aside0 (Kd.R k33 33 w' w.heap.size (fun _ => True) v3 x3_1) ∧ Aside0 (Below w.heap.size w w'))
  case atStart => exact ⟨(([] : List (S33))), (0), (0), (by first | rfl | (simp; done) | (simp [*]; done)), (by first | rfl | (simp; done) | (simp [*]; done)), H', ⟨Nat.le_refl _⟩, ⟨by first | exact Kd.R_nil _ _ _ _ _ | exact Kd.N_nil _ _ _ _ _ | exact Kd.V_nil _ _ _ _ _ | exact Kd.Q_nil _ _ _ _ _ | exact Kd.S_nil _ _ _ _ _⟩, ⟨by repeat (first | (with_reducible first | exact HB.out | apply below_alloc | apply pw_below_drewN | apply below_drew1) | exact HB.out)⟩⟩
  case round =>
    clear H'
    try clear c1
    obtain ⟨x3_1, x4_1, x5_1, rfl, rfl, HA, HK1, HO_3, HB⟩ := hrel
    cases gk with
    | zero => exact absurd HA.out (by simp [barquelaw10_few.l0])
    | succ k1 =>
      have H := HA.out
      clear HA
      simp only [barquelaw10_few.l0] at H
      have HC2 := Aside0.mk H
      clear H
      go_upto_region 4 with (fail)
      go_cut [14] (fun v14 wc => ∃ (kq : Nat) (x14_1 : Bool), v14 = .bool x14_1 ∧ Aside0 (barquelaw10_few.j1 kq l0 x3_1 x4_1 x5_1 x14_1 = some r) ∧ Aside0 (kq ≤ k1) ∧ Aside0 (Kd.R k33 33 wc w.heap.size (fun _ => True) u3 x3_1) ∧ Aside0 (Below w.heap.size w wc))
      case first =>
        have H := HC2.out
        clear HC2
        by_cases c3 : x5_1 < (l0.length : Int)
        · rw [if_pos c3] at H
          have c3b0 : decide (x5_1 < (l0.length : Int)) = true := decide_eq_true c3
          clear c3
          (first | rw [c3b0] | (simp only [i64_w, i32_w]; rw [c3b0]) | skip)
          have H' := Aside0.mk H
          clear H
          go_wp2
          go_meet
          case rel => exact ⟨_, (decide (x5_1 < 60)), (by first | rfl | (simp; done) | (simp [*]; done)), H', ⟨by have := HK1.out; first | omega | exact Nat.le_refl _⟩, ⟨by (with_reducible repeat (first | apply Kd.R_alloc | apply Kd.R_drewN | apply Kd.R_drew)); exact HO_3.out⟩, ⟨by repeat (first | (with_reducible first | exact HB.out | apply below_alloc | apply pw_below_drewN | apply below_drew1) | exact HB.out)⟩⟩
        · rw [if_neg c3] at H
          have c3b0 : decide (x5_1 < (l0.length : Int)) = false := decide_eq_false c3
          clear c3
          (first | rw [c3b0] | (simp only [i64_w, i32_w]; rw [c3b0]) | skip)
          have H' := Aside0.mk H
          clear H
          go_wp2
          go_meet
          case rel => exact ⟨_, (false), (by first | rfl | (simp; done) | (simp [*]; done)), H', ⟨by have := HK1.out; first | omega | exact Nat.le_refl _⟩, ⟨by (with_reducible repeat (first | apply Kd.R_alloc | apply Kd.R_drewN | apply Kd.R_drew)); exact HO_3.out⟩, ⟨by repeat (first | (with_reducible first | exact HB.out | apply below_alloc | apply pw_below_drewN | apply below_drew1) | exact HB.out)⟩⟩
      case rest =>
        clear HC2
        try clear c1
        try clear p2
        try clear c3
        try clear c3b0
        obtain ⟨kq, x14_1, rfl, HA, HJ1, HO_3, HB⟩ := hcut
        cases kq with
        | zero => exact absurd HA.out (by simp [barquelaw10_few.j1])
        | succ kj1 =>
          have H := HA.out
          clear HA
          simp only [barquelaw10_few.j1] at H
          by_cases c4 : x14_1 = true
          · subst c4
            have H1 : (if 0 ≤ x5_1 then (if x5_1 < (l0.length : Int) then (if (((rd_T33 l0 x5_1).f2).size : Int) > (wrap64 (20000 - x4_1)) then (if x3_1.length < 3518437208883 then (barquelaw10_few.l0 kj1 l0 (x3_1 ++ [(⟨(rd_T33 l0 x5_1).f0, (rd_T33 l0 x5_1).f1, (⟨#[]⟩ : ByteArray)⟩ : S33)]) (wrap64 (x4_1 + 0)) (wrap64 (x5_1 + 1))) else (none)) else (if x3_1.length < 3518437208883 then (barquelaw10_few.l0 kj1 l0 (x3_1 ++ [(⟨(rd_T33 l0 x5_1).f0, (rd_T33 l0 x5_1).f1, (rd_T33 l0 x5_1).f2⟩ : S33)]) (wrap64 (x4_1 + (((rd_T33 l0 x5_1).f2).size : Int))) (wrap64 (x5_1 + 1))) else (none))) else (none)) else (none)) = some r := by rw [if_pos rfl] at H; exact H
            clear H
            have H := H1
            clear H1
            by_cases c5 : 0 ≤ x5_1
            · rw [if_pos c5] at H
              have c5b0 : decide (0 ≤ x5_1) = true := decide_eq_true c5
              clear c5
              by_cases c6 : x5_1 < (l0.length : Int)
              · rw [if_pos c6] at H
                have c6b0 : decide (x5_1 < (l0.length : Int)) = true := decide_eq_true c6
                clear c6
                by_cases c7 : (((rd_T33 l0 x5_1).f2).size : Int) > (wrap64 (20000 - x4_1))
                · rw [if_pos c7] at H
                  have c7b0 : decide ((wrap64 (20000 - x4_1)) < (((rd_T33 l0 x5_1).f2).size : Int)) = true := decide_eq_true c7
                  clear c7
                  by_cases c8 : x3_1.length < 3518437208883
                  · rw [if_pos c8] at H
                    have LMc8 := Aside0.mk c8
                    clear c8
                    obtain ⟨y103, hy103⟩ : ∃ y_ : List (S33), y_ = (x3_1 ++ [(⟨(rd_T33 l0 x5_1).f0, (rd_T33 l0 x5_1).f1, (⟨#[]⟩ : ByteArray)⟩ : S33)]) := ⟨_, rfl⟩
                    replace H : (barquelaw10_few.l0 kj1 l0 y103 (wrap64 (x4_1 + 0)) (wrap64 (x5_1 + 1))) = some r := by first | (rw [hy103]; with_reducible exact H) | (have H2_ := (Option.bind_some _ _).symm.trans H; rw [hy103]; with_reducible exact H2_) | (have H2_ := (Option.bind_some _ _).symm.trans H; with_reducible exact H2_) | with_reducible exact H | (rw [hy103]; exact H) | exact H
                    have Ny103 := Aside0.mk hy103
                    clear hy103
                    have H' := Aside0.mk H
                    clear H
                    have p101 : 0 ≤ (x5_1 : Int) := of_decide_eq_true (by first | (with_reducible assumption) | assumption)
                    have q101 : x5_1 < (l0.length : Int) := of_decide_eq_true (by first | (with_reducible assumption) | assumption)
                    obtain ⟨ad101, e101, hx101_0, hx101_1, hx101_2⟩ := at_T33 HR0.out x5_1 p101 q101
                    cases e101
                    replace hx101_0 := (HB.out.cell (World.block_lt_of_cell? w _ hx101_0)).trans hx101_0
                    replace hx101_1 := (HB.out.cell (World.block_lt_of_cell? w _ hx101_1)).trans hx101_1
                    replace hx101_2 := (HB.out.cell (World.block_lt_of_cell? w _ hx101_2)).trans hx101_2
                    replace p101 := eq_true p101
                    replace q101 := eq_true q101
                    go_wp2_with (first | ((with_reducible refine gate_dst (N := 6) rfl ?_); refine box_event ?hg (N := 6) ?hd (cs := #[.string (⟨#[]⟩ : ByteArray), .int .i64 0, .string (⟨#[]⟩ : ByteArray)]) (t := 33) ?hr ?_; (case hd => rfl); (case hg => rfl); (case hr => first | (go_simp; done) | (go_simp; rfl)); intro gb102 hg w9 hbox hb; have n0_ := Aside0.mk (Kd.R_below (Kd.R_elderB (by (with_reducible repeat (first | apply Kd.R_alloc | apply Kd.R_drewN | apply Kd.R_drew)); exact HO_3.out) gb102 (Nat.le_of_eq hg.symm)) hb); have n1_ := Aside0.mk (below_step (by repeat (first | (with_reducible first | exact HB.out | apply below_alloc | apply pw_below_drewN | apply below_drew1) | exact HB.out)) hb); have n2_ := Aside0.mk (hbox); have n3_ := Aside0.mk ((by rw [hg]; exact (below_size (by repeat (first | (with_reducible first | exact HB.out | apply below_alloc | apply pw_below_drewN | apply below_drew1) | exact HB.out))) : w.heap.size ≤ gb102)); have n4_ := Aside0.mk ((by rw [hg]; exact (below_size (by repeat (first | (with_reducible first | exact HB.out | apply below_alloc | apply pw_below_drewN | apply below_drew1) | exact HB.out))) : w.heap.size ≤ gb102)); clear HO_3; clear HB; have HO_3 := n0_; have HB := n1_; have BK102 := n2_; have GW102 := n3_; have GE102 := n4_; clear n0_ n1_ n2_ n3_ n4_; clear hb hbox hg; have hcz10_0 : w9.cell? ⟨gb102, 0, none⟩ = some (.string (⟨#[]⟩ : ByteArray)) := (blk_cell BK102.out 0).trans rfl; have hcz10_1 : w9.cell? ⟨gb102, 1, none⟩ = some (.int .i64 0) := (blk_cell BK102.out 1).trans rfl; have hcz10_2 : w9.cell? ⟨gb102, 2, none⟩ = some (.string (⟨#[]⟩ : ByteArray)) := (blk_cell BK102.out 2).trans rfl; have hfz10_0 := blk_frozen BK102.out 0; have hfz10_1 := blk_frozen BK102.out 1; have hfz10_2 := blk_frozen BK102.out 2; have hq0_ : ∀ (a_ b_ c_ d_ : Value), ((((w9.setCell ⟨gb102, 0, none⟩ a_).setCell ⟨gb102, 1, none⟩ b_).setCell ⟨gb102, 2, none⟩ c_).setCell ⟨gb102, 2, none⟩ d_).cell? ⟨gb102, 0, none⟩ = some a_ := fun a_ b_ c_ d_ => (blk_cell (blk_put (blk_put (blk_put (blk_put BK102.out 0 a_ rfl) 1 b_ rfl) 2 c_ rfl) 2 d_ rfl) 0).trans rfl; have hq1_ : ∀ (a_ b_ c_ d_ : Value), ((((w9.setCell ⟨gb102, 0, none⟩ a_).setCell ⟨gb102, 1, none⟩ b_).setCell ⟨gb102, 2, none⟩ c_).setCell ⟨gb102, 2, none⟩ d_).cell? ⟨gb102, 1, none⟩ = some b_ := fun a_ b_ c_ d_ => (blk_cell (blk_put (blk_put (blk_put (blk_put BK102.out 0 a_ rfl) 1 b_ rfl) 2 c_ rfl) 2 d_ rfl) 1).trans rfl; have hq2_ : ∀ (a_ b_ c_ d_ : Value), ((((w9.setCell ⟨gb102, 0, none⟩ a_).setCell ⟨gb102, 1, none⟩ b_).setCell ⟨gb102, 2, none⟩ c_).setCell ⟨gb102, 2, none⟩ d_).cell? ⟨gb102, 2, none⟩ = some d_ := fun a_ b_ c_ d_ => (blk_cell (blk_put (blk_put (blk_put (blk_put BK102.out 0 a_ rfl) 1 b_ rfl) 2 c_ rfl) 2 d_ rfl) 2).trans rfl) | ((with_reducible refine gate_builtin (b := .append) (xs := #[.tmp 33, .tmp 35]) rfl ?_); at_builtin; refine Kd.R_append k33 (w0 := w) w.heap.size rfl (.tmp 33) (.tmp 35) 22 33 (.agg #[(.string ⟨#[]⟩), (.int .i64 0), (.string ⟨#[]⟩)]) 40 rfl Tryd.underlying22 info33 rfl (by decide) (by omega) u3 x3_1 (⟨(rd_T33 l0 x5_1).f0, (rd_T33 l0 x5_1).f1, (⟨#[]⟩ : ByteArray)⟩ : S33) [.string ((rd_T33 l0 x5_1).f0), .int .i64 ((rd_T33 l0 x5_1).f1), .string (⟨#[]⟩ : ByteArray)] (fun k_ => k_ ≠ gb102) (fun _ => False) rfl (by first | (go_simp; done) | (go_simp; rfl)) ?aP (fun _ hk => hk.elim) ?aF ?aO ?aB ?aS ?aL ?_; (case aP => exact k33_mkM _ _ _ (⟨(rd_T33 l0 x5_1).f0, (rd_T33 l0 x5_1).f1, (⟨#[]⟩ : ByteArray)⟩ : S33)); (case aB => exact (by repeat (first | (with_reducible first | exact HB.out | apply below_alloc | apply pw_below_drewN | apply below_drew1 | refine below_set ?_ GE102.out) | exact HB.out))); (case aF => exact (fun k_ hk => Kd.freshB (g := gb102) (o := .cells #[.string ((rd_T33 l0 x5_1).f0), .int .i64 ((rd_T33 l0 x5_1).f1), .string (⟨#[]⟩ : ByteArray)] 33 (0, 0)) (by (with_reducible repeat (first | refine blk_drewN ?_ _ | refine blk_drew ?_ | refine blk_alloc ?_ _)); refine blk_put (cs := #[.string ((rd_T33 l0 x5_1).f0), .int .i64 ((rd_T33 l0 x5_1).f1), .string ((rd_T33 l0 x5_1).f2)]) ?_ 2 _ rfl; (with_reducible repeat (first | refine blk_drewN ?_ _ | refine blk_drew ?_ | refine blk_alloc ?_ _)); refine blk_put (cs := #[.string ((rd_T33 l0 x5_1).f0), .int .i64 ((rd_T33 l0 x5_1).f1), .string (⟨#[]⟩ : ByteArray)]) ?_ 2 _ rfl; (with_reducible repeat (first | refine blk_drewN ?_ _ | refine blk_drew ?_ | refine blk_alloc ?_ _)); refine blk_put (cs := #[.string ((rd_T33 l0 x5_1).f0), .int .i64 0, .string (⟨#[]⟩ : ByteArray)]) ?_ 1 _ rfl; (with_reducible repeat (first | refine blk_drewN ?_ _ | refine blk_drew ?_ | refine blk_alloc ?_ _)); refine blk_put (cs := #[.string (⟨#[]⟩ : ByteArray), .int .i64 0, .string (⟨#[]⟩ : ByteArray)]) ?_ 0 _ rfl; (with_reducible repeat (first | refine blk_drewN ?_ _ | refine blk_drew ?_ | refine blk_alloc ?_ _)); exact BK102.out) k_ hk)); (case aO => exact (by (with_reducible repeat (first | apply Kd.R_alloc | apply Kd.R_drewN | apply Kd.R_drew)); exact Kd.R_mono (Kd.R_far (p := ⟨gb102, 2, none⟩) (Kd.R_far (p := ⟨gb102, 2, none⟩) (Kd.R_far (p := ⟨gb102, 1, none⟩) (Kd.R_far (p := ⟨gb102, 0, none⟩) (Kd.R_mono HO_3.out (fun k_ hk => (⟨hk, hk.2⟩ : _ ∧ k_ ≠ gb102))) (fun _ hk => hk.2) (.string ((rd_T33 l0 x5_1).f0))) (fun _ hk => hk.2) (.int .i64 ((rd_T33 l0 x5_1).f1))) (fun _ hk => hk.2) (.string ((rd_T33 l0 x5_1).f2))) (fun _ hk => hk.2) (.string (⟨#[]⟩ : ByteArray))) (fun _ hk => hk.1.2))); (case aS => exact (below_size (by repeat (first | (with_reducible first | exact HB.out | apply below_alloc | apply pw_below_drewN | apply below_drew1 | refine below_set ?_ GE102.out) | exact HB.out)))); (case aL => have := LMc8.out; omega); intro v104 w11 ho hb hg hat; rw [← Ny103.out] at ho; have n0_ := Aside0.mk (blk_grown (g := gb102) (o := .cells #[.string ((rd_T33 l0 x5_1).f0), .int .i64 ((rd_T33 l0 x5_1).f1), .string (⟨#[]⟩ : ByteArray)] 33 (0, 0)) (by (with_reducible repeat (first | refine blk_drewN ?_ _ | refine blk_drew ?_ | refine blk_alloc ?_ _)); refine blk_put (cs := #[.string ((rd_T33 l0 x5_1).f0), .int .i64 ((rd_T33 l0 x5_1).f1), .string ((rd_T33 l0 x5_1).f2)]) ?_ 2 _ rfl; (with_reducible repeat (first | refine blk_drewN ?_ _ | refine blk_drew ?_ | refine blk_alloc ?_ _)); refine blk_put (cs := #[.string ((rd_T33 l0 x5_1).f0), .int .i64 ((rd_T33 l0 x5_1).f1), .string (⟨#[]⟩ : ByteArray)]) ?_ 2 _ rfl; (with_reducible repeat (first | refine blk_drewN ?_ _ | refine blk_drew ?_ | refine blk_alloc ?_ _)); refine blk_put (cs := #[.string ((rd_T33 l0 x5_1).f0), .int .i64 0, .string (⟨#[]⟩ : ByteArray)]) ?_ 1 _ rfl; (with_reducible repeat (first | refine blk_drewN ?_ _ | refine blk_drew ?_ | refine blk_alloc ?_ _)); refine blk_put (cs := #[.string (⟨#[]⟩ : ByteArray), .int .i64 0, .string (⟨#[]⟩ : ByteArray)]) ?_ 0 _ rfl; (with_reducible repeat (first | refine blk_drewN ?_ _ | refine blk_drew ?_ | refine blk_alloc ?_ _)); exact BK102.out) hg (Kd.R_away HO_3.out (fun _ hk => hk.2))); have n1_ := Aside0.mk (hb); have n2_ := Aside0.mk (ho); clear BK102; clear HB; clear HO_3; have BK102 := n0_; have HB := n1_; have HO105 := n2_; clear n0_ n1_ n2_; clear ho hb hg hat))
                    go_roundg kj1
                    case measure => have := HK1.out; have := HJ1.out; omega
                    case rel => exact ⟨(y103), (wrap64 (x4_1 + 0)), (wrap64 (x5_1 + 1)), (by first | rfl | (simp; done) | (simp [*]; done)), (by first | rfl | (simp; done) | (simp [*]; done)), H', ⟨by have := HK1.out; have := HJ1.out; omega⟩, ⟨by (with_reducible repeat (first | apply Kd.R_alloc | apply Kd.R_drewN | apply Kd.R_drew)); exact Kd.R_mono HO105.out (fun _ hk => trivial)⟩, ⟨by repeat (first | (with_reducible first | exact HB.out | apply below_alloc | apply pw_below_drewN | apply below_drew1 | refine below_set ?_ GE102.out) | exact HB.out)⟩⟩
                  · rw [if_neg c8] at H
                    exact absurd H (by simp)
                · rw [if_neg c7] at H
                  have c7b0 : decide ((wrap64 (20000 - x4_1)) < (((rd_T33 l0 x5_1).f2).size : Int)) = false := decide_eq_false c7
                  clear c7
                  by_cases c12 : x3_1.length < 3518437208883
                  · rw [if_pos c12] at H
                    have LMc12 := Aside0.mk c12
                    clear c12
                    obtain ⟨y106, hy106⟩ : ∃ y_ : List (S33), y_ = (x3_1 ++ [(⟨(rd_T33 l0 x5_1).f0, (rd_T33 l0 x5_1).f1, (rd_T33 l0 x5_1).f2⟩ : S33)]) := ⟨_, rfl⟩
                    replace H : (barquelaw10_few.l0 kj1 l0 y106 (wrap64 (x4_1 + (((rd_T33 l0 x5_1).f2).size : Int))) (wrap64 (x5_1 + 1))) = some r := by first | (rw [hy106]; with_reducible exact H) | (have H2_ := (Option.bind_some _ _).symm.trans H; rw [hy106]; with_reducible exact H2_) | (have H2_ := (Option.bind_some _ _).symm.trans H; with_reducible exact H2_) | with_reducible exact H | (rw [hy106]; exact H) | exact H
                    have Ny106 := Aside0.mk hy106
                    clear hy106
                    have H' := Aside0.mk H
                    clear H
                    have p101 : 0 ≤ (x5_1 : Int) := of_decide_eq_true (by first | (with_reducible assumption) | assumption)
                    have q101 : x5_1 < (l0.length : Int) := of_decide_eq_true (by first | (with_reducible assumption) | assumption)
                    obtain ⟨ad101, e101, hx101_0, hx101_1, hx101_2⟩ := at_T33 HR0.out x5_1 p101 q101
                    cases e101
                    replace hx101_0 := (HB.out.cell (World.block_lt_of_cell? w _ hx101_0)).trans hx101_0
                    replace hx101_1 := (HB.out.cell (World.block_lt_of_cell? w _ hx101_1)).trans hx101_1
                    replace hx101_2 := (HB.out.cell (World.block_lt_of_cell? w _ hx101_2)).trans hx101_2
                    replace p101 := eq_true p101
                    replace q101 := eq_true q101
                    go_wp2_with (first | ((with_reducible refine gate_dst (N := 6) rfl ?_); refine box_event ?hg (N := 6) ?hd (cs := #[.string (⟨#[]⟩ : ByteArray), .int .i64 0, .string (⟨#[]⟩ : ByteArray)]) (t := 33) ?hr ?_; (case hd => rfl); (case hg => rfl); (case hr => first | (go_simp; done) | (go_simp; rfl)); intro gb102 hg w13 hbox hb; have n0_ := Aside0.mk (Kd.R_below (Kd.R_elderB (by (with_reducible repeat (first | apply Kd.R_alloc | apply Kd.R_drewN | apply Kd.R_drew)); exact HO_3.out) gb102 (Nat.le_of_eq hg.symm)) hb); have n1_ := Aside0.mk (below_step (by repeat (first | (with_reducible first | exact HB.out | apply below_alloc | apply pw_below_drewN | apply below_drew1) | exact HB.out)) hb); have n2_ := Aside0.mk (hbox); have n3_ := Aside0.mk ((by rw [hg]; exact (below_size (by repeat (first | (with_reducible first | exact HB.out | apply below_alloc | apply pw_below_drewN | apply below_drew1) | exact HB.out))) : w.heap.size ≤ gb102)); have n4_ := Aside0.mk ((by rw [hg]; exact (below_size (by repeat (first | (with_reducible first | exact HB.out | apply below_alloc | apply pw_below_drewN | apply below_drew1) | exact HB.out))) : w.heap.size ≤ gb102)); clear HO_3; clear HB; have HO_3 := n0_; have HB := n1_; have BK102 := n2_; have GW102 := n3_; have GE102 := n4_; clear n0_ n1_ n2_ n3_ n4_; clear hb hbox hg; have hcz14_0 : w13.cell? ⟨gb102, 0, none⟩ = some (.string (⟨#[]⟩ : ByteArray)) := (blk_cell BK102.out 0).trans rfl; have hcz14_1 : w13.cell? ⟨gb102, 1, none⟩ = some (.int .i64 0) := (blk_cell BK102.out 1).trans rfl; have hcz14_2 : w13.cell? ⟨gb102, 2, none⟩ = some (.string (⟨#[]⟩ : ByteArray)) := (blk_cell BK102.out 2).trans rfl; have hfz14_0 := blk_frozen BK102.out 0; have hfz14_1 := blk_frozen BK102.out 1; have hfz14_2 := blk_frozen BK102.out 2; have hq0_ : ∀ (a_ b_ c_ d_ : Value), ((((w13.setCell ⟨gb102, 0, none⟩ a_).setCell ⟨gb102, 1, none⟩ b_).setCell ⟨gb102, 2, none⟩ c_).setCell ⟨gb102, 2, none⟩ d_).cell? ⟨gb102, 0, none⟩ = some a_ := fun a_ b_ c_ d_ => (blk_cell (blk_put (blk_put (blk_put (blk_put BK102.out 0 a_ rfl) 1 b_ rfl) 2 c_ rfl) 2 d_ rfl) 0).trans rfl; have hq1_ : ∀ (a_ b_ c_ d_ : Value), ((((w13.setCell ⟨gb102, 0, none⟩ a_).setCell ⟨gb102, 1, none⟩ b_).setCell ⟨gb102, 2, none⟩ c_).setCell ⟨gb102, 2, none⟩ d_).cell? ⟨gb102, 1, none⟩ = some b_ := fun a_ b_ c_ d_ => (blk_cell (blk_put (blk_put (blk_put (blk_put BK102.out 0 a_ rfl) 1 b_ rfl) 2 c_ rfl) 2 d_ rfl) 1).trans rfl; have hq2_ : ∀ (a_ b_ c_ d_ : Value), ((((w13.setCell ⟨gb102, 0, none⟩ a_).setCell ⟨gb102, 1, none⟩ b_).setCell ⟨gb102, 2, none⟩ c_).setCell ⟨gb102, 2, none⟩ d_).cell? ⟨gb102, 2, none⟩ = some d_ := fun a_ b_ c_ d_ => (blk_cell (blk_put (blk_put (blk_put (blk_put BK102.out 0 a_ rfl) 1 b_ rfl) 2 c_ rfl) 2 d_ rfl) 2).trans rfl) | ((with_reducible refine gate_builtin (b := .append) (xs := #[.tmp 33, .tmp 35]) rfl ?_); at_builtin; refine Kd.R_append k33 (w0 := w) w.heap.size rfl (.tmp 33) (.tmp 35) 22 33 (.agg #[(.string ⟨#[]⟩), (.int .i64 0), (.string ⟨#[]⟩)]) 40 rfl Tryd.underlying22 info33 rfl (by decide) (by omega) u3 x3_1 (⟨(rd_T33 l0 x5_1).f0, (rd_T33 l0 x5_1).f1, (rd_T33 l0 x5_1).f2⟩ : S33) [.string ((rd_T33 l0 x5_1).f0), .int .i64 ((rd_T33 l0 x5_1).f1), .string ((rd_T33 l0 x5_1).f2)] (fun k_ => k_ ≠ gb102) (fun _ => False) rfl (by first | (go_simp; done) | (go_simp; rfl)) ?aP (fun _ hk => hk.elim) ?aF ?aO ?aB ?aS ?aL ?_; (case aP => exact k33_mkM _ _ _ (⟨(rd_T33 l0 x5_1).f0, (rd_T33 l0 x5_1).f1, (rd_T33 l0 x5_1).f2⟩ : S33)); (case aB => exact (by repeat (first | (with_reducible first | exact HB.out | apply below_alloc | apply pw_below_drewN | apply below_drew1 | refine below_set ?_ GE102.out) | exact HB.out))); (case aF => exact (fun k_ hk => Kd.freshB (g := gb102) (o := .cells #[.string ((rd_T33 l0 x5_1).f0), .int .i64 ((rd_T33 l0 x5_1).f1), .string ((rd_T33 l0 x5_1).f2)] 33 (0, 0)) (by (with_reducible repeat (first | refine blk_drewN ?_ _ | refine blk_drew ?_ | refine blk_alloc ?_ _)); refine blk_put (cs := #[.string ((rd_T33 l0 x5_1).f0), .int .i64 ((rd_T33 l0 x5_1).f1), .string (⟨#[]⟩ : ByteArray)]) ?_ 2 _ rfl; (with_reducible repeat (first | refine blk_drewN ?_ _ | refine blk_drew ?_ | refine blk_alloc ?_ _)); refine blk_put (cs := #[.string ((rd_T33 l0 x5_1).f0), .int .i64 0, .string (⟨#[]⟩ : ByteArray)]) ?_ 1 _ rfl; (with_reducible repeat (first | refine blk_drewN ?_ _ | refine blk_drew ?_ | refine blk_alloc ?_ _)); refine blk_put (cs := #[.string (⟨#[]⟩ : ByteArray), .int .i64 0, .string (⟨#[]⟩ : ByteArray)]) ?_ 0 _ rfl; (with_reducible repeat (first | refine blk_drewN ?_ _ | refine blk_drew ?_ | refine blk_alloc ?_ _)); exact BK102.out) k_ hk)); (case aO => exact (by (with_reducible repeat (first | apply Kd.R_alloc | apply Kd.R_drewN | apply Kd.R_drew)); exact Kd.R_mono (Kd.R_far (p := ⟨gb102, 2, none⟩) (Kd.R_far (p := ⟨gb102, 1, none⟩) (Kd.R_far (p := ⟨gb102, 0, none⟩) (Kd.R_mono HO_3.out (fun k_ hk => (⟨hk, hk.2⟩ : _ ∧ k_ ≠ gb102))) (fun _ hk => hk.2) (.string ((rd_T33 l0 x5_1).f0))) (fun _ hk => hk.2) (.int .i64 ((rd_T33 l0 x5_1).f1))) (fun _ hk => hk.2) (.string ((rd_T33 l0 x5_1).f2))) (fun _ hk => hk.1.2))); (case aS => exact (below_size (by repeat (first | (with_reducible first | exact HB.out | apply below_alloc | apply pw_below_drewN | apply below_drew1 | refine below_set ?_ GE102.out) | exact HB.out)))); (case aL => have := LMc12.out; omega); intro v107 w15 ho hb hg hat; rw [← Ny106.out] at ho; have n0_ := Aside0.mk (blk_grown (g := gb102) (o := .cells #[.string ((rd_T33 l0 x5_1).f0), .int .i64 ((rd_T33 l0 x5_1).f1), .string ((rd_T33 l0 x5_1).f2)] 33 (0, 0)) (by (with_reducible repeat (first | refine blk_drewN ?_ _ | refine blk_drew ?_ | refine blk_alloc ?_ _)); refine blk_put (cs := #[.string ((rd_T33 l0 x5_1).f0), .int .i64 ((rd_T33 l0 x5_1).f1), .string (⟨#[]⟩ : ByteArray)]) ?_ 2 _ rfl; (with_reducible repeat (first | refine blk_drewN ?_ _ | refine blk_drew ?_ | refine blk_alloc ?_ _)); refine blk_put (cs := #[.string ((rd_T33 l0 x5_1).f0), .int .i64 0, .string (⟨#[]⟩ : ByteArray)]) ?_ 1 _ rfl; (with_reducible repeat (first | refine blk_drewN ?_ _ | refine blk_drew ?_ | refine blk_alloc ?_ _)); refine blk_put (cs := #[.string (⟨#[]⟩ : ByteArray), .int .i64 0, .string (⟨#[]⟩ : ByteArray)]) ?_ 0 _ rfl; (with_reducible repeat (first | refine blk_drewN ?_ _ | refine blk_drew ?_ | refine blk_alloc ?_ _)); exact BK102.out) hg (Kd.R_away HO_3.out (fun _ hk => hk.2))); have n1_ := Aside0.mk (hb); have n2_ := Aside0.mk (ho); clear BK102; clear HB; clear HO_3; have BK102 := n0_; have HB := n1_; have HO108 := n2_; clear n0_ n1_ n2_; clear ho hb hg hat))
                    go_roundg kj1
                    case measure => have := HK1.out; have := HJ1.out; omega
                    case rel => exact ⟨(y106), (wrap64 (x4_1 + (((rd_T33 l0 x5_1).f2).size : Int))), (wrap64 (x5_1 + 1)), (by first | rfl | (simp; done) | (simp [*]; done)), (by first | rfl | (simp; done) | (simp [*]; done)), H', ⟨by have := HK1.out; have := HJ1.out; omega⟩, ⟨by (with_reducible repeat (first | apply Kd.R_alloc | apply Kd.R_drewN | apply Kd.R_drew)); exact Kd.R_mono HO108.out (fun _ hk => trivial)⟩, ⟨by repeat (first | (with_reducible first | exact HB.out | apply below_alloc | apply pw_below_drewN | apply below_drew1 | refine below_set ?_ GE102.out) | exact HB.out)⟩⟩
                  · rw [if_neg c12] at H
                    exact absurd H (by simp)
              · rw [if_neg c6] at H
                exact absurd H (by simp)
            · rw [if_neg c5] at H
              exact absurd H (by simp)
          · replace c4 := Bool.eq_false_iff.mpr c4
            subst c4
            have H1 : (some x3_1) = some r := by rw [if_neg (show ¬ (false = true) by decide)] at H; exact H
            clear H
            have H := H1
            clear H1
            obtain rfl := Option.some.inj H
            go_wp2
            go_ret
            exact ⟨_, by first | rfl | (simp [errW_none, errW_some] <;> rfl) | (simp [*, errW_none, errW_some] <;> rfl), by (with_reducible repeat (first | apply Kd.R_alloc | apply Kd.R_drewN | apply Kd.R_drew)); exact HO_3.out, by repeat (first | (with_reducible first | exact HB.out | apply below_alloc | apply pw_below_drewN | apply below_drew1) | exact HB.out)⟩
end Go.Proofs.YtmeofdpmddjbgaaDoor.G
end
section
namespace Go.Proofs.YtmeofdpmddjbgaaDoor.G
open Go.RowKit Go.Proofs.YtmeofdpmddjbgaaDoorW.PrintWords Go.Proofs.YtmeofdpmddjbgaaDoorW.PrintLast Go.Proofs.YtmeofdpmddjbgaaDoorW.PrintMore
attribute [local go_sem] max2_int min2_int max_two min_two max_three min_three max_four min_four   -- for this text's walks alone
set_option linter.unusedVariables false
set_option linter.unusedSimpArgs false
def barquelaw10_awake.f (k : Nat)  : Option (Bool) := (image_Of.f k (([(⟨(⟨#[97]⟩ : ByteArray), 0, (⟨#[104, 105]⟩ : ByteArray)⟩ : S33)] : List (S33)))).bind fun bt195 => (if bt195.1.toList = ([1, 1, 97, 0, 2, 104, 105] : List UInt8) then (some (bt195.2 == 0)) else (some false))
theorem barquelaw10_awake.mono : ∀ k, LeO (barquelaw10_awake.f k ) (barquelaw10_awake.f (k + 1) ) := by
  intro  k
  unfold barquelaw10_awake.f
  repeat' first
      | (with_reducible exact image_Of.mono _ _)
      | (with_reducible exact LeO.refl _)
      | (with_reducible exact LeO.none _)
      | (with_reducible refine LeO.ite ?_ ?_)
      | (with_reducible refine LeO.bind ?_ (fun _ => ?_))
      | exact image_Of.mono _ _
      | exact LeO.none _
      | refine LeO.ite ?_ ?_
      | refine LeO.bind ?_ (fun _ => ?_)
set_option maxHeartbeats 8000000 in
set_option maxRecDepth 100000 in
theorem barquelaw10_awake.calls (k : Nat)  (r : Bool) (w : World) (h : barquelaw10_awake.f k  = some r) :
    Calls Tryd.prog 15 #[] w fun e w' => e = .returned (.bool r) ∧ Below w.heap.size w w' := by
  have hu33 := Tryd.underlying33
  have HB := Aside0.mk (Below.refl w.heap.size w)
  have H : ((image_Of.f k (([(⟨(⟨#[97]⟩ : ByteArray), 0, (⟨#[104, 105]⟩ : ByteArray)⟩ : S33)] : List (S33)))).bind fun bt195 => (if bt195.1.toList = ([1, 1, 97, 0, 2, 104, 105] : List UInt8) then (some (bt195.2 == 0)) else (some false))) = some r := h
  clear h
  obtain ⟨y192, hy192⟩ : ∃ y_ : List (S33), y_ = (([(⟨(⟨#[97]⟩ : ByteArray), 0, (⟨#[104, 105]⟩ : ByteArray)⟩ : S33)] : List (S33))) := ⟨_, rfl⟩
  replace H : ((image_Of.f k y192).bind fun bt195 => (if bt195.1.toList = ([1, 1, 97, 0, 2, 104, 105] : List UInt8) then (some (bt195.2 == 0)) else (some false))) = some r := by first | (rw [hy192]; with_reducible exact H) | (have H2_ := (Option.bind_some _ _).symm.trans H; rw [hy192]; with_reducible exact H2_) | (have H2_ := (Option.bind_some _ _).symm.trans H; with_reducible exact H2_) | with_reducible exact H | (rw [hy192]; exact H) | exact H
  have Ny192 := Aside0.mk hy192
  clear hy192
  replace H := Option.bind_eq_some_iff.mp H
  obtain ⟨⟨t195, t196⟩, A10, H⟩ := H
  replace H : (if t195.toList = ([1, 1, 97, 0, 2, 104, 105] : List UInt8) then (some (t196 == 0)) else (some false)) = some r := H
  have A1 := Aside0.mk A10
  clear A10
  by_cases c2 : t195.toList = ([1, 1, 97, 0, 2, 104, 105] : List UInt8)
  · rw [if_pos c2] at H
    have c2b0 : (t195.toList == ([1, 1, 97, 0, 2, 104, 105] : List UInt8)) = true := beq_iff_eq.mpr c2
    have c2b1 : (t195.toList != ([1, 1, 97, 0, 2, 104, 105] : List UInt8)) = false := bne_eq_false_iff_eq.mpr c2
    clear c2
    obtain rfl := Option.some.inj H
    go_enter Tryd.func15, Tryd.ntmps15
    go_wp2_with (first | ((with_reducible refine gate_dst (N := 5) rfl ?_); refine Kd.R_lit k33 _ 33 ?hg (N := 5) ?hd (xs := ([(⟨(⟨#[97]⟩ : ByteArray), 0, (⟨#[104, 105]⟩ : ByteArray)⟩ : S33)] : List (S33))) (inner := [.string (⟨#[97]⟩ : ByteArray), .int .i64 0, .string (⟨#[104, 105]⟩ : ByteArray)]) (ok := fun _ => True) (okp := fun _ => True) ?hr ?hp (fun _ hk => hk) trivial (Below.refl _ _) (Nat.le_refl _) (by simp) ?_; (case hd => rfl); (case hg => rfl); (case hr => first | (go_simp; done) | (go_simp; rfl)); (case hp => exact (Reps.c3 (show Kd.M k33 _ _ _ (⟨(⟨#[97]⟩ : ByteArray), 0, (⟨#[104, 105]⟩ : ByteArray)⟩ : S33) [.string (⟨#[97]⟩ : ByteArray), .int .i64 0, .string (⟨#[104, 105]⟩ : ByteArray)] from (k33_mkM _ _ _ (⟨(⟨#[97]⟩ : ByteArray), 0, (⟨#[104, 105]⟩ : ByteArray)⟩ : S33) )) (Reps.none _ _))); intro v193 w3 ho4 hb hg_ hnew_; clear hg_ hnew_; (first | rw [← Ny192.out] at ho4 | (simp only [Int.reduceToNat] at ho4; rw [← Ny192.out] at ho4)); have n0_ := Aside0.mk (Kd.R_lower ho4 (below_size (by repeat (first | (with_reducible first | exact HB.out | apply below_alloc | apply pw_below_drewN | apply below_drew1) | exact HB.out)))); have n1_ := Aside0.mk (below_step (by repeat (first | (with_reducible first | exact HB.out | apply below_alloc | apply pw_below_drewN | apply below_drew1) | exact HB.out)) hb); clear HB; have HO194 := n0_; have HB := n1_; clear n0_ n1_; clear hb ho4; obtain ⟨Ao5, co5, eo5⟩ := Kd.R_slice HO194.out; subst eo5) | ((with_reducible refine gate_callee (f := 12) rfl ?_); refine goesL_ (some 6) rfl rfl Tryd.func12 (by kernel_rfl) rfl #[.slice Ao5 y192.length co5] rfl (by (try simp only [List.map_toArray, List.map_cons, List.map_nil]); first | done | rfl | (simp only [List.length_drop, List.length_take]; rfl)) ?_; (with_reducible refine (image_Of.calls k _ _ y192 t195 t196 _ ?side1 ?side2 A1.out).mono ?_); (case side1 => repeat (first | exact (Kd.R_reads' HO194.out).2.2 | (with_reducible refine Kd.C_alloc ?_ _) | (with_reducible refine Kd.C_drewN ?_ _) | (with_reducible refine Kd.C_drew ?_))); (case side2 => exact (Kd.R_reads' HO194.out).2.1); rintro e w6 ⟨rfl, hb⟩; refine ⟨_, rfl, ?_⟩; have n0_ := Aside0.mk (Kd.R_below (by (with_reducible repeat (first | apply Kd.R_alloc | apply Kd.R_drewN | apply Kd.R_drew)); exact HO194.out) hb); have n1_ := Aside0.mk (below_step (by repeat (first | (with_reducible first | exact HB.out | apply below_alloc | apply pw_below_drewN | apply below_drew1) | exact HB.out)) hb); clear HO194; clear HB; have HO194 := n0_; have HB := n1_; clear n0_ n1_; (try clear hb); (try clear hb2); (try clear hk); (try clear hi)))
    go_ret
    exact ⟨by first | rfl | (simp [errW_none, errW_some] <;> rfl) | (simp [*, errW_none, errW_some] <;> rfl), by repeat (first | (with_reducible first | exact HB.out | apply below_alloc | apply pw_below_drewN | apply below_drew1) | exact HB.out)⟩
  · rw [if_neg c2] at H
    have c2b0 : (t195.toList == ([1, 1, 97, 0, 2, 104, 105] : List UInt8)) = false := beq_eq_false_iff_ne.mpr c2
    have c2b1 : (t195.toList != ([1, 1, 97, 0, 2, 104, 105] : List UInt8)) = true := bne_iff_ne.mpr c2
    obtain rfl := Option.some.inj H
    go_enter Tryd.func15, Tryd.ntmps15
    go_wp2_with (first | ((with_reducible refine gate_dst (N := 5) rfl ?_); refine Kd.R_lit k33 _ 33 ?hg (N := 5) ?hd (xs := ([(⟨(⟨#[97]⟩ : ByteArray), 0, (⟨#[104, 105]⟩ : ByteArray)⟩ : S33)] : List (S33))) (inner := [.string (⟨#[97]⟩ : ByteArray), .int .i64 0, .string (⟨#[104, 105]⟩ : ByteArray)]) (ok := fun _ => True) (okp := fun _ => True) ?hr ?hp (fun _ hk => hk) trivial (Below.refl _ _) (Nat.le_refl _) (by simp) ?_; (case hd => rfl); (case hg => rfl); (case hr => first | (go_simp; done) | (go_simp; rfl)); (case hp => exact (Reps.c3 (show Kd.M k33 _ _ _ (⟨(⟨#[97]⟩ : ByteArray), 0, (⟨#[104, 105]⟩ : ByteArray)⟩ : S33) [.string (⟨#[97]⟩ : ByteArray), .int .i64 0, .string (⟨#[104, 105]⟩ : ByteArray)] from (k33_mkM _ _ _ (⟨(⟨#[97]⟩ : ByteArray), 0, (⟨#[104, 105]⟩ : ByteArray)⟩ : S33) )) (Reps.none _ _))); intro v193 w7 ho8 hb hg_ hnew_; clear hg_ hnew_; (first | rw [← Ny192.out] at ho8 | (simp only [Int.reduceToNat] at ho8; rw [← Ny192.out] at ho8)); have n0_ := Aside0.mk (Kd.R_lower ho8 (below_size (by repeat (first | (with_reducible first | exact HB.out | apply below_alloc | apply pw_below_drewN | apply below_drew1) | exact HB.out)))); have n1_ := Aside0.mk (below_step (by repeat (first | (with_reducible first | exact HB.out | apply below_alloc | apply pw_below_drewN | apply below_drew1) | exact HB.out)) hb); clear HB; have HO194 := n0_; have HB := n1_; clear n0_ n1_; clear hb ho8; obtain ⟨Ao9, co9, eo9⟩ := Kd.R_slice HO194.out; subst eo9) | ((with_reducible refine gate_callee (f := 12) rfl ?_); refine goesL_ (some 6) rfl rfl Tryd.func12 (by kernel_rfl) rfl #[.slice Ao9 y192.length co9] rfl (by (try simp only [List.map_toArray, List.map_cons, List.map_nil]); first | done | rfl | (simp only [List.length_drop, List.length_take]; rfl)) ?_; (with_reducible refine (image_Of.calls k _ _ y192 t195 t196 _ ?side1 ?side2 A1.out).mono ?_); (case side1 => repeat (first | exact (Kd.R_reads' HO194.out).2.2 | (with_reducible refine Kd.C_alloc ?_ _) | (with_reducible refine Kd.C_drewN ?_ _) | (with_reducible refine Kd.C_drew ?_))); (case side2 => exact (Kd.R_reads' HO194.out).2.1); rintro e w10 ⟨rfl, hb⟩; refine ⟨_, rfl, ?_⟩; have n0_ := Aside0.mk (Kd.R_below (by (with_reducible repeat (first | apply Kd.R_alloc | apply Kd.R_drewN | apply Kd.R_drew)); exact HO194.out) hb); have n1_ := Aside0.mk (below_step (by repeat (first | (with_reducible first | exact HB.out | apply below_alloc | apply pw_below_drewN | apply below_drew1) | exact HB.out)) hb); clear HO194; clear HB; have HO194 := n0_; have HB := n1_; clear n0_ n1_; (try clear hb); (try clear hb2); (try clear hk); (try clear hi)))
    go_ret
    exact ⟨by first | rfl | (simp [errW_none, errW_some] <;> rfl) | (simp [*, errW_none, errW_some] <;> rfl), by repeat (first | (with_reducible first | exact HB.out | apply below_alloc | apply pw_below_drewN | apply below_drew1) | exact HB.out)⟩
end Go.Proofs.YtmeofdpmddjbgaaDoor.G
end
section
namespace Go.Proofs.YtmeofdpmddjbgaaDoor.G
open Go.RowKit Go.Proofs.YtmeofdpmddjbgaaDoorW.PrintWords Go.Proofs.YtmeofdpmddjbgaaDoorW.PrintLast Go.Proofs.YtmeofdpmddjbgaaDoorW.PrintMore
set_option linter.unusedVariables false
set_option linter.unusedSimpArgs false
theorem awakeI_ev : Ev (fun k => barquelaw10_awake.f k) true := Ev.of (fun k => barquelaw10_awake.mono k) (k := 60) (by kernel_rfl)
end Go.Proofs.YtmeofdpmddjbgaaDoor.G
end
