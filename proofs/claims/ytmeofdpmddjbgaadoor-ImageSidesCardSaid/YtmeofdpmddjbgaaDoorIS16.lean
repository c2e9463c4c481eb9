/- Texts of this session's claim of ImageSides, less what its theorem does not reach. No condition. -/
import Derived.ChangeArms
import Derived.ChangeOld
import Derived.DataReads
import Derived.Deep.Slices
import Derived.OpenShut
import Derived.ProofKit
import Derived.SizedLaws
import Derived.SliceStrings
import Derived.Test.YtmeofdpmddjbgaaDoorIS11
import Derived.Test.YtmeofdpmddjbgaaDoorIS12
import Derived.Test.YtmeofdpmddjbgaaDoorIS14
import Derived.Test.YtmeofdpmddjbgaaDoorIS15
section
namespace Go.Proofs.YtmeofdpmddjbgaaDoor.G
open Go.RowKit Go.Proofs.YtmeofdpmddjbgaaDoorW.PrintWords Go.Proofs.YtmeofdpmddjbgaaDoorW.PrintLast Go.Proofs.YtmeofdpmddjbgaaDoorW.PrintMore
set_option linter.unusedVariables false
set_option linter.unusedSimpArgs false
theorem imageE_size_ (l : List S33) : (imageE l).1.size ≤ 524288 := by
 unfold imageE
 split
 ·split
  ·exact Nat.zero_le _
  ·rename_i c
   show (bodyL l).toArray.size ≤ 524288
   rw [List.size_toArray]
   omega
 ·exact Nat.zero_le _
theorem finE_err (o : List S33 × List ByteArray) (h : (finE o).2.2 ≠ 0) : (finE o).1 = ⟨#[]⟩ := by
 unfold finE at h ⊢
 by_cases q : (imageE o.1).2 = 0
 ·rw [if_pos q] at h; exact absurd rfl h
 ·rw [if_neg q]
theorem Sides_j2 (x y z : List S33) (ps : List ByteArray) (hps : ps.length ≤ 768) (u v : ByteArray × List ByteArray × Int) (hu : u = finE (goE x y z ps [] [])) (hv : v = finE (goE x z y ps [] [])) (q : Bool) (hq : q = true ↔ (u.2.2 ≠ 0 ∨ v.2.2 ≠ 0)) :
  Ev (fun k => barquelaw10_ImageSides.j2 k u.1 u.2.1 u.2.2 v.1 v.2.1 v.2.2 q) true := by
 have hlu := finE_len x y z ps hps
 have e0 : (⟨#[]⟩ : ByteArray).toList = [] := by rw [toList_data_]
 apply Ev.step
 ·intro k; rw [barquelaw10_ImageSides.j2]
 cases q with
 | true =>
  have h := hq.1 rfl
  simp only [↓reduceIte]
  by_cases c1 : u.2.2 = 0
  ·simp only [c1, ↓reduceIte]
   by_cases c2 : v.2.2 = 0
   ·simp only [c2, ↓reduceIte]
    exact Ev.bind awakeI_ev (Ev.now _)
   ·have e2 : v.1 = ⟨#[]⟩ := by rw [hv] at c2 ⊢; exact finE_err _ c2
    simp only [c2, e2, e0, ↓reduceIte]
    exact Ev.bind awakeI_ev (Ev.now _)
  ·have e1 : u.1 = ⟨#[]⟩ := by rw [hu] at c1 ⊢; exact finE_err _ c1
   simp only [c1, e1, e0, ↓reduceIte]
   by_cases c2 : v.2.2 = 0
   ·simp only [c2, ↓reduceIte]
    exact Ev.bind awakeI_ev (Ev.now _)
   ·have e2 : v.1 = ⟨#[]⟩ := by rw [hv] at c2 ⊢; exact finE_err _ c2
    simp only [c2, e2, e0, ↓reduceIte]
    exact Ev.bind awakeI_ev (Ev.now _)
 | false =>
  have h : ¬ (u.2.2 ≠ 0 ∨ v.2.2 ≠ 0) := fun e => by have := hq.2 e; cases this
  have c1 : u.2.2 = 0 := Decidable.byContradiction fun e => h (.inl e)
  have c2 : v.2.2 = 0 := Decidable.byContradiction fun e => h (.inr e)
  rw [goE_eq, List.nil_append, List.nil_append] at hu hv
  obtain ⟨s1, s2⟩ := both_sym x y z ps
  have hu2 : u.2.1 = toldE x y z ps := by
   rw [hu] at c1 ⊢
   unfold finE at c1 ⊢
   by_cases g : (imageE (gotE x y z ps)).2 = 0
   ·rw [if_pos g]
   ·rw [if_neg g] at c1; exact absurd c1 g
  have hv2 : v.2.1 = toldE x y z ps := by
   rw [s1]
   rw [hv] at c2 ⊢
   unfold finE at c2 ⊢
   by_cases g : (imageE (gotE x z y ps)).2 = 0
   ·rw [if_pos g]
   ·rw [if_neg g] at c2; exact absurd c2 g
  have htl : (toldE x y z ps).length ≤ 768 := Nat.le_trans (List.length_filter_le _ _) hps
  simp only [Bool.false_eq_true, ↓reduceIte, hu2, hv2]
  refine Ev.bind (texts_ev _ (by omega)) ?_
  simp only [↓reduceIte]
  by_cases c3 : ((toldE x y z ps).length : Int) > 0
  ·simp only [c3, ↓reduceIte]
   exact Ev.bind awakeI_ev (Ev.now _)
  ·have e3 : toldE x y z ps = [] := List.eq_nil_of_length_eq_zero (by omega)
   have e4 : u.1 = v.1 := by rw [hu, hv, s2 e3, s1]
   simp only [c3, e4, ↓reduceIte]
   exact Ev.bind awakeI_ev (Ev.now _)
theorem Sides_j0 (x y z : List S33) (hx : (imageE x).2 = 0) (hy : (imageE y).2 = 0) (hz : (imageE z).2 = 0) : Ev (fun k => barquelaw10_ImageSides.j0 k (imageE x).1 (imageE y).1 (imageE z).1 false) true := by
 have tx := tree_image x hx
 have ty := tree_image y hy
 have tz := tree_image z hz
 have sx := imageE_size_ x
 have sy := imageE_size_ y
 have sz := imageE_size_ z
 obtain ⟨a, ha⟩ : ∃ a, (imageE x).1 = a := ⟨_, rfl⟩
 obtain ⟨b, hb⟩ : ∃ b, (imageE y).1 = b := ⟨_, rfl⟩
 obtain ⟨c, hc⟩ : ∃ c, (imageE z).1 = c := ⟨_, rfl⟩
 rw [ha] at tx sx ⊢
 rw [hb] at ty sy ⊢
 rw [hc] at tz sz ⊢
 have ix := image_tree a (by rw [tx])
 have iy := image_tree b (by rw [ty])
 have lx := treeE_tree a (by rw [tx])
 have ly := treeE_tree b (by rw [ty])
 have lz := treeE_tree c (by rw [tz])
 rw [tx] at ix lx
 rw [ty] at iy ly
 rw [tz] at lz
 obtain ⟨p1, g1, h1, m1⟩ := imagemerge_ok a a b (by omega) (by omega) (by omega) (by rw [tx]) (by rw [tx]) (by rw [ty])
 obtain ⟨p2, g2, h2, m2⟩ := imagemerge_ok a b a (by omega) (by omega) (by omega) (by rw [tx]) (by rw [ty]) (by rw [tx])
 obtain ⟨p3, g3, h3, m3⟩ := imagemerge_ok a b c (by omega) (by omega) (by omega) (by rw [tx]) (by rw [ty]) (by rw [tz])
 obtain ⟨p4, g4, h4, m4⟩ := imagemerge_ok a c b (by omega) (by omega) (by omega) (by rw [tx]) (by rw [tz]) (by rw [ty])
 rw [tx, ty] at g1 m1 g2 m2
 rw [tx, ty, tz] at g3 m3 g4 m4
 have e34 : p4 = p3 := g4.uniq g3.swap
 subst e34
 rw [side_a x y p1 ly.so g1] at m1
 rw [side_b x y p2 ly.so g2] at m2
 have fin : finE (y, []) = (b, [], 0) := by
  unfold finE
  have iy2 : imageE y = (b, 0) := iy
  rw [iy2]
  simp
 rw [fin] at m1 m2
 apply Ev.step
 ·intro k; rw [barquelaw10_ImageSides.j0]
 simp only [Bool.false_eq_true, ↓reduceIte]
 refine Ev.bind m1 (Ev.bind m2 ?_)
 simp only [List.length_nil, Int.natCast_zero, bne_self_eq_false, ↓reduceIte]
 apply Ev.step
 ·intro k; rw [barquelaw10_ImageSides.j1]
 simp only [Bool.false_eq_true, ↓reduceIte]
 refine Ev.bind m3 (Ev.bind m4 ?_)
 obtain ⟨u, hu⟩ : ∃ u, finE (goE x y z p4 [] []) = u := ⟨_, rfl⟩
 obtain ⟨v, hv⟩ : ∃ v, finE (goE x z y p4 [] []) = v := ⟨_, rfl⟩
 rw [hu, hv]
 by_cases c1 : u.2.2 = 0
 ·have := Sides_j2 x y z p4 h3 u v hu.symm hv.symm (v.2.2 != 0) (by simp [c1])
  simp only [c1, ↓reduceIte] at this ⊢
  exact this
 ·have := Sides_j2 x y z p4 h3 u v hu.symm hv.symm true (by simp [c1])
  simp only [c1, ↓reduceIte]
  exact this
theorem ImageSides_pure (l0 l1 l2 : List S33) (h0 : l0.length ≤ 9223372036854775807) (h1 : l1.length ≤ 9223372036854775807) (h2 : l2.length ≤ 9223372036854775807) : ∃ k, barquelaw10_ImageSides.f k l0 l1 l2 = some true := by
 refine Ev.rounds ?_
 unfold barquelaw10_ImageSides.f
 obtain ⟨x, x1, x2⟩ := few_ev l0 h0
 obtain ⟨y, y1, y2⟩ := few_ev l1 h1
 obtain ⟨z, z1, z2⟩ := few_ev l2 h2
 refine Ev.bind x2 (Ev.bind (imageOf_ev x (by omega)) (Ev.bind y2 (Ev.bind (imageOf_ev y (by omega)) (Ev.bind z2 (Ev.bind (imageOf_ev z (by omega)) ?_)))))
 have bad : Ev (fun k => barquelaw10_ImageSides.j0 k (imageE x).1 (imageE y).1 (imageE z).1 true) true := by
  apply Ev.step
  ·intro k; rw [barquelaw10_ImageSides.j0]
  simp only [↓reduceIte]
  exact Ev.bind awakeI_ev (Ev.now _)
 by_cases c1 : (imageE x).2 = 0
 ·by_cases c2 : (imageE y).2 = 0
  ·simp only [c1, c2, ↓reduceIte]
   by_cases c3 : (imageE z).2 = 0
   ·have := Sides_j0 x y z c1 c2 c3
    rw [c3]
    exact this
   ·rw [show ((imageE z).2 != 0) = true from bne_iff_ne.mpr c3]
    exact bad
  ·simp only [c1, c2, ↓reduceIte]
   exact bad
 ·simp only [c1, ↓reduceIte]
  exact bad
end Go.Proofs.YtmeofdpmddjbgaaDoor.G
end
section
namespace Go.Proofs.YtmeofdpmddjbgaaDoor.Open
open Go.RowKit Go.ChangeShapes Go.Proofs.YtmeofdpmddjbgaaDoorW.PrintWords Go.Proofs.YtmeofdpmddjbgaaDoorW.PrintMore Go.Proofs.YtmeofdpmddjbgaaDoor.G
set_option linter.unusedVariables false
theorem laidOut : laidOutB Tryd.prog = true := by kernel_rfl
theorem C_of_cells {α : Type} (d : Kd α) (w : World) (a : Addr) (n : Nat) (xs : List α) (hlen : xs.length = n) (hn : n ≤ 9223372036854775807)
  (h : ∀ j p, xs[j]? = some p → ∃ c, d.K w p c ∧ w.cells? 0 (a.add (j * d.sz)) d.sz = some c) : Kd.C d w (some a) n xs := by
 refine ⟨hlen, hn, fun _ => ⟨a, rfl, fun j p hp => ?_⟩⟩
 obtain ⟨c, hk, hc⟩ := h j p hp
 obtain ⟨_, hl, hi⟩ := World.cells?_some hc
 refine ⟨c, d.K_len hk, hk, fun i u hu => ?_⟩
 have hlt : i < d.sz := by
  have := (List.getElem?_eq_some_iff.1 hu).1
  omega
 have h2 := hi i (by omega)
 rw [Addr.add_add] at h2
 rw [h2, hu]
theorem pick_list {α : Type} (n : Nat) (P : Nat → α → Prop) (h : ∀ i, i < n → ∃ x, P i x) : ∃ l : List α, l.length = n ∧ ∀ j p, l[j]? = some p → j < n ∧ P j p := by
 induction n with
 | zero => exact ⟨[], rfl, fun j p hp => by simp at hp⟩
 | succ n ih =>
  obtain ⟨l, hl, hp⟩ := ih (fun i hi => h i (by omega))
  obtain ⟨x, hx⟩ := h n (by omega)
  refine ⟨l ++ [x], by simp [hl], fun j p hj => ?_⟩
  rcases Nat.lt_or_ge j n with hlt | hge
  ·rw [List.getElem?_append_left (by omega)] at hj
   exact ⟨by omega, (hp j p hj).2⟩
  ·have hlt2 := (List.getElem?_eq_some_iff.1 hj).1
   rw [List.length_append, List.length_singleton] at hlt2
   obtain rfl : j = n := by omega
   rw [List.getElem?_append_right (by omega), hl, Nat.sub_self] at hj
   have : x = p := by simpa using hj
   subst this
   exact ⟨by omega, hx⟩
theorem list3 {α : Type} (l : List α) (h : l.length = 3) : ∃ a b c, l = [a, b, c] := by
 match l, h with
 | [a, b, c], _ => exact ⟨a, b, c, rfl⟩
/-- A slice of files that came in, as it is read. -/
theorem files {H : Type} {enc : TypeId × Value → H} {W : World} {a : Option Addr} {len cap : Nat} {d : DataW H} {p : List MemPlace}
  (h : DataW.Trod enc Tryd.prog W 0 (fun _ => true) true 22 (.slice a len cap) d p) :
  ∃ l : List S33, l.length = len ∧ len ≤ cap ∧ len ≤ 9223372036854775807 ∧ Kd.C k33 W a len l := by
 obtain ⟨fuel, hf⟩ := h
 rcases Go.Deep.open_slice Tryd.underlying22 hf with ⟨hcs, _⟩ | ⟨b, l', c', m, n, D, Pl, hcs, _, hl, hm, hmm, _, hel⟩
 ·simp [Value.cells] at hcs
  obtain ⟨rfl, rfl, rfl⟩ := hcs
  exact ⟨[], rfl, Nat.le_refl _, by omega, Kd.C_nil _ _⟩
 ·simp [Value.cells] at hcs
  obtain ⟨rfl, rfl, rfl⟩ := hcs
  have c3 : Tryd.prog.cellsOf 33 = 3 := by kernel_rfl
  have hmax : maxLen = 9223372036854775807 := rfl
  obtain ⟨l, hll, hp⟩ := pick_list len (fun i (x : S33) => W.cells? 0 (b.add (i * 3)) 3 = some [.string x.f0, .int .i64 x.f1, .string x.f2]) (fun i hi => by
   obtain ⟨cs', hc, ht⟩ := hel i (by rw [hmm]; simp; omega)
   rw [c3] at hc
   obtain ⟨xs, k, _, _, hlen, hxl, hx⟩ := DataW.trod_struct Tryd.underlying33 ht
   rw [c3] at hlen
   obtain ⟨u0, u1, u2, rfl⟩ := list3 cs' hlen
   have e0 := hx 0 _ rfl
   have e1 := hx 1 _ rfl
   have e2 := hx 2 _ rfl
   have hs : xs.length = 3 := hxl
   rw [List.getElem?_eq_getElem (by omega)] at e0 e1 e2
   have cs_ : Tryd.prog.cellsOf 9 = 1 := by kernel_rfl
   have ci_ : Tryd.prog.cellsOf 3 = 1 := by kernel_rfl
   obtain ⟨s0, h0, _⟩ := DataW.trod_string Tryd.underlying9 e0
   obtain ⟨n1, h1, _⟩ := DataW.trod_int Tryd.underlying3 e1
   obtain ⟨s2, h2, _⟩ := DataW.trod_string Tryd.underlying9 e2
   have g0 : (([u0, u1, u2] : List Value).drop 0).take (Tryd.prog.cellsOf 9) = [.string s0] := h0
   have g1 : (([u0, u1, u2] : List Value).drop 1).take (Tryd.prog.cellsOf 3) = [.int .i64 n1] := h1
   have g2 : (([u0, u1, u2] : List Value).drop 2).take (Tryd.prog.cellsOf 9) = [.string s2] := h2
   rw [cs_] at g0 g2
   rw [ci_] at g1
   obtain rfl : u0 = .string s0 := (List.cons.inj g0).1
   obtain rfl : u1 = .int .i64 n1 := (List.cons.inj g1).1
   obtain rfl : u2 = .string s2 := (List.cons.inj g2).1
   exact ⟨⟨s0, n1, s2⟩, hc⟩)
  exact ⟨l, hll, hl, by omega, C_of_cells k33 W b len l hll (by omega) (fun j p hj => ⟨_, k33_mk W p, (hp j p hj).2⟩)⟩
end Go.Proofs.YtmeofdpmddjbgaaDoor.Open
end
