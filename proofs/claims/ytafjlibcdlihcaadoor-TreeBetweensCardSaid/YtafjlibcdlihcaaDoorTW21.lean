/- Texts of this session's claim of TreeBetweens, less what its theorem does not reach. No condition. -/
import Derived.ChangeArms
import Derived.ChangeOld
import Derived.DataReads
import Derived.Deep.Slices
import Derived.OpenShut
import Derived.ProofKit
import Derived.SizedLaws
import Derived.SliceStrings
import Derived.Test.YtafjlibcdlihcaaDoorTW13
import Derived.Test.YtafjlibcdlihcaaDoorTW16
import Derived.Test.YtafjlibcdlihcaaDoorTW17
import Derived.Test.YtafjlibcdlihcaaDoorTW19
import Derived.Test.YtafjlibcdlihcaaDoorTW20
section
namespace Go.Proofs.YtafjlibcdlihcaaDoor.G
open Go.RowKit Go.Proofs.YtafjlibcdlihcaaDoorW.PrintWords Go.Proofs.YtafjlibcdlihcaaDoorW.PrintLast Go.Proofs.YtafjlibcdlihcaaDoorW.PrintMore
set_option linter.unusedVariables false
set_option linter.unusedSimpArgs false
theorem awakeB_ev : Ev (fun k => barquelaw09_awake.f k) true := Ev.of (fun k => barquelaw09_awake.mono k) (k := 60) (by kernel_rfl)
theorem TreeBetweens_l0 (l : List S44) (hl : l.length ≤ 4294967296) : ∀ (d i : Nat), l.length - i = d → i ≤ l.length → Ev (fun k => barquelaw09_TreeBetweens.l0 k l l i) true := by
  intro d
  induction d with
  | zero =>
    intro i hd hi
    have e : i = l.length := by omega
    subst e
    apply Ev.step
    · intro k; rw [barquelaw09_TreeBetweens.l0]
    have c1 : ¬ ((l.length : Int) < (l.length : Int)) := by omega
    simp only [c1, ↓reduceIte]
    exact Ev.bind awakeB_ev (Ev.now _)
  | succ d ih =>
    intro i hd hi
    have hlt : i < l.length := by omega
    apply Ev.step
    · intro k; rw [barquelaw09_TreeBetweens.l0]
    have c1 : ((i : Int) < (l.length : Int)) := by omega
    have c2 : (0 : Int) ≤ (i : Int) := by omega
    have hw : wrap64 ((i : Int) + 1) = ((i + 1 : Nat) : Int) := by rw [w64_ (by omega) (by omega)]; omega
    simp only [c1, c2, ↓reduceIte, hw, beq_self_eq_true, Bool.not_true, Bool.or_self, Bool.false_eq_true]
    exact ih (i + 1) (by omega) (by omega)
theorem union_le : ∀ (a b : List S56), (mergeE a b).length ≤ a.length + b.length
  | [], [] => by rw [mergeE]; exact Nat.zero_le _
  | x :: a, [] => by
    have := union_le a []
    rw [mergeE, List.length_cons, List.length_cons]
    simp at this ⊢
    omega
  | [], y :: b => by
    have := union_le [] b
    rw [mergeE, List.length_cons, List.length_cons]
    simp at this ⊢
    omega
  | x :: a, y :: b => by
    rw [mergeE]
    have h1 := union_le a (y :: b)
    have h2 := union_le (x :: a) b
    have h3 := union_le a b
    have h4 : (chgE x y).length ≤ 1 := by
      unfold chgE
      split
      · exact Nat.le_refl _
      · split
        · exact Nat.le_refl _
        · exact Nat.zero_le _
    simp only [List.length_cons] at h1 h2 ⊢
    split
    · rw [List.length_cons]; omega
    · split
      · rw [List.length_cons]; omega
      · rw [List.length_append]; omega
termination_by a b => a.length + b.length
theorem TreeBetweens_pure (a b : List S56) (ha : a.length ≤ 9223372036854775807) (hb : b.length ≤ 9223372036854775807) : ∃ k, barquelaw09_TreeBetweens.f k a b = some true := by
  refine Ev.rounds ?_
  unfold barquelaw09_TreeBetweens.f
  have key : ∀ t : Bool, (t = false → a.length ≤ 60 ∧ b.length ≤ 60) → Ev (fun k => barquelaw09_TreeBetweens.j0 k a b t) true := fun t ht => by
    apply Ev.step
    · intro k; rw [barquelaw09_TreeBetweens.j0]
    cases t with
    | true =>
      simp only [↓reduceIte]
      exact Ev.bind awakeB_ev (Ev.now _)
    | false =>
      obtain ⟨g1, g2⟩ := ht rfl
      simp only [Bool.false_eq_true, ↓reduceIte]
      refine Ev.bind (between_ev a b g1 g2) (Ev.bind (refbetween_ev a b g1 g2) ?_)
      have hne : (((betweenE a b).1.length : Int) != ((betweenE a b).1.length : Int)) = false := by simp
      simp only [↓reduceIte, hne]
      apply Ev.step
      · intro k; rw [barquelaw09_TreeBetweens.j1]
      simp only [Bool.false_eq_true, ↓reduceIte]
      have hle : (betweenE a b).1.length ≤ 120 := by
        have := union_le a b
        unfold betweenE
        split
        · split
          · show (mergeE a b).length ≤ 120
            omega
          · exact Nat.zero_le _
        · exact Nat.zero_le _
      have := TreeBetweens_l0 (betweenE a b).1 (by omega) _ 0 rfl (by omega)
      simpa using this
  by_cases h : (a.length : Int) > 60
  · simp only [h, ↓reduceIte]
    exact key true (fun e => by cases e)
  · simp only [h, ↓reduceIte]
    refine key _ (fun e => ?_)
    have := of_decide_eq_false e
    exact ⟨by omega, by omega⟩
end Go.Proofs.YtafjlibcdlihcaaDoor.G
end
section
namespace Go.Proofs.YtafjlibcdlihcaaDoor.Open
open Go.RowKit Go.ChangeShapes Go.Proofs.YtafjlibcdlihcaaDoorW.PrintWords Go.Proofs.YtafjlibcdlihcaaDoorW.PrintMore Go.Proofs.YtafjlibcdlihcaaDoor.G
set_option linter.unusedVariables false
theorem laidOut : laidOutB Tryd.prog = true := by kernel_rfl
theorem C_of_cells {α : Type} (d : Kd α) (w : World) (a : Addr) (n : Nat) (xs : List α) (hlen : xs.length = n) (hn : n ≤ 9223372036854775807)
    (h : ∀ j p, xs[j]? = some p → ∃ c, d.K w p c ∧ w.cells? 0 (a.add (j * d.sz)) d.sz = some c) : Kd.C d w (some a) n xs := by
  refine ⟨hlen, hn, fun _ => ⟨a, rfl, fun j p hp => ?_⟩⟩
  obtain ⟨c, hk, hc⟩ := h j p hp
  obtain ⟨_, hl, hi⟩ := World.cells?_some hc
  refine ⟨c, d.K_len hk, hk, fun i u hu => ?_⟩
  have hlt : i < d.sz := by
    have := (List.getElem?_eq_some_iff.1 hu).1
    omega
  have h2 := hi i (by omega)
  rw [Addr.add_add] at h2
  rw [h2, hu]
theorem pick_list {α : Type} (n : Nat) (P : Nat → α → Prop) (h : ∀ i, i < n → ∃ x, P i x) : ∃ l : List α, l.length = n ∧ ∀ j p, l[j]? = some p → j < n ∧ P j p := by
  induction n with
  | zero => exact ⟨[], rfl, fun j p hp => by simp at hp⟩
  | succ n ih =>
    obtain ⟨l, hl, hp⟩ := ih (fun i hi => h i (by omega))
    obtain ⟨x, hx⟩ := h n (by omega)
    refine ⟨l ++ [x], by simp [hl], fun j p hj => ?_⟩
    rcases Nat.lt_or_ge j n with hlt | hge
    · rw [List.getElem?_append_left (by omega)] at hj
      exact ⟨by omega, (hp j p hj).2⟩
    · have hlt2 := (List.getElem?_eq_some_iff.1 hj).1
      rw [List.length_append, List.length_singleton] at hlt2
      obtain rfl : j = n := by omega
      rw [List.getElem?_append_right (by omega), hl, Nat.sub_self] at hj
      have : x = p := by simpa using hj
      subst this
      exact ⟨by omega, hx⟩
theorem list4 {α : Type} (l : List α) (h : l.length = 4) : ∃ a b c d, l = [a, b, c, d] := by
  match l, h with
  | [a, b, c, d], _ => exact ⟨a, b, c, d, rfl⟩
end Go.Proofs.YtafjlibcdlihcaaDoor.Open
end
section
namespace Go.Proofs.YtafjlibcdlihcaaDoor.Open
open Go.RowKit Go.ChangeShapes Go.Proofs.YtafjlibcdlihcaaDoorW.PrintWords Go.Proofs.YtafjlibcdlihcaaDoorW.PrintMore Go.Proofs.YtafjlibcdlihcaaDoor.G
set_option linter.unusedVariables false
/-- A slice of a manifest's items that came in, as it is read. -/
theorem items {H : Type} {enc : TypeId × Value → H} {W : World} {a : Option Addr} {len cap : Nat} {d : DataW H} {p : List MemPlace}
    (h : DataW.Trod enc Tryd.prog W 0 (fun _ => true) true 39 (.slice a len cap) d p) :
    ∃ l : List S56, l.length = len ∧ len ≤ cap ∧ len ≤ 9223372036854775807 ∧ Kd.C k56 W a len l := by
  obtain ⟨fuel, hf⟩ := h
  rcases Go.Deep.open_slice Tryd.underlying39 hf with ⟨hcs, _⟩ | ⟨b, l', c', m, n, D, Pl, hcs, _, hl, hm, hmm, _, hel⟩
  · simp [Value.cells] at hcs
    obtain ⟨rfl, rfl, rfl⟩ := hcs
    exact ⟨[], rfl, Nat.le_refl _, by omega, Kd.C_nil _ _⟩
  · simp [Value.cells] at hcs
    obtain ⟨rfl, rfl, rfl⟩ := hcs
    have c3 : Tryd.prog.cellsOf 56 = 4 := by kernel_rfl
    have hmax : maxLen = 9223372036854775807 := rfl
    obtain ⟨l, hll, hp⟩ := pick_list len (fun i (x : S56) => W.cells? 0 (b.add (i * 4)) 4 = some [.string x.f0, .int .i64 x.f1, .int .i64 x.f2, .string x.f3]) (fun i hi => by
      obtain ⟨cs', hc, ht⟩ := hel i (by rw [hmm]; simp; omega)
      rw [c3] at hc
      obtain ⟨xs, k, _, _, hlen, hxl, hx⟩ := DataW.trod_struct Tryd.underlying56 ht
      rw [c3] at hlen
      obtain ⟨u0, u1, u2, u3, rfl⟩ := list4 cs' hlen
      have e0 := hx 0 _ rfl
      have e1 := hx 1 _ rfl
      have e2 := hx 2 _ rfl
      have e3 := hx 3 _ rfl
      have hs : xs.length = 4 := hxl
      rw [List.getElem?_eq_getElem (by omega)] at e0 e1 e2 e3
      have cs_ : Tryd.prog.cellsOf 9 = 1 := by kernel_rfl
      have ci_ : Tryd.prog.cellsOf 3 = 1 := by kernel_rfl
      obtain ⟨s0, h0, _⟩ := DataW.trod_string Tryd.underlying9 e0
      obtain ⟨n1, h1, _⟩ := DataW.trod_int Tryd.underlying3 e1
      obtain ⟨n2, h2, _⟩ := DataW.trod_int Tryd.underlying3 e2
      obtain ⟨s3, h3, _⟩ := DataW.trod_string Tryd.underlying9 e3
      have g0 : (([u0, u1, u2, u3] : List Value).drop 0).take (Tryd.prog.cellsOf 9) = [.string s0] := h0
      have g1 : (([u0, u1, u2, u3] : List Value).drop 1).take (Tryd.prog.cellsOf 3) = [.int .i64 n1] := h1
      have g2 : (([u0, u1, u2, u3] : List Value).drop 2).take (Tryd.prog.cellsOf 3) = [.int .i64 n2] := h2
      have g3 : (([u0, u1, u2, u3] : List Value).drop 3).take (Tryd.prog.cellsOf 9) = [.string s3] := h3
      rw [cs_] at g0 g3
      rw [ci_] at g1 g2
      obtain rfl : u0 = .string s0 := (List.cons.inj g0).1
      obtain rfl : u1 = .int .i64 n1 := (List.cons.inj g1).1
      obtain rfl : u2 = .int .i64 n2 := (List.cons.inj g2).1
      obtain rfl : u3 = .string s3 := (List.cons.inj g3).1
      exact ⟨⟨s0, n1, n2, s3⟩, hc⟩)
    exact ⟨l, hll, hl, by omega, C_of_cells k56 W b len l hll (by omega) (fun j p hj => ⟨_, k56_mk W p, (hp j p hj).2⟩)⟩
end Go.Proofs.YtafjlibcdlihcaaDoor.Open
end
