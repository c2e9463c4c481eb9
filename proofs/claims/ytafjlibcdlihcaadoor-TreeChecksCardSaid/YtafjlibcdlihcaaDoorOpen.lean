import Derived.Test.YtafjlibcdlihcaaDoorG0
import Derived.ProofKit
import Derived.OpenShut
import Derived.ChangeOld
import Derived.SizedLaws
import Derived.DataReads
import Derived.Deep.Slices
import Derived.SliceStrings
import Derived.ChangeArms
namespace Go.Proofs.YtafjlibcdlihcaaDoor.Open
open Go.RowKit Go.ChangeShapes Go.Proofs.YtafjlibcdlihcaaDoorW.PrintWords Go.Proofs.YtafjlibcdlihcaaDoorW.PrintMore Go.Proofs.YtafjlibcdlihcaaDoor.G
set_option linter.unusedVariables false
theorem laidOut : laidOutB Tryd.prog = true := by kernel_rfl
theorem C_of_cells {α : Type} (d : Kd α) (w : World) (a : Addr) (n : Nat) (xs : List α) (hlen : xs.length = n) (hn : n ≤ 9223372036854775807)
    (h : ∀ j p, xs[j]? = some p → ∃ c, d.K w p c ∧ w.cells? 0 (a.add (j * d.sz)) d.sz = some c) : Kd.C d w (some a) n xs := by
  refine ⟨hlen, hn, fun _ => ⟨a, rfl, fun j p hp => ?_⟩⟩
  obtain ⟨c, hk, hc⟩ := h j p hp
  obtain ⟨_, hl, hi⟩ := World.cells?_some hc
  refine ⟨c, d.K_len hk, hk, fun i u hu => ?_⟩
  have hlt : i < d.sz := by
    have := (List.getElem?_eq_some_iff.1 hu).1
    omega
  have h2 := hi i (by omega)
  rw [Addr.add_add] at h2
  rw [h2, hu]
theorem pick_list {α : Type} (n : Nat) (P : Nat → α → Prop) (h : ∀ i, i < n → ∃ x, P i x) : ∃ l : List α, l.length = n ∧ ∀ j p, l[j]? = some p → j < n ∧ P j p := by
  induction n with
  | zero => exact ⟨[], rfl, fun j p hp => by simp at hp⟩
  | succ n ih =>
    obtain ⟨l, hl, hp⟩ := ih (fun i hi => h i (by omega))
    obtain ⟨x, hx⟩ := h n (by omega)
    refine ⟨l ++ [x], by simp [hl], fun j p hj => ?_⟩
    rcases Nat.lt_or_ge j n with hlt | hge
    · rw [List.getElem?_append_left (by omega)] at hj
      exact ⟨by omega, (hp j p hj).2⟩
    · have hlt2 := (List.getElem?_eq_some_iff.1 hj).1
      rw [List.length_append, List.length_singleton] at hlt2
      obtain rfl : j = n := by omega
      rw [List.getElem?_append_right (by omega), hl, Nat.sub_self] at hj
      have : x = p := by simpa using hj
      subst this
      exact ⟨by omega, hx⟩
theorem list3 {α : Type} (l : List α) (h : l.length = 3) : ∃ a b c, l = [a, b, c] := by
  match l, h with
  | [a, b, c], _ => exact ⟨a, b, c, rfl⟩
theorem list4 {α : Type} (l : List α) (h : l.length = 4) : ∃ a b c d, l = [a, b, c, d] := by
  match l, h with
  | [a, b, c, d], _ => exact ⟨a, b, c, d, rfl⟩
/-- A slice of files that came in, as it is read. -/
theorem files {H : Type} {enc : TypeId × Value → H} {W : World} {a : Option Addr} {len cap : Nat} {d : DataW H} {p : List MemPlace}
    (h : DataW.Trod enc Tryd.prog W 0 (fun _ => true) true 29 (.slice a len cap) d p) :
    ∃ l : List S58, l.length = len ∧ len ≤ cap ∧ len ≤ 9223372036854775807 ∧ Kd.C k58 W a len l := by
  obtain ⟨fuel, hf⟩ := h
  rcases Go.Deep.open_slice Tryd.underlying29 hf with ⟨hcs, _⟩ | ⟨b, l', c', m, n, D, Pl, hcs, _, hl, hm, hmm, _, hel⟩
  · simp [Value.cells] at hcs
    obtain ⟨rfl, rfl, rfl⟩ := hcs
    exact ⟨[], rfl, Nat.le_refl _, by omega, Kd.C_nil _ _⟩
  · simp [Value.cells] at hcs
    obtain ⟨rfl, rfl, rfl⟩ := hcs
    have c3 : Tryd.prog.cellsOf 58 = 3 := by kernel_rfl
    have hmax : maxLen = 9223372036854775807 := rfl
    obtain ⟨l, hll, hp⟩ := pick_list len (fun i (x : S58) => W.cells? 0 (b.add (i * 3)) 3 = some [.string x.f0, .int .i64 x.f1, .string x.f2]) (fun i hi => by
      obtain ⟨cs', hc, ht⟩ := hel i (by rw [hmm]; simp; omega)
      rw [c3] at hc
      obtain ⟨xs, k, _, _, hlen, hxl, hx⟩ := DataW.trod_struct Tryd.underlying58 ht
      rw [c3] at hlen
      obtain ⟨u0, u1, u2, rfl⟩ := list3 cs' hlen
      have e0 := hx 0 _ rfl
      have e1 := hx 1 _ rfl
      have e2 := hx 2 _ rfl
      have hs : xs.length = 3 := hxl
      rw [List.getElem?_eq_getElem (by omega)] at e0 e1 e2
      have cs_ : Tryd.prog.cellsOf 9 = 1 := by kernel_rfl
      have ci_ : Tryd.prog.cellsOf 3 = 1 := by kernel_rfl
      obtain ⟨s0, h0, _⟩ := DataW.trod_string Tryd.underlying9 e0
      obtain ⟨n1, h1, _⟩ := DataW.trod_int Tryd.underlying3 e1
      obtain ⟨s2, h2, _⟩ := DataW.trod_string Tryd.underlying9 e2
      have g0 : (([u0, u1, u2] : List Value).drop 0).take (Tryd.prog.cellsOf 9) = [.string s0] := h0
      have g1 : (([u0, u1, u2] : List Value).drop 1).take (Tryd.prog.cellsOf 3) = [.int .i64 n1] := h1
      have g2 : (([u0, u1, u2] : List Value).drop 2).take (Tryd.prog.cellsOf 9) = [.string s2] := h2
      rw [cs_] at g0 g2
      rw [ci_] at g1
      obtain rfl : u0 = .string s0 := (List.cons.inj g0).1
      obtain rfl : u1 = .int .i64 n1 := (List.cons.inj g1).1
      obtain rfl : u2 = .string s2 := (List.cons.inj g2).1
      exact ⟨⟨s0, n1, s2⟩, hc⟩)
    exact ⟨l, hll, hl, by omega, C_of_cells k58 W b len l hll (by omega) (fun j p hj => ⟨_, k58_mk W p, (hp j p hj).2⟩)⟩
end Go.Proofs.YtafjlibcdlihcaaDoor.Open
