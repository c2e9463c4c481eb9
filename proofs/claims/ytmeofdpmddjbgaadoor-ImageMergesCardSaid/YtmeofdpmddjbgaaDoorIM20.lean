/- Texts of this session's claim of ImageMerges, less what its theorem does not reach. No condition. -/
import Derived.Test.YtmeofdpmddjbgaaDoorIM12
import Derived.Test.YtmeofdpmddjbgaaDoorIM13
import Derived.Test.YtmeofdpmddjbgaaDoorIM14
import Derived.Test.YtmeofdpmddjbgaaDoorIM16
import Derived.Test.YtmeofdpmddjbgaaDoorIM17
import Derived.Test.YtmeofdpmddjbgaaDoorIM18
import Derived.Test.YtmeofdpmddjbgaaDoorIM19
section
namespace Go.Proofs.YtmeofdpmddjbgaaDoor.G
open Go.RowKit Go.Proofs.YtmeofdpmddjbgaaDoorW.PrintWords Go.Proofs.YtmeofdpmddjbgaaDoorW.PrintLast Go.Proofs.YtmeofdpmddjbgaaDoorW.PrintMore
set_option linter.unusedVariables false
set_option linter.unusedSimpArgs false
theorem reffind_l0 (l : List S33) (hl : l.length ≤ 4294967296) (p : ByteArray) : ∀ (d i : Nat), l.length - i = d → i ≤ l.length →
  ∃ t : Int, Ev (fun k => barqueref09_Find.l0 k l p (i : Int)) t ∧ ((t = -1 ∧ ∀ j (hj : j < l.length), i ≤ j → (l[j]'hj).f0 ≠ p) ∨ ∃ j, ∃ hj : j < l.length, i ≤ j ∧ t = (j : Int) ∧ (l[j]'hj).f0 = p ∧ ∀ q (hq : q < j), i ≤ q → (l[q]'(Nat.lt_trans hq hj)).f0 ≠ p) := by
 intro d
 induction d with
 | zero =>
  intro i hd hi
  refine ⟨-1, ?_, .inl ⟨rfl, fun j hj h => by omega⟩⟩
  apply Ev.step
  ·intro k; rw [barqueref09_Find.l0]
  have c1 : ¬ ((i : Int) < (l.length : Int)) := by omega
  simp only [c1, ↓reduceIte]
  exact Ev.now _
 | succ d ih =>
  intro i hd hi
  have hlt : i < l.length := by omega
  have c1 : ((i : Int) < (l.length : Int)) := by omega
  have c2 : (0 : Int) ≤ (i : Int) := by omega
  have hr := rdF_nat l i hlt
  by_cases q : (l[i]'hlt).f0 = p
  ·refine ⟨(i : Int), ?_, .inr ⟨i, hlt, Nat.le_refl _, rfl, q, fun j hj h => by omega⟩⟩
   have q2 : (l[i]'hlt).f0.toList = p.toList := by rw [q]
   apply Ev.step
   ·intro k; rw [barqueref09_Find.l0]
   simp only [c1, c2, hr, q2, ↓reduceIte]
   exact Ev.now _
  ·obtain ⟨t, t1, t2⟩ := ih (i + 1) (by omega) (by omega)
   refine ⟨t, ?_, ?_⟩
   ·have q2 : ¬ (l[i]'hlt).f0.toList = p.toList := fun e => q ((toListE_ _ _).1 e)
    have hw : wrap64 ((i : Int) + 1) = ((i + 1 : Nat) : Int) := by rw [w64_ (by omega) (by omega)]; omega
    apply Ev.step
    ·intro k; rw [barqueref09_Find.l0]
    simp only [c1, c2, hr, q2, ↓reduceIte, hw]
    exact t1
   ·rcases t2 with ⟨e, h⟩ | ⟨j, hj, h1, h2, h3, h4⟩
    ·refine .inl ⟨e, fun j hj h5 => ?_⟩
     rcases Nat.lt_or_ge i j with g | g
     ·exact h j hj g
     ·have : j = i := by omega
      subst this
      exact q
    ·refine .inr ⟨j, hj, by omega, h2, h3, fun r hr2 h5 => ?_⟩
     rcases Nat.lt_or_ge i r with g | g
     ·exact h4 r hr2 g
     ·have : r = i := by omega
      subst this
      exact q
theorem reffind_ev (l : List S33) (hl : l.length ≤ 4294967296) (p : ByteArray) : ∃ t : Int, Ev (fun k => barqueref09_Find.f k l p) t ∧ ((t = -1 ∧ fnd l p = none) ∨ ∃ j, ∃ hj : j < l.length, t = (j : Int) ∧ fnd l p = some (l[j]'hj)) := by
 obtain ⟨t, t1, t2⟩ := reffind_l0 l hl p l.length 0 rfl (Nat.zero_le _)
 refine ⟨t, t1, ?_⟩
 rcases t2 with ⟨e, h⟩ | ⟨j, hj, _, h2, h3, h4⟩
 ·refine .inl ⟨e, fnd_none l p (fun x hx => ?_)⟩
  obtain ⟨j, hj, e1⟩ := List.getElem_of_mem hx
  rw [← e1]
  exact h j hj (Nat.zero_le _)
 ·refine .inr ⟨j, hj, h2, ?_⟩
  unfold fnd
  rw [List.find?_eq_some_iff_getElem]
  refine ⟨by simpa using h3, j, hj, rfl, fun q hq => ?_⟩
  simp only [Bool.not_eq_true', decide_eq_false_iff_not]
  exact h4 q hq (Nat.zero_le _)
theorem reflike_ev (l m : List S33) (hl : l.length ≤ 4294967296) (hm : m.length ≤ 4294967296) (p : ByteArray) : Ev (fun k => barqueref10_like.f k l m p) (likeP (fnd l p) (fnd m p)) := by
 obtain ⟨t, t1, t2⟩ := reffind_ev l hl p
 obtain ⟨u, u1, u2⟩ := reffind_ev m hm p
 unfold barqueref10_like.f
 refine Ev.bind t1 (Ev.bind u1 ?_)
 rcases t2 with ⟨rfl, t3⟩ | ⟨i, hi, rfl, t3⟩
 ·have c1 : (-1 : Int) < 0 := by decide
  rw [t3]
  rcases u2 with ⟨rfl, u3⟩ | ⟨j, hj, rfl, u3⟩
  ·simp only [u3, ↓reduceIte, decide_true, c1]
   exact Ev.now _
  ·have c2 : decide ((j : Int) < 0) = false := decide_eq_false (by omega)
   simp only [u3, ↓reduceIte, c1, c2]
   exact Ev.now _
 ·have c1 : ¬ ((i : Int) < 0) := by omega
  have c3 : (0 : Int) ≤ (i : Int) := by omega
  have c4 : (i : Int) < (l.length : Int) := by omega
  have hr := rdF_nat l i hi
  rcases u2 with ⟨rfl, u3⟩ | ⟨j, hj, rfl, u3⟩
  ·have c2 : (-1 : Int) < 0 := by decide
   simp only [t3, u3, ↓reduceIte, c1, c2]
   exact Ev.now _
  ·have c2 : ¬ ((j : Int) < 0) := by omega
   have c5 : (0 : Int) ≤ (j : Int) := by omega
   have c6 : (j : Int) < (m.length : Int) := by omega
   have hs := rdF_nat m j hj
   simp only [t3, u3, ↓reduceIte, c1, c2, c3, c4, c5, c6, hr, hs]
   exact Ev.now _
def addP (acc : List S33) (f : S33) : List S33 := if fnd acc f.f0 = none then acc ++ [⟨f.f0, 0, ⟨#[]⟩⟩] else acc
theorem addP_len (acc : List S33) (f : S33) : (addP acc f).length ≤ acc.length + 1 := by
 unfold addP
 split
 ·rw [List.length_append, List.length_singleton]
  exact Nat.le_refl _
 ·exact Nat.le_succ _
theorem addP_mem (acc : List S33) (f : S33) (p : ByteArray) : (∃ g ∈ addP acc f, g.f0 = p) ↔ (∃ g ∈ acc, g.f0 = p) ∨ f.f0 = p := by
 unfold addP
 split
 ·constructor
  ·rintro ⟨g, hg, e⟩
   rcases List.mem_append.1 hg with h | h
   ·exact .inl ⟨g, h, e⟩
   ·rw [List.mem_singleton.1 h] at e
    exact .inr e
  ·rintro (⟨g, hg, e⟩ | e)
   ·exact ⟨g, List.mem_append_left _ hg, e⟩
   ·exact ⟨_, List.mem_append_right _ List.mem_cons_self, e⟩
 ·rename_i h
  constructor
  ·exact fun h2 => .inl h2
  ·rintro (h2 | e)
   ·exact h2
   ·cases hf : fnd acc f.f0 with
    | none => exact absurd hf h
    | some g =>
     obtain ⟨g1, g2⟩ := fnd_some acc f.f0 g hf
     exact ⟨g, g1, g2.trans e⟩
theorem addP_distinct (acc : List S33) (f : S33) (h : acc.Pairwise fun a b => keyF a ≠ keyF b) : (addP acc f).Pairwise fun a b => keyF a ≠ keyF b := by
 unfold addP
 split
 ·rename_i hf
  refine List.pairwise_append.2 ⟨h, by simp, fun a ha b hb => ?_⟩
  rw [List.mem_singleton.1 hb]
  unfold fnd at hf
  rw [List.find?_eq_none] at hf
  simpa using hf a ha
 ·exact h
theorem fold_facts (l : List S33) : ∀ acc : List S33, (acc.Pairwise fun a b => keyF a ≠ keyF b) → (l.foldl addP acc).length ≤ acc.length + l.length ∧ ((l.foldl addP acc).Pairwise fun a b => keyF a ≠ keyF b) ∧ ∀ p, (∃ g ∈ l.foldl addP acc, g.f0 = p) ↔ (∃ g ∈ acc, g.f0 = p) ∨ ∃ g ∈ l, g.f0 = p := by
 induction l with
 | nil => exact fun acc h => ⟨Nat.le_refl _, h, fun p => by simp⟩
 | cons f l ih =>
  intro acc h
  rw [List.foldl_cons]
  obtain ⟨i1, i2, i3⟩ := ih (addP acc f) (addP_distinct acc f h)
  have hl := addP_len acc f
  refine ⟨by rw [List.length_cons]; omega, i2, fun p => ?_⟩
  rw [i3, addP_mem]
  constructor
  ·rintro ((h1 | h1) | ⟨g, h1, h2⟩)
   ·exact .inl h1
   ·exact .inr ⟨f, List.mem_cons_self, h1⟩
   ·exact .inr ⟨g, List.mem_cons_of_mem _ h1, h2⟩
  ·rintro (h1 | ⟨g, h1, h2⟩)
   ·exact .inl (.inl h1)
   ·rcases List.mem_cons.1 h1 with e | e
    ·exact .inl (.inr (by rw [← e]; exact h2))
    ·exact .inr ⟨g, e, h2⟩
theorem refmerge_l0 (x y z : List S33) (hx : x.length ≤ 256) (hy : y.length ≤ 256) (hz : z.length ≤ 256) (r : ByteArray × List ByteArray × Int)
  (h : Ev (fun k => (barqueref09_Sort.f k ((x ++ y ++ z).foldl addP [])).bind fun t490 => (barqueref10_Merge.l1 k x y z t490 ([] : List S33) ([] : List ByteArray) 0)) r) : ∀ (d i : Nat) (acc : List S33), (x ++ y ++ z).length - i = d → i ≤ (x ++ y ++ z).length → acc.length ≤ i → ((x ++ y ++ z).drop i).foldl addP acc = (x ++ y ++ z).foldl addP [] →
  Ev (fun k => barqueref10_Merge.l0 k x y z acc (i : Int)) r := by
 have hlen : (x ++ y ++ z).length = x.length + y.length + z.length := by simp only [List.length_append]
 have hwl : wrap64 (((x.length + y.length : Nat) : Int) + (z.length : Int)) = ((x.length + y.length + z.length : Nat) : Int) := by
  rw [w64_ (by omega) (by omega)]
  omega
 have hwm : wrap64 ((x.length : Int) + (y.length : Int)) = ((x.length + y.length : Nat) : Int) := by
  clear hwl
  rw [w64_ (by omega) (by omega)]
  omega
 intro d
 induction d with
 | zero =>
  intro i acc hd hi ha hf
  rw [List.drop_eq_nil_of_le (by clear hwl hwm; omega)] at hf
  have hf2 : acc = (x ++ y ++ z).foldl addP [] := hf
  apply Ev.step
  ·intro k; rw [barqueref10_Merge.l0]
  have c1 : ¬ ((i : Int) < ((x.length + y.length + z.length : Nat) : Int)) := by clear hwl hwm; omega
  simp only [hwm, hwl, c1, ↓reduceIte]
  rw [hf2]
  exact h
 | succ d ih =>
  intro i acc hd hi ha hf
  have hlt : i < (x ++ y ++ z).length := by clear hwl hwm; omega
  rw [List.drop_eq_getElem_cons hlt, List.foldl_cons] at hf
  have hal := addP_len acc ((x ++ y ++ z)[i]'hlt)
  have ih := ih (i + 1) (addP acc ((x ++ y ++ z)[i]'hlt)) (by clear hwl hwm; omega) hlt (by clear hwl hwm; omega) hf
  obtain ⟨f, hfe⟩ : ∃ f, (x ++ y ++ z)[i]'hlt = f := ⟨_, rfl⟩
  rw [hfe] at ih
  have c1 : ((i : Int) < ((x.length + y.length + z.length : Nat) : Int)) := by clear hwl hwm; omega
  have c9 : acc.length < 3518437208883 := by clear hwl hwm; omega
  obtain ⟨t, t1, t2⟩ := reffind_ev acc (by clear hwl hwm; omega) f.f0
  have body : Ev (fun k => (barqueref09_Find.f k acc f.f0).bind fun t476 => (if t476 < 0 then (if acc.length < 3518437208883 then (barqueref10_Merge.l0 k x y z (acc ++ [(⟨f.f0, 0, (⟨#[]⟩ : ByteArray)⟩ : S33)]) ((i + 1 : Nat) : Int)) else (none)) else (barqueref10_Merge.l0 k x y z acc ((i + 1 : Nat) : Int)))) r := by
   clear hwl hwm
   refine Ev.bind t1 ?_
   unfold addP at ih
   rcases t2 with ⟨rfl, t3⟩ | ⟨j, hj, rfl, t3⟩
   ·have c2 : (-1 : Int) < 0 := by decide
    rw [if_pos t3] at ih
    simp only [c2, c9, ↓reduceIte]
    exact ih
   ·have c2 : ¬ ((j : Int) < 0) := by omega
    rw [if_neg (by rw [t3]; simp)] at ih
    simp only [c2, ↓reduceIte]
    exact ih
  have hw : wrap64 ((i : Int) + 1) = ((i + 1 : Nat) : Int) := by clear hwl hwm; rw [w64_ (by omega) (by omega)]; omega
  apply Ev.step
  ·intro k; rw [barqueref10_Merge.l0]
  by_cases q1 : i < x.length
  ·have d1 : (i : Int) < (x.length : Int) := by clear hwl hwm hw; omega
   have d2 : (0 : Int) ≤ (i : Int) := by clear hwl hwm hw; omega
   have hr : rd_T33 x (i : Int) = f := by
    clear hwl hwm hw
    rw [rdF_nat x i q1, ← hfe, List.getElem_append_left (by rw [List.length_append]; exact Nat.lt_of_lt_of_le q1 (Nat.le_add_right _ _)), List.getElem_append_left q1]
   simp only [hwm, hwl, c1, d1, d2, hr, hw, ↓reduceIte]
   exact body
  ·have d1 : ¬ (i : Int) < (x.length : Int) := by clear hwl hwm hw; omega
   by_cases q2 : i < x.length + y.length
   ·have d3 : (i : Int) < ((x.length + y.length : Nat) : Int) := by clear hwl hwm hw; omega
    have hsub : wrap64 ((i : Int) - (x.length : Int)) = ((i - x.length : Nat) : Int) := by clear hwl hwm hw; rw [w64_ (by omega) (by omega)]; omega
    have d4 : (0 : Int) ≤ ((i - x.length : Nat) : Int) := by clear hwl hwm hw hsub; omega
    have d5 : ((i - x.length : Nat) : Int) < (y.length : Int) := by clear hwl hwm hw hsub; omega
    have hr : rd_T33 y ((i - x.length : Nat) : Int) = f := by
     clear hwl hwm hw hsub
     rw [rdF_nat y (i - x.length) (by omega), ← hfe, List.getElem_append_left (by rw [List.length_append]; exact q2), List.getElem_append_right (by omega)]
    simp only [hwl, hwm, c1, d1, d3, hsub, d4, d5, hr, hw, ↓reduceIte]
    exact body
   ·have d3 : ¬ (i : Int) < ((x.length + y.length : Nat) : Int) := by clear hwl hwm hw; omega
    have hsub : wrap64 ((i : Int) - (x.length : Int)) = ((i - x.length : Nat) : Int) := by clear hwl hwm hw; rw [w64_ (by omega) (by omega)]; omega
    have hsub2 : wrap64 (((i - x.length : Nat) : Int) - (y.length : Int)) = ((i - x.length - y.length : Nat) : Int) := by clear hwl hwm hw hsub; rw [w64_ (by omega) (by omega)]; omega
    have d4 : (0 : Int) ≤ ((i - x.length - y.length : Nat) : Int) := by clear hwl hwm hw hsub hsub2; omega
    have d5 : ((i - x.length - y.length : Nat) : Int) < (z.length : Int) := by clear hwl hwm hw hsub hsub2; omega
    have hr : rd_T33 z ((i - x.length - y.length : Nat) : Int) = f := by
     clear hwl hwm hw hsub hsub2
     rw [rdF_nat z _ (by omega), ← hfe, List.getElem_append_right (by rw [List.length_append]; omega)]
     congr 1
     rw [List.length_append]
     omega
    simp only [hwl, hwm, c1, d1, d3, hsub, hsub2, d4, d5, hr, hw, ↓reduceIte]
    exact body
/-- A file found is put behind what is there. -/
theorem found_ev (l : List S33) (hl : l.length ≤ 256) (p : ByteArray) (out : List S33) (ho : out.length < 3518437208883) (g : Nat → List S33 → Option (ByteArray × List ByteArray × Int)) (r : ByteArray × List ByteArray × Int) (h : Ev (fun k => g k (out ++ (fnd l p).toList)) r) :
  Ev (fun k => (barqueref09_Find.f k l p).bind fun t499 => (if t499 ≥ 0 then (if 0 ≤ t499 then (if t499 < (l.length : Int) then (if out.length < 3518437208883 then g k (out ++ [(⟨(rd_T33 l t499).f0, (rd_T33 l t499).f1, (rd_T33 l t499).f2⟩ : S33)]) else (none)) else (none)) else (none)) else g k out)) r := by
 obtain ⟨t, t1, t2⟩ := reffind_ev l (by omega) p
 refine Ev.bind t1 ?_
 rcases t2 with ⟨rfl, t3⟩ | ⟨j, hj, rfl, t3⟩
 ·have c1 : ¬ ((-1 : Int) ≥ 0) := by decide
  simp only [c1, ↓reduceIte]
  rw [t3, Option.toList, List.append_nil] at h
  exact h
 ·have c1 : ((j : Int) ≥ 0) := by omega
  have c2 : ((0 : Int) ≤ (j : Int)) := by omega
  have c3 : ((j : Int) < (l.length : Int)) := by omega
  simp only [c1, c2, c3, ho, ↓reduceIte, rdF_nat l j hj]
  rw [t3, Option.toList] at h
  exact h
theorem refmerge_l1 (x y z : List S33) (hx : x.length ≤ 256) (hy : y.length ≤ 256) (hz : z.length ≤ 256) (L : List S33) (hL : L.length ≤ 768) : ∀ (d i : Nat) (out : List S33) (both : List ByteArray), L.length - i = d → i ≤ L.length → out.length ≤ i → both.length ≤ i →
  Ev (fun k => barqueref10_Merge.l1 k x y z L out both (i : Int)) (finE (goE x y z ((L.drop i).map (·.f0)) out both)) := by
 intro d
 induction d with
 | zero =>
  intro i out both hd hi ho hb
  rw [List.drop_eq_nil_of_le (by omega), List.map_nil, goE]
  apply Ev.step
  ·intro k; rw [barqueref10_Merge.l1]
  have c1 : ¬ ((i : Int) < (L.length : Int)) := by omega
  simp only [c1, ↓reduceIte]
  refine Ev.bind (refOf_ev out (by omega)) ?_
  unfold finE
  by_cases q : (imageE out).2 = 0
  ·simp only [q, ↓reduceIte]
   exact Ev.now _
  ·simp only [q, ↓reduceIte]
   exact Ev.now _
 | succ d ih =>
  intro i out both hd hi ho hb
  have hlt : i < L.length := by omega
  have c1 : ((i : Int) < (L.length : Int)) := by omega
  have c2 : (0 : Int) ≤ (i : Int) := by omega
  have c3 : out.length < 3518437208883 := by omega
  have c4 : both.length < 8796093022208 := by omega
  rw [List.drop_eq_getElem_cons hlt, List.map_cons, goE]
  have hr := rdF_nat L i hlt
  obtain ⟨p, hp⟩ : ∃ p, (L[i]'hlt).f0 = p := ⟨_, rfl⟩
  rw [hp]
  have hlen : ∀ o : Option S33, (out ++ o.toList).length ≤ i + 1 := fun o => by
   rw [List.length_append]
   cases o <;> simp <;> omega
  have ih0 := fun (o : Option S33) (b : List ByteArray) (hb2 : b.length ≤ i + 1) => ih (i + 1) (out ++ o.toList) b (by omega) (by omega) (hlen o) hb2
  have hb1 : (both ++ [p]).length ≤ i + 1 := by rw [List.length_append, List.length_singleton]; omega
  have k1 := reflike_ev y z (Nat.le_trans hy (by decide)) (Nat.le_trans hz (by decide)) p
  have k2 := reflike_ev x z (Nat.le_trans hx (by decide)) (Nat.le_trans hz (by decide)) p
  have k3 := reflike_ev x y (Nat.le_trans hx (by decide)) (Nat.le_trans hy (by decide)) p
  have hbz : both.length ≤ i + 1 := Nat.le_trans hb (Nat.le_succ i)
  have hw : wrap64 ((i : Int) + 1) = ((i + 1 : Nat) : Int) := by rw [w64_ (by omega) (by omega)]; omega
  -- what stands behind the tests
  have jf : ∀ r, Ev (fun k => barqueref10_Merge.l1 k x y z L (out ++ (fnd y p).toList) both ((i + 1 : Nat) : Int)) r → Ev (fun k => barqueref10_Merge.j2 k x y z L out both (i : Int) p y false) r := fun r h => by
   apply Ev.step
   ·intro k; rw [barqueref10_Merge.j2]
   simp only [Bool.false_eq_true, ↓reduceIte, hw]
   exact found_ev y hy p out c3 (fun k o => barqueref10_Merge.l1 k x y z L o both ((i + 1 : Nat) : Int)) r h
  unfold stepE
  apply Ev.step
  ·intro k; rw [barqueref10_Merge.l1]
  simp only [c1, c2, hr, hp, ↓reduceIte]
  refine Ev.bind k1 ?_
  by_cases q1 : fnd y p = fnd z p
  ·have l1 : likeP (fnd y p) (fnd z p) = true := (likeP_iff _ _).2 q1
   rw [if_pos q1]
   simp only [l1, ↓reduceIte, Bool.false_eq_true]
   exact jf _ (ih0 (fnd y p) both hbz)
  ·have l1 : likeP (fnd y p) (fnd z p) = false := by rw [Bool.eq_false_iff]; exact fun e => q1 ((likeP_iff _ _).1 e)
   rw [if_neg q1]
   simp only [l1, ↓reduceIte, Bool.false_eq_true]
   refine Ev.bind k2 ?_
   by_cases q2 : fnd x p = fnd z p
   ·have l2 : likeP (fnd x p) (fnd z p) = true := (likeP_iff _ _).2 q2
    rw [if_pos q2]
    simp only [l2, Bool.not_true, ↓reduceIte, Bool.false_eq_true]
    exact jf _ (ih0 (fnd y p) both hbz)
   ·have l2 : likeP (fnd x p) (fnd z p) = false := by rw [Bool.eq_false_iff]; exact fun e => q2 ((likeP_iff _ _).1 e)
    rw [if_neg q2]
    simp only [l2, Bool.not_false]
    apply Ev.step
    ·intro k; rw [barqueref10_Merge.j2]
    simp only [↓reduceIte, hw]
    refine Ev.bind k3 ?_
    by_cases q3 : fnd x p = fnd y p
    ·have l3 : likeP (fnd x p) (fnd y p) = true := (likeP_iff _ _).2 q3
     rw [if_pos q3]
     simp only [l3, ↓reduceIte, Bool.false_eq_true]
     exact found_ev z hz p out c3 (fun k o => barqueref10_Merge.l1 k x y z L o both ((i + 1 : Nat) : Int)) _ (ih0 (fnd z p) both hbz)
    ·have l3 : likeP (fnd x p) (fnd y p) = false := by rw [Bool.eq_false_iff]; exact fun e => q3 ((likeP_iff _ _).1 e)
     rw [if_neg q3]
     simp only [l3, c4, ↓reduceIte, Bool.false_eq_true, Option.bind_some]
     exact found_ev y hy p out c3 (fun k o => barqueref10_Merge.l1 k x y z L o (both ++ [p]) ((i + 1 : Nat) : Int)) _ (ih0 (fnd y p) (both ++ [p]) hb1)
theorem refmerge_ok (a b c : ByteArray) (ha : a.size ≤ 140737488351232) (hb : b.size ≤ 140737488351232) (hc : c.size ≤ 140737488351232) (h1 : (treeE a).2 = 0) (h2 : (treeE b).2 = 0) (h3 : (treeE c).2 = 0) (ps : List ByteArray) (hps : IsPs (treeE a).1 (treeE b).1 (treeE c).1 ps) :
  Ev (fun k => barqueref10_Merge.f k a b c) (finE (goE (treeE a).1 (treeE b).1 (treeE c).1 ps [] [])) := by
 have t1 := treeE_tree a h1
 have t2 := treeE_tree b h2
 have t3 := treeE_tree c h3
 have e1 := reftree_ev a ha
 have e2 := reftree_ev b hb
 have e3 := reftree_ev c hc
 obtain ⟨x, hx⟩ : ∃ x, treeE a = x := ⟨_, rfl⟩
 obtain ⟨y, hy⟩ : ∃ y, treeE b = y := ⟨_, rfl⟩
 obtain ⟨z, hz⟩ : ∃ z, treeE c = z := ⟨_, rfl⟩
 rw [hx] at t1 e1 h1 hps ⊢
 rw [hy] at t2 e2 h2 hps ⊢
 rw [hz] at t3 e3 h3 hps ⊢
 have l1 := t1.le
 have l2 := t2.le
 have l3 := t3.le
 unfold barqueref10_Merge.f
 refine Ev.bind e1 ?_
 simp only [h1, ↓reduceIte]
 refine Ev.bind e2 ?_
 simp only [h2, ↓reduceIte]
 refine Ev.bind e3 ?_
 simp only [h3, ↓reduceIte]
 obtain ⟨f1, f2, f3⟩ := fold_facts (x.1 ++ y.1 ++ z.1) [] List.Pairwise.nil
 have hlen : (x.1 ++ y.1 ++ z.1).length = x.1.length + y.1.length + z.1.length := by simp only [List.length_append]
 refine refmerge_l0 x.1 y.1 z.1 l1 l2 l3 _ ?_ _ 0 [] rfl (Nat.zero_le _) (Nat.le_refl _) rfl
 obtain ⟨all, hall⟩ : ∃ all, (x.1 ++ y.1 ++ z.1).foldl addP [] = all := ⟨_, rfl⟩
 rw [hall] at f1 f2 f3 ⊢
 rw [List.length_nil] at f1
 have hmem : ∀ p, (∃ g ∈ all, g.f0 = p) ↔ p ∈ ps := fun p => by
  rw [f3, hps.2]
  constructor
  ·rintro (⟨g, hg, _⟩ | ⟨g, hg, e⟩)
   ·cases hg
   ·rcases List.mem_append.1 hg with h | h
    ·rcases List.mem_append.1 h with h | h
     ·exact ⟨g, .inl h, e⟩
     ·exact ⟨g, .inr (.inl h), e⟩
    ·exact ⟨g, .inr (.inr h), e⟩
  ·rintro ⟨g, hg, e⟩
   refine .inr ⟨g, ?_, e⟩
   rcases hg with h | h | h
   ·exact List.mem_append_left _ (List.mem_append_left _ h)
   ·exact List.mem_append_left _ (List.mem_append_right _ h)
   ·exact List.mem_append_right _ h
 have hok : okS all := fun g hg => by
  obtain ⟨f, hf, e⟩ := (hps.2 g.f0).1 ((hmem g.f0).1 ⟨g, hg, rfl⟩)
  rw [← e]
  rcases hf with h | h | h
  ·exact t1.ok f h
  ·exact t2.ok f h
  ·exact t3.ok f h
 refine Ev.bind (refsort_evW all (by omega) hok) ?_
 obtain ⟨s1, s2⟩ := sortK_spec keyF all f2
 have hps2 : (sortK keyF all).map (·.f0) = ps := by
  refine sorted_unique id _ _ (List.pairwise_map.2 s1) hps.1 (fun p => ?_)
  rw [← hmem, List.mem_map]
  constructor
  ·rintro ⟨g, hg, e⟩
   exact ⟨g, (s2 g).1 hg, e⟩
  ·rintro ⟨g, hg, e⟩
   exact ⟨g, (s2 g).2 hg, e⟩
 have := refmerge_l1 x.1 y.1 z.1 l1 l2 l3 (sortK keyF all) (by rw [sortK_length_]; omega) _ 0 [] [] rfl (Nat.zero_le _) (Nat.le_refl _) (Nat.le_refl _)
 rw [List.drop_zero, hps2] at this
 exact this
theorem refmerge_bad (a b c : ByteArray) (ha : a.size ≤ 140737488351232) (hb : b.size ≤ 140737488351232) (hc : c.size ≤ 140737488351232) (h : ¬ ((treeE a).2 = 0 ∧ (treeE b).2 = 0 ∧ (treeE c).2 = 0)) :
  Ev (fun k => barqueref10_Merge.f k a b c) (⟨#[]⟩, [], if (treeE a).2 = 0 then (if (treeE b).2 = 0 then (treeE c).2 else (treeE b).2) else (treeE a).2) := by
 have e1 := reftree_ev a ha
 have e2 := reftree_ev b hb
 have e3 := reftree_ev c hc
 unfold barqueref10_Merge.f
 refine Ev.bind e1 ?_
 by_cases h1 : (treeE a).2 = 0
 ·simp only [h1, ↓reduceIte]
  refine Ev.bind e2 ?_
  by_cases h2 : (treeE b).2 = 0
  ·simp only [h2, ↓reduceIte]
   refine Ev.bind e3 ?_
   have h3 : ¬ (treeE c).2 = 0 := fun e => h ⟨h1, h2, e⟩
   simp only [h3, ↓reduceIte]
   exact Ev.now _
  ·simp only [h2, ↓reduceIte]
   exact Ev.now _
 ·simp only [h1, ↓reduceIte]
  exact Ev.now _
theorem texts_l0 (l : List ByteArray) (hl : l.length ≤ 4294967296) : ∀ (d i : Nat), l.length - i = d → i ≤ l.length → Ev (fun k => barquelaw10_texts.l0 k l l (i : Int)) true := by
 intro d
 induction d with
 | zero =>
  intro i hd hi
  apply Ev.step
  ·intro k; rw [barquelaw10_texts.l0]
  have c1 : ¬ ((i : Int) < (l.length : Int)) := by omega
  simp only [c1, ↓reduceIte]
  exact Ev.now _
 | succ d ih =>
  intro i hd hi
  have c1 : ((i : Int) < (l.length : Int)) := by omega
  have c2 : (0 : Int) ≤ (i : Int) := by omega
  have hw : wrap64 ((i : Int) + 1) = ((i + 1 : Nat) : Int) := by rw [w64_ (by omega) (by omega)]; omega
  apply Ev.step
  ·intro k; rw [barquelaw10_texts.l0]
  simp only [c1, c2, ↓reduceIte, hw]
  exact ih (i + 1) (by clear hw; omega) (by clear hw; omega)
theorem texts_ev (l : List ByteArray) (hl : l.length ≤ 4294967296) : Ev (fun k => barquelaw10_texts.f k l l) true := by
 unfold barquelaw10_texts.f
 simp only [↓reduceIte]
 exact texts_l0 l hl l.length 0 rfl (Nat.zero_le _)
theorem finE_len (x y z : List S33) (ps : List ByteArray) (h : ps.length ≤ 768) : (finE (goE x y z ps [] [])).2.1.length ≤ 768 := by
 have g := (goE_len x y z ps [] []).2
 rw [List.length_nil] at g
 unfold finE
 split
 ·show (goE x y z ps [] []).2.length ≤ 768
  omega
 ·exact Nat.zero_le _
end Go.Proofs.YtmeofdpmddjbgaaDoor.G
end
section
namespace Go.Proofs.YtmeofdpmddjbgaaDoor.G
open Go.RowKit Go.Proofs.YtmeofdpmddjbgaaDoorW.PrintWords Go.Proofs.YtmeofdpmddjbgaaDoorW.PrintLast Go.Proofs.YtmeofdpmddjbgaaDoorW.PrintMore
attribute [local go_sem] max2_int min2_int max_two min_two max_three min_three max_four min_four   -- for this text's walks alone
set_option linter.unusedVariables false
set_option linter.unusedSimpArgs false
def barquelaw10_ImageMerges.f (k : Nat) (a0 : ByteArray) (a1 : ByteArray) (a2 : ByteArray) : Option (Bool) := (barquelaw10_cut.f a0).bind fun t519 => ((barquelaw10_cut.f a1).bind fun t520 => ((barquelaw10_cut.f a2).bind fun t521 => ((image_Merge.f k t519 t520 t521).bind fun bt522 => ((barqueref10_Merge.f k t519 t520 t521).bind fun bt527 => (if bt522.1.toList = bt527.1.toList then ((barquelaw10_texts.f k bt522.2.1 bt527.2.1).bind fun t532 => (if t532 = true then (if bt522.2.2 = bt527.2.2 then ((barquelaw10_awake.f k).bind fun t533 => (some t533)) else (some false)) else (some false))) else (some false))))))
set_option maxHeartbeats 8000000 in
set_option maxRecDepth 100000 in
theorem barquelaw10_ImageMerges.calls (k : Nat) (a0 : ByteArray) (a1 : ByteArray) (a2 : ByteArray) (r : Bool) (w : World) (h : barquelaw10_ImageMerges.f k a0 a1 a2 = some r) :
  Calls Tryd.prog 8 #[.string a0, .string a1, .string a2] w fun e w' => e = .returned (.bool r) ∧ Below w.heap.size w w' := by
 have HB := Aside0.mk (Below.refl w.heap.size w); have H : ((barquelaw10_cut.f a0).bind fun t519 => ((barquelaw10_cut.f a1).bind fun t520 => ((barquelaw10_cut.f a2).bind fun t521 => ((image_Merge.f k t519 t520 t521).bind fun bt522 => ((barqueref10_Merge.f k t519 t520 t521).bind fun bt527 => (if bt522.1.toList = bt527.1.toList then ((barquelaw10_texts.f k bt522.2.1 bt527.2.1).bind fun t532 => (if t532 = true then (if bt522.2.2 = bt527.2.2 then ((barquelaw10_awake.f k).bind fun t533 => (some t533)) else (some false)) else (some false))) else (some false))))))) = some r := h; clear h; replace H := Option.bind_eq_some_iff.mp H; obtain ⟨t519, A40, H⟩ := H; replace H : ((barquelaw10_cut.f a1).bind fun t520 => ((barquelaw10_cut.f a2).bind fun t521 => ((image_Merge.f k t519 t520 t521).bind fun bt522 => ((barqueref10_Merge.f k t519 t520 t521).bind fun bt527 => (if bt522.1.toList = bt527.1.toList then ((barquelaw10_texts.f k bt522.2.1 bt527.2.1).bind fun t532 => (if t532 = true then (if bt522.2.2 = bt527.2.2 then ((barquelaw10_awake.f k).bind fun t533 => (some t533)) else (some false)) else (some false))) else (some false)))))) = some r := H; have A4 := Aside0.mk A40; clear A40; replace H := Option.bind_eq_some_iff.mp H; obtain ⟨t520, A50, H⟩ := H; replace H : ((barquelaw10_cut.f a2).bind fun t521 => ((image_Merge.f k t519 t520 t521).bind fun bt522 => ((barqueref10_Merge.f k t519 t520 t521).bind fun bt527 => (if bt522.1.toList = bt527.1.toList then ((barquelaw10_texts.f k bt522.2.1 bt527.2.1).bind fun t532 => (if t532 = true then (if bt522.2.2 = bt527.2.2 then ((barquelaw10_awake.f k).bind fun t533 => (some t533)) else (some false)) else (some false))) else (some false))))) = some r := H; have A5 := Aside0.mk A50; clear A50; replace H := Option.bind_eq_some_iff.mp H; obtain ⟨t521, A60, H⟩ := H; replace H : ((image_Merge.f k t519 t520 t521).bind fun bt522 => ((barqueref10_Merge.f k t519 t520 t521).bind fun bt527 => (if bt522.1.toList = bt527.1.toList then ((barquelaw10_texts.f k bt522.2.1 bt527.2.1).bind fun t532 => (if t532 = true then (if bt522.2.2 = bt527.2.2 then ((barquelaw10_awake.f k).bind fun t533 => (some t533)) else (some false)) else (some false))) else (some false)))) = some r := H; have A6 := Aside0.mk A60; clear A60; replace H := Option.bind_eq_some_iff.mp H; obtain ⟨⟨t522, t523, t524⟩, A70, H⟩ := H; replace H : ((barqueref10_Merge.f k t519 t520 t521).bind fun bt527 => (if t522.toList = bt527.1.toList then ((barquelaw10_texts.f k t523 bt527.2.1).bind fun t532 => (if t532 = true then (if t524 = bt527.2.2 then ((barquelaw10_awake.f k).bind fun t533 => (some t533)) else (some false)) else (some false))) else (some false))) = some r := H; have A7 := Aside0.mk A70; clear A70; replace H := Option.bind_eq_some_iff.mp H; obtain ⟨⟨t527, t528, t529⟩, A80, H⟩ := H; replace H : (if t522.toList = t527.toList then ((barquelaw10_texts.f k t523 t528).bind fun t532 => (if t532 = true then (if t524 = t529 then ((barquelaw10_awake.f k).bind fun t533 => (some t533)) else (some false)) else (some false))) else (some false)) = some r := H; have A8 := Aside0.mk A80; clear A80; by_cases c9 : t522.toList = t527.toList
 ·rw [if_pos c9] at H; have c9b0 : (t522.toList == t527.toList) = true := beq_iff_eq.mpr c9; have c9b1 : (t522.toList != t527.toList) = false := bne_eq_false_iff_eq.mpr c9; clear c9; replace H := Option.bind_eq_some_iff.mp H; obtain ⟨t532, A100, H⟩ := H; replace H : (if t532 = true then (if t524 = t529 then ((barquelaw10_awake.f k).bind fun t533 => (some t533)) else (some false)) else (some false)) = some r := H; have A10 := Aside0.mk A100; clear A100; by_cases c11 : t532 = true
  ·subst c11; (have H1 : (if t524 = t529 then ((barquelaw10_awake.f k).bind fun t533 => (some t533)) else (some false)) = some r := by rw [if_pos rfl] at H; exact H); clear H; have H := H1; clear H1; by_cases c12 : t524 = t529
   ·rw [if_pos c12] at H; have c12b0 : (t524 == t529) = true := beq_iff_eq.mpr c12; have c12b1 : (t524 != t529) = false := bne_eq_false_iff_eq.mpr c12; clear c12; replace H := Option.bind_eq_some_iff.mp H; obtain ⟨t533, A130, H⟩ := H; replace H : (some t533) = some r := H; have A13 := Aside0.mk A130; clear A130; obtain rfl := Option.some.inj H; go_enter Tryd.func8, Tryd.ntmps8; go_wp2_with (first | ((with_reducible refine gate_callee (f := 16) rfl ?_); refine goesL_ (some 14) rfl rfl Tryd.func16 (by kernel_rfl) rfl #[.string a0] rfl (by (try simp only [List.map_toArray, List.map_cons, List.map_nil]); first | done | rfl | (simp only [List.length_drop, List.length_take]; rfl)) ?_; (with_reducible refine (barquelaw10_cut.calls a0 t519 _ A4.out).mono ?_); rintro e w' ⟨rfl, ⟨nd, rfl⟩⟩; refine ⟨_, rfl, ?_⟩) | ((with_reducible refine gate_callee (f := 16) rfl ?_); refine goesL_ (some 16) rfl rfl Tryd.func16 (by kernel_rfl) rfl #[.string a1] rfl (by (try simp only [List.map_toArray, List.map_cons, List.map_nil]); first | done | rfl | (simp only [List.length_drop, List.length_take]; rfl)) ?_; (with_reducible refine (barquelaw10_cut.calls a1 t520 _ A5.out).mono ?_); rintro e w' ⟨rfl, ⟨nd, rfl⟩⟩; refine ⟨_, rfl, ?_⟩) | ((with_reducible refine gate_callee (f := 16) rfl ?_); refine goesL_ (some 18) rfl rfl Tryd.func16 (by kernel_rfl) rfl #[.string a2] rfl (by (try simp only [List.map_toArray, List.map_cons, List.map_nil]); first | done | rfl | (simp only [List.length_drop, List.length_take]; rfl)) ?_; (with_reducible refine (barquelaw10_cut.calls a2 t521 _ A6.out).mono ?_); rintro e w' ⟨rfl, ⟨nd, rfl⟩⟩; refine ⟨_, rfl, ?_⟩) | ((with_reducible refine gate_callee (f := 22) rfl ?_); refine goesL_ (some 23) rfl rfl Tryd.func22 (by kernel_rfl) rfl #[.string t519, .string t520, .string t521] rfl (by (try simp only [List.map_toArray, List.map_cons, List.map_nil]); first | done | rfl | (simp only [List.length_drop, List.length_take]; rfl)) ?_; (with_reducible refine (image_Merge.calls k t519 t520 t521 t522 t523 t524 _ A7.out).mono ?_); rintro e w14 ⟨v525, rfl, ho0, hb⟩; refine ⟨_, rfl, ?_⟩; have n0_ := Aside0.mk (Kd.R_lower ho0 (below_size (by repeat (first | (with_reducible first | exact HB.out | apply below_alloc | apply pw_below_drewN | apply below_drew1) | exact HB.out)))); have n1_ := Aside0.mk (below_step (by repeat (first | (with_reducible first | exact HB.out | apply below_alloc | apply pw_below_drewN | apply below_drew1) | exact HB.out)) hb); clear HB; have HO526 := n0_; have HB := n1_; clear n0_ n1_; (try clear hb); (try clear hb2); (try clear hk); (try clear hi); (try clear ho0)) | ((with_reducible refine gate_callee (f := 23) rfl ?_); refine goesL_ (some 31) rfl rfl Tryd.func23 (by kernel_rfl) rfl #[.string t519, .string t520, .string t521] rfl (by (try simp only [List.map_toArray, List.map_cons, List.map_nil]); first | done | rfl | (simp only [List.length_drop, List.length_take]; rfl)) ?_; (with_reducible refine (barqueref10_Merge.calls k t519 t520 t521 t527 t528 t529 _ A8.out).mono ?_); rintro e w15 ⟨v530, rfl, ho0, hb⟩; refine ⟨_, rfl, ?_⟩; have n0_ := Aside0.mk (Kd.R_elder' (by (with_reducible repeat (first | apply Kd.R_alloc | apply Kd.R_drewN | apply Kd.R_drew)); exact HO526.out) (Kd.R_base ho0) hb); have n1_ := Aside0.mk (Kd.R_lower (Kd.R_new' ho0 (Kd.R_lt (by (with_reducible repeat (first | apply Kd.R_alloc | apply Kd.R_drewN | apply Kd.R_drew)); exact HO526.out))) (below_size (by repeat (first | (with_reducible first | exact HB.out | apply below_alloc | apply pw_below_drewN | apply below_drew1) | exact HB.out)))); have n2_ := Aside0.mk (below_step (by repeat (first | (with_reducible first | exact HB.out | apply below_alloc | apply pw_below_drewN | apply below_drew1) | exact HB.out)) hb); clear HO526; clear HB; have HO526 := n0_; have HO531 := n1_; have HB := n2_; clear n0_ n1_ n2_; (try clear hb); (try clear hb2); (try clear hk); (try clear hi); (try clear ho0); obtain ⟨Ao16, co16, eo16⟩ := Kd.R_slice HO526.out; subst eo16; obtain ⟨Ao17, co17, eo17⟩ := Kd.R_slice HO531.out; subst eo17) | (go_at_call 24; (with_reducible refine (barquelaw10_texts.calls k _ _ t523 _ _ t528 true _ ?side1 ?side2 ?side3 ?side4 A10.out).mono ?_); (case side1 => repeat (first | exact (Kd.R_reads' HO526.out).2.2 | (with_reducible refine Kd.C_alloc ?_ _) | (with_reducible refine Kd.C_drewN ?_ _) | (with_reducible refine Kd.C_drew ?_))); (case side2 => exact (Kd.R_reads' HO526.out).2.1); (case side3 => repeat (first | exact (Kd.R_reads' HO531.out).2.2 | (with_reducible refine Kd.C_alloc ?_ _) | (with_reducible refine Kd.C_drewN ?_ _) | (with_reducible refine Kd.C_drew ?_))); (case side4 => exact (Kd.R_reads' HO531.out).2.1); rintro e w' ⟨rfl, ⟨nd, rfl⟩⟩) | (go_at_call 15; (with_reducible refine (barquelaw10_awake.calls k  t533 _ A13.out).mono ?_); rintro e w18 ⟨rfl, hb⟩; have n0_ := Aside0.mk (Kd.R_below (by (with_reducible repeat (first | apply Kd.R_alloc | apply Kd.R_drewN | apply Kd.R_drew)); exact HO526.out) hb); have n1_ := Aside0.mk (Kd.R_below (by (with_reducible repeat (first | apply Kd.R_alloc | apply Kd.R_drewN | apply Kd.R_drew)); exact HO531.out) hb); have n2_ := Aside0.mk (below_step (by repeat (first | (with_reducible first | exact HB.out | apply below_alloc | apply pw_below_drewN | apply below_drew1) | exact HB.out)) hb); clear HO526; clear HO531; clear HB; have HO526 := n0_; have HO531 := n1_; have HB := n2_; clear n0_ n1_ n2_; (try clear hb); (try clear hb2); (try clear hk); (try clear hi))); go_ret; exact ⟨by first | rfl | (simp [errW_none, errW_some] <;> rfl) | (simp [*, errW_none, errW_some] <;> rfl), by repeat (first | (with_reducible first | exact HB.out | apply below_alloc | apply pw_below_drewN | apply below_drew1) | exact HB.out)⟩
   ·rw [if_neg c12] at H; have c12b0 : (t524 == t529) = false := beq_eq_false_iff_ne.mpr c12; have c12b1 : (t524 != t529) = true := bne_iff_ne.mpr c12; obtain rfl := Option.some.inj H; go_enter Tryd.func8, Tryd.ntmps8; go_wp2_with (first | ((with_reducible refine gate_callee (f := 16) rfl ?_); refine goesL_ (some 14) rfl rfl Tryd.func16 (by kernel_rfl) rfl #[.string a0] rfl (by (try simp only [List.map_toArray, List.map_cons, List.map_nil]); first | done | rfl | (simp only [List.length_drop, List.length_take]; rfl)) ?_; (with_reducible refine (barquelaw10_cut.calls a0 t519 _ A4.out).mono ?_); rintro e w' ⟨rfl, ⟨nd, rfl⟩⟩; refine ⟨_, rfl, ?_⟩) | ((with_reducible refine gate_callee (f := 16) rfl ?_); refine goesL_ (some 16) rfl rfl Tryd.func16 (by kernel_rfl) rfl #[.string a1] rfl (by (try simp only [List.map_toArray, List.map_cons, List.map_nil]); first | done | rfl | (simp only [List.length_drop, List.length_take]; rfl)) ?_; (with_reducible refine (barquelaw10_cut.calls a1 t520 _ A5.out).mono ?_); rintro e w' ⟨rfl, ⟨nd, rfl⟩⟩; refine ⟨_, rfl, ?_⟩) | ((with_reducible refine gate_callee (f := 16) rfl ?_); refine goesL_ (some 18) rfl rfl Tryd.func16 (by kernel_rfl) rfl #[.string a2] rfl (by (try simp only [List.map_toArray, List.map_cons, List.map_nil]); first | done | rfl | (simp only [List.length_drop, List.length_take]; rfl)) ?_; (with_reducible refine (barquelaw10_cut.calls a2 t521 _ A6.out).mono ?_); rintro e w' ⟨rfl, ⟨nd, rfl⟩⟩; refine ⟨_, rfl, ?_⟩) | ((with_reducible refine gate_callee (f := 22) rfl ?_); refine goesL_ (some 23) rfl rfl Tryd.func22 (by kernel_rfl) rfl #[.string t519, .string t520, .string t521] rfl (by (try simp only [List.map_toArray, List.map_cons, List.map_nil]); first | done | rfl | (simp only [List.length_drop, List.length_take]; rfl)) ?_; (with_reducible refine (image_Merge.calls k t519 t520 t521 t522 t523 t524 _ A7.out).mono ?_); rintro e w19 ⟨v525, rfl, ho0, hb⟩; refine ⟨_, rfl, ?_⟩; have n0_ := Aside0.mk (Kd.R_lower ho0 (below_size (by repeat (first | (with_reducible first | exact HB.out | apply below_alloc | apply pw_below_drewN | apply below_drew1) | exact HB.out)))); have n1_ := Aside0.mk (below_step (by repeat (first | (with_reducible first | exact HB.out | apply below_alloc | apply pw_below_drewN | apply below_drew1) | exact HB.out)) hb); clear HB; have HO526 := n0_; have HB := n1_; clear n0_ n1_; (try clear hb); (try clear hb2); (try clear hk); (try clear hi); (try clear ho0)) | ((with_reducible refine gate_callee (f := 23) rfl ?_); refine goesL_ (some 31) rfl rfl Tryd.func23 (by kernel_rfl) rfl #[.string t519, .string t520, .string t521] rfl (by (try simp only [List.map_toArray, List.map_cons, List.map_nil]); first | done | rfl | (simp only [List.length_drop, List.length_take]; rfl)) ?_; (with_reducible refine (barqueref10_Merge.calls k t519 t520 t521 t527 t528 t529 _ A8.out).mono ?_); rintro e w20 ⟨v530, rfl, ho0, hb⟩; refine ⟨_, rfl, ?_⟩; have n0_ := Aside0.mk (Kd.R_elder' (by (with_reducible repeat (first | apply Kd.R_alloc | apply Kd.R_drewN | apply Kd.R_drew)); exact HO526.out) (Kd.R_base ho0) hb); have n1_ := Aside0.mk (Kd.R_lower (Kd.R_new' ho0 (Kd.R_lt (by (with_reducible repeat (first | apply Kd.R_alloc | apply Kd.R_drewN | apply Kd.R_drew)); exact HO526.out))) (below_size (by repeat (first | (with_reducible first | exact HB.out | apply below_alloc | apply pw_below_drewN | apply below_drew1) | exact HB.out)))); have n2_ := Aside0.mk (below_step (by repeat (first | (with_reducible first | exact HB.out | apply below_alloc | apply pw_below_drewN | apply below_drew1) | exact HB.out)) hb); clear HO526; clear HB; have HO526 := n0_; have HO531 := n1_; have HB := n2_; clear n0_ n1_ n2_; (try clear hb); (try clear hb2); (try clear hk); (try clear hi); (try clear ho0); obtain ⟨Ao21, co21, eo21⟩ := Kd.R_slice HO526.out; subst eo21; obtain ⟨Ao22, co22, eo22⟩ := Kd.R_slice HO531.out; subst eo22) | (go_at_call 24; (with_reducible refine (barquelaw10_texts.calls k _ _ t523 _ _ t528 true _ ?side1 ?side2 ?side3 ?side4 A10.out).mono ?_); (case side1 => repeat (first | exact (Kd.R_reads' HO526.out).2.2 | (with_reducible refine Kd.C_alloc ?_ _) | (with_reducible refine Kd.C_drewN ?_ _) | (with_reducible refine Kd.C_drew ?_))); (case side2 => exact (Kd.R_reads' HO526.out).2.1); (case side3 => repeat (first | exact (Kd.R_reads' HO531.out).2.2 | (with_reducible refine Kd.C_alloc ?_ _) | (with_reducible refine Kd.C_drewN ?_ _) | (with_reducible refine Kd.C_drew ?_))); (case side4 => exact (Kd.R_reads' HO531.out).2.1); rintro e w' ⟨rfl, ⟨nd, rfl⟩⟩)); go_ret; exact ⟨by first | rfl | (simp [errW_none, errW_some] <;> rfl) | (simp [*, errW_none, errW_some] <;> rfl), by repeat (first | (with_reducible first | exact HB.out | apply below_alloc | apply pw_below_drewN | apply below_drew1) | exact HB.out)⟩
  ·replace c11 := Bool.eq_false_iff.mpr c11; subst c11; (have H1 : (some false) = some r := by rw [if_neg (show ¬ (false = true) by decide)] at H; exact H); clear H; have H := H1; clear H1; obtain rfl := Option.some.inj H; go_enter Tryd.func8, Tryd.ntmps8; go_wp2_with (first | ((with_reducible refine gate_callee (f := 16) rfl ?_); refine goesL_ (some 14) rfl rfl Tryd.func16 (by kernel_rfl) rfl #[.string a0] rfl (by (try simp only [List.map_toArray, List.map_cons, List.map_nil]); first | done | rfl | (simp only [List.length_drop, List.length_take]; rfl)) ?_; (with_reducible refine (barquelaw10_cut.calls a0 t519 _ A4.out).mono ?_); rintro e w' ⟨rfl, ⟨nd, rfl⟩⟩; refine ⟨_, rfl, ?_⟩) | ((with_reducible refine gate_callee (f := 16) rfl ?_); refine goesL_ (some 16) rfl rfl Tryd.func16 (by kernel_rfl) rfl #[.string a1] rfl (by (try simp only [List.map_toArray, List.map_cons, List.map_nil]); first | done | rfl | (simp only [List.length_drop, List.length_take]; rfl)) ?_; (with_reducible refine (barquelaw10_cut.calls a1 t520 _ A5.out).mono ?_); rintro e w' ⟨rfl, ⟨nd, rfl⟩⟩; refine ⟨_, rfl, ?_⟩) | ((with_reducible refine gate_callee (f := 16) rfl ?_); refine goesL_ (some 18) rfl rfl Tryd.func16 (by kernel_rfl) rfl #[.string a2] rfl (by (try simp only [List.map_toArray, List.map_cons, List.map_nil]); first | done | rfl | (simp only [List.length_drop, List.length_take]; rfl)) ?_; (with_reducible refine (barquelaw10_cut.calls a2 t521 _ A6.out).mono ?_); rintro e w' ⟨rfl, ⟨nd, rfl⟩⟩; refine ⟨_, rfl, ?_⟩) | ((with_reducible refine gate_callee (f := 22) rfl ?_); refine goesL_ (some 23) rfl rfl Tryd.func22 (by kernel_rfl) rfl #[.string t519, .string t520, .string t521] rfl (by (try simp only [List.map_toArray, List.map_cons, List.map_nil]); first | done | rfl | (simp only [List.length_drop, List.length_take]; rfl)) ?_; (with_reducible refine (image_Merge.calls k t519 t520 t521 t522 t523 t524 _ A7.out).mono ?_); rintro e w23 ⟨v525, rfl, ho0, hb⟩; refine ⟨_, rfl, ?_⟩; have n0_ := Aside0.mk (Kd.R_lower ho0 (below_size (by repeat (first | (with_reducible first | exact HB.out | apply below_alloc | apply pw_below_drewN | apply below_drew1) | exact HB.out)))); have n1_ := Aside0.mk (below_step (by repeat (first | (with_reducible first | exact HB.out | apply below_alloc | apply pw_below_drewN | apply below_drew1) | exact HB.out)) hb); clear HB; have HO526 := n0_; have HB := n1_; clear n0_ n1_; (try clear hb); (try clear hb2); (try clear hk); (try clear hi); (try clear ho0)) | ((with_reducible refine gate_callee (f := 23) rfl ?_); refine goesL_ (some 31) rfl rfl Tryd.func23 (by kernel_rfl) rfl #[.string t519, .string t520, .string t521] rfl (by (try simp only [List.map_toArray, List.map_cons, List.map_nil]); first | done | rfl | (simp only [List.length_drop, List.length_take]; rfl)) ?_; (with_reducible refine (barqueref10_Merge.calls k t519 t520 t521 t527 t528 t529 _ A8.out).mono ?_); rintro e w24 ⟨v530, rfl, ho0, hb⟩; refine ⟨_, rfl, ?_⟩; have n0_ := Aside0.mk (Kd.R_elder' (by (with_reducible repeat (first | apply Kd.R_alloc | apply Kd.R_drewN | apply Kd.R_drew)); exact HO526.out) (Kd.R_base ho0) hb); have n1_ := Aside0.mk (Kd.R_lower (Kd.R_new' ho0 (Kd.R_lt (by (with_reducible repeat (first | apply Kd.R_alloc | apply Kd.R_drewN | apply Kd.R_drew)); exact HO526.out))) (below_size (by repeat (first | (with_reducible first | exact HB.out | apply below_alloc | apply pw_below_drewN | apply below_drew1) | exact HB.out)))); have n2_ := Aside0.mk (below_step (by repeat (first | (with_reducible first | exact HB.out | apply below_alloc | apply pw_below_drewN | apply below_drew1) | exact HB.out)) hb); clear HO526; clear HB; have HO526 := n0_; have HO531 := n1_; have HB := n2_; clear n0_ n1_ n2_; (try clear hb); (try clear hb2); (try clear hk); (try clear hi); (try clear ho0); obtain ⟨Ao25, co25, eo25⟩ := Kd.R_slice HO526.out; subst eo25; obtain ⟨Ao26, co26, eo26⟩ := Kd.R_slice HO531.out; subst eo26) | (go_at_call 24; (with_reducible refine (barquelaw10_texts.calls k _ _ t523 _ _ t528 false _ ?side1 ?side2 ?side3 ?side4 A10.out).mono ?_); (case side1 => repeat (first | exact (Kd.R_reads' HO526.out).2.2 | (with_reducible refine Kd.C_alloc ?_ _) | (with_reducible refine Kd.C_drewN ?_ _) | (with_reducible refine Kd.C_drew ?_))); (case side2 => exact (Kd.R_reads' HO526.out).2.1); (case side3 => repeat (first | exact (Kd.R_reads' HO531.out).2.2 | (with_reducible refine Kd.C_alloc ?_ _) | (with_reducible refine Kd.C_drewN ?_ _) | (with_reducible refine Kd.C_drew ?_))); (case side4 => exact (Kd.R_reads' HO531.out).2.1); rintro e w' ⟨rfl, ⟨nd, rfl⟩⟩)); go_ret; exact ⟨by first | rfl | (simp [errW_none, errW_some] <;> rfl) | (simp [*, errW_none, errW_some] <;> rfl), by repeat (first | (with_reducible first | exact HB.out | apply below_alloc | apply pw_below_drewN | apply below_drew1) | exact HB.out)⟩
 ·rw [if_neg c9] at H; have c9b0 : (t522.toList == t527.toList) = false := beq_eq_false_iff_ne.mpr c9; have c9b1 : (t522.toList != t527.toList) = true := bne_iff_ne.mpr c9; obtain rfl := Option.some.inj H; go_enter Tryd.func8, Tryd.ntmps8; go_wp2_with (first | ((with_reducible refine gate_callee (f := 16) rfl ?_); refine goesL_ (some 14) rfl rfl Tryd.func16 (by kernel_rfl) rfl #[.string a0] rfl (by (try simp only [List.map_toArray, List.map_cons, List.map_nil]); first | done | rfl | (simp only [List.length_drop, List.length_take]; rfl)) ?_; (with_reducible refine (barquelaw10_cut.calls a0 t519 _ A4.out).mono ?_); rintro e w' ⟨rfl, ⟨nd, rfl⟩⟩; refine ⟨_, rfl, ?_⟩) | ((with_reducible refine gate_callee (f := 16) rfl ?_); refine goesL_ (some 16) rfl rfl Tryd.func16 (by kernel_rfl) rfl #[.string a1] rfl (by (try simp only [List.map_toArray, List.map_cons, List.map_nil]); first | done | rfl | (simp only [List.length_drop, List.length_take]; rfl)) ?_; (with_reducible refine (barquelaw10_cut.calls a1 t520 _ A5.out).mono ?_); rintro e w' ⟨rfl, ⟨nd, rfl⟩⟩; refine ⟨_, rfl, ?_⟩) | ((with_reducible refine gate_callee (f := 16) rfl ?_); refine goesL_ (some 18) rfl rfl Tryd.func16 (by kernel_rfl) rfl #[.string a2] rfl (by (try simp only [List.map_toArray, List.map_cons, List.map_nil]); first | done | rfl | (simp only [List.length_drop, List.length_take]; rfl)) ?_; (with_reducible refine (barquelaw10_cut.calls a2 t521 _ A6.out).mono ?_); rintro e w' ⟨rfl, ⟨nd, rfl⟩⟩; refine ⟨_, rfl, ?_⟩) | ((with_reducible refine gate_callee (f := 22) rfl ?_); refine goesL_ (some 23) rfl rfl Tryd.func22 (by kernel_rfl) rfl #[.string t519, .string t520, .string t521] rfl (by (try simp only [List.map_toArray, List.map_cons, List.map_nil]); first | done | rfl | (simp only [List.length_drop, List.length_take]; rfl)) ?_; (with_reducible refine (image_Merge.calls k t519 t520 t521 t522 t523 t524 _ A7.out).mono ?_); rintro e w27 ⟨v525, rfl, ho0, hb⟩; refine ⟨_, rfl, ?_⟩; have n0_ := Aside0.mk (Kd.R_lower ho0 (below_size (by repeat (first | (with_reducible first | exact HB.out | apply below_alloc | apply pw_below_drewN | apply below_drew1) | exact HB.out)))); have n1_ := Aside0.mk (below_step (by repeat (first | (with_reducible first | exact HB.out | apply below_alloc | apply pw_below_drewN | apply below_drew1) | exact HB.out)) hb); clear HB; have HO526 := n0_; have HB := n1_; clear n0_ n1_; (try clear hb); (try clear hb2); (try clear hk); (try clear hi); (try clear ho0)) | ((with_reducible refine gate_callee (f := 23) rfl ?_); refine goesL_ (some 31) rfl rfl Tryd.func23 (by kernel_rfl) rfl #[.string t519, .string t520, .string t521] rfl (by (try simp only [List.map_toArray, List.map_cons, List.map_nil]); first | done | rfl | (simp only [List.length_drop, List.length_take]; rfl)) ?_; (with_reducible refine (barqueref10_Merge.calls k t519 t520 t521 t527 t528 t529 _ A8.out).mono ?_); rintro e w28 ⟨v530, rfl, ho0, hb⟩; refine ⟨_, rfl, ?_⟩; have n0_ := Aside0.mk (Kd.R_elder' (by (with_reducible repeat (first | apply Kd.R_alloc | apply Kd.R_drewN | apply Kd.R_drew)); exact HO526.out) (Kd.R_base ho0) hb); have n1_ := Aside0.mk (Kd.R_lower (Kd.R_new' ho0 (Kd.R_lt (by (with_reducible repeat (first | apply Kd.R_alloc | apply Kd.R_drewN | apply Kd.R_drew)); exact HO526.out))) (below_size (by repeat (first | (with_reducible first | exact HB.out | apply below_alloc | apply pw_below_drewN | apply below_drew1) | exact HB.out)))); have n2_ := Aside0.mk (below_step (by repeat (first | (with_reducible first | exact HB.out | apply below_alloc | apply pw_below_drewN | apply below_drew1) | exact HB.out)) hb); clear HO526; clear HB; have HO526 := n0_; have HO531 := n1_; have HB := n2_; clear n0_ n1_ n2_; (try clear hb); (try clear hb2); (try clear hk); (try clear hi); (try clear ho0))); go_ret; exact ⟨by first | rfl | (simp [errW_none, errW_some] <;> rfl) | (simp [*, errW_none, errW_some] <;> rfl), by repeat (first | (with_reducible first | exact HB.out | apply below_alloc | apply pw_below_drewN | apply below_drew1) | exact HB.out)⟩
end Go.Proofs.YtmeofdpmddjbgaaDoor.G
end
section
namespace Go.Proofs.YtmeofdpmddjbgaaDoor.G
open Go.RowKit Go.Proofs.YtmeofdpmddjbgaaDoorW.PrintWords Go.Proofs.YtmeofdpmddjbgaaDoorW.PrintLast Go.Proofs.YtmeofdpmddjbgaaDoorW.PrintMore
set_option linter.unusedVariables false
set_option linter.unusedSimpArgs false
theorem ImageMerges_pure (a b c : ByteArray) (ha : a.size ≤ 140737488351232) (hb : b.size ≤ 140737488351232) (hc : c.size ≤ 140737488351232) : ∃ k, barquelaw10_ImageMerges.f k a b c = some true := by
 refine Ev.rounds ?_
 unfold barquelaw10_ImageMerges.f
 obtain ⟨s, s1, s2⟩ := cut_f a
 obtain ⟨t, t1, t2⟩ := cut_f b
 obtain ⟨u, u1, u2⟩ := cut_f c
 simp only [s2, t2, u2, Option.bind_some]
 by_cases h : (treeE s).2 = 0 ∧ (treeE t).2 = 0 ∧ (treeE u).2 = 0
 ·obtain ⟨h1, h2, h3⟩ := h
  obtain ⟨ps, p1, p2, p3⟩ := imagemerge_ok s t u (by omega) (by omega) (by omega) h1 h2 h3
  have hl := finE_len (treeE s).1 (treeE t).1 (treeE u).1 ps p2
  refine Ev.bind p3 (Ev.bind (refmerge_ok s t u (by omega) (by omega) (by omega) h1 h2 h3 ps p1) ?_)
  simp only [↓reduceIte]
  refine Ev.bind (texts_ev _ (by omega)) ?_
  simp only [↓reduceIte]
  exact Ev.bind awakeI_ev (Ev.now _)
 ·refine Ev.bind (imagemerge_bad s t u (by omega) (by omega) (by omega) h) (Ev.bind (refmerge_bad s t u (by omega) (by omega) (by omega) h) ?_)
  simp only [↓reduceIte]
  refine Ev.bind (texts_ev _ (by rw [List.length_nil]; omega)) ?_
  simp only [↓reduceIte]
  exact Ev.bind awakeI_ev (Ev.now _)
end Go.Proofs.YtmeofdpmddjbgaaDoor.G
end
