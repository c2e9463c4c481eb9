import Derived.Test.YtafjlibcdlihcaaDoorPm2
import Derived.Test.YtafjlibcdlihcaaDoorPm1
import Derived.Test.YtafjlibcdlihcaaDoorPt1
import Derived.Test.YtafjlibcdlihcaaDoorG0
import Derived.Test.YtafjlibcdlihcaaDoorG15
import Derived.Test.YtafjlibcdlihcaaDoorG16
import Derived.Test.YtafjlibcdlihcaaDoorG18
import Derived.Test.YtafjlibcdlihcaaDoorG28
import Derived.Test.YtafjlibcdlihcaaDoorG4
import Derived.Test.YtafjlibcdlihcaaDoorG5
namespace Go.Proofs.YtafjlibcdlihcaaDoor.G
open Go.RowKit Go.Proofs.YtafjlibcdlihcaaDoorW.PrintWords Go.Proofs.YtafjlibcdlihcaaDoorW.PrintLast Go.Proofs.YtafjlibcdlihcaaDoorW.PrintMore
set_option linter.unusedVariables false
set_option linter.unusedSimpArgs false

/-! ### May a pattern be -/
def patE (s : ByteArray) : Int := if 200 < s.size then 4 else if (names_ s).all (fun n => (n.data.toList == [42, 42]) || nameB (plainL n.data.toList)) then 0 else 10
theorem pat_l0 (l : List ByteArray) (hl : l.length ≤ 4294967296) (hm : ∀ n ∈ l, n.size ≤ 1000) : ∀ (d i : Nat), l.length - i = d → i ≤ l.length →
    Ev (fun k => tree_Pattern.l0 k l l.length i) (if (l.drop i).all (fun n => (n.data.toList == [42, 42]) || nameB (plainL n.data.toList)) then 0 else 10) := by
  intro d
  induction d with
  | zero =>
    intro i hd hi
    have e : i = l.length := by omega
    subst e
    apply Ev.step
    · intro k; rw [tree_Pattern.l0]
    have c1 : ¬ ((l.length : Int) < (l.length : Int)) := by omega
    simp only [c1, ↓reduceIte]
    rw [List.drop_eq_nil_of_le (Nat.le_refl _)]
    exact Ev.now _
  | succ d ih =>
    intro i hd hi
    have hlt : i < l.length := by omega
    apply Ev.step
    · intro k; rw [tree_Pattern.l0]
    have c1 : ((i : Int) < (l.length : Int)) := by omega
    have c2 : (0 : Int) ≤ (i : Int) := by omega
    have hw : wrap64 ((i : Int) + 1) = ((i + 1 : Nat) : Int) := by rw [w64_ (by omega) (by omega)]; omega
    have hn := ih (i + 1) (by omega) (by omega)
    have hsz : (l[i]'hlt).size ≤ 140737488351232 := Nat.le_trans (hm _ (List.getElem_mem hlt)) (by omega)
    simp only [c1, c2, ↓reduceIte, rdOf_nat _ l i hlt, hw, tree_plain.f, tree_name.f, hsz, Option.bind_some, toList_data_]
    rw [List.drop_eq_getElem_cons hlt, List.all_cons]
    by_cases h1 : (l[i]'hlt).data.toList = [42, 42]
    · simp only [h1, ↓reduceIte, beq_self_eq_true, Bool.true_or, Bool.true_and]
      exact hn
    · have h1' : ((l[i]'hlt).data.toList == [42, 42]) = false := by simpa using h1
      simp only [h1, h1', ↓reduceIte, Bool.false_or]
      cases nameB (plainL (l[i]'hlt).data.toList) with
      | true =>
        simp only [↓reduceIte, Bool.true_and]
        exact hn
      | false =>
        simp only [↓reduceIte, Bool.false_and, Bool.false_eq_true]
        exact Ev.now _
theorem names_small (s : ByteArray) (h : s.size ≤ 200) : ∀ n ∈ names_ s, n.size ≤ 1000 := fun n hn => by
  have := names_mem s n hn
  omega
theorem pat_ev (s : ByteArray) : Ev (fun k => tree_Pattern.f k s) (patE s) := by
  unfold tree_Pattern.f patE
  by_cases h : 200 < s.size
  · have c1 : ((s.size : Int) > 200) := by omega
    simp only [c1, h, ↓reduceIte]
    exact Ev.now _
  · have c1 : ¬ ((s.size : Int) > 200) := by omega
    have hl := names_length_ s
    have hs : strings_Split.f s (⟨#[47]⟩ : ByteArray) = some (names_ s) := by unfold strings_Split.f; exact if_pos ⟨rfl, by omega⟩
    simp only [c1, h, ↓reduceIte, hs, Option.bind_some]
    have h1 := pat_l0 (names_ s) (by omega) (names_small s (by omega)) (names_ s).length 0 (by omega) (by omega)
    simpa using h1
theorem refpat_loop : ∀ (l : List ByteArray), (∀ n ∈ l, n.size ≤ 1000) → Ev (fun k => patLoop k l) (if l.all (fun n => (n.data.toList == [42, 42]) || nameB (plainL n.data.toList)) then 0 else 10)
  | [], _ => by
    unfold patLoop
    exact Ev.now _
  | n :: l, hm => by
    have hn := refpat_loop l (fun x hx => hm x (List.mem_cons_of_mem _ hx))
    have hsz := hm n (List.mem_cons_self ..)
    unfold patLoop
    rw [List.all_cons]
    by_cases h1 : n.data.toList = [42, 42]
    · simp only [h1, ↓reduceIte, beq_self_eq_true, Bool.true_or, Bool.true_and]
      exact hn
    · have h1' : (n.data.toList == [42, 42]) = false := by simpa using h1
      have h2 : ¬ 140737488351232 < n.size := by omega
      simp only [h1, h1', h2, ↓reduceIte, Bool.false_or]
      have hps : (⟨(plainL n.data.toList).toArray⟩ : ByteArray).size ≤ 4611686018427387904 := by
        have e : (⟨(plainL n.data.toList).toArray⟩ : ByteArray).size = n.size := by
          rw [← sz_, List.toList_toArray, plainL_length, sz_]
        omega
      refine Ev.bind (refname_ev _ hps) ?_
      rw [List.toList_toArray]
      cases nameB (plainL n.data.toList) with
      | true =>
        simp only [↓reduceIte, Bool.true_and]
        exact hn
      | false =>
        simp only [↓reduceIte, Bool.false_and, Bool.false_eq_true]
        exact Ev.now _
theorem refpat_ev (s : ByteArray) : Ev (fun k => barqueref09_Pattern.f k s) (patE s) := by
  unfold barqueref09_Pattern.f patE
  by_cases h : 200 < s.size
  · have c1 : ((s.size : Int) > 200) := by omega
    simp only [c1, h, ↓reduceIte]
    exact Ev.now _
  · have c1 : ¬ ((s.size : Int) > 200) := by omega
    simp only [c1, h, ↓reduceIte]
    exact Ev.bind (refnames_ev s (by omega)) (refpat_loop _ (names_small s (by omega)))
theorem patE_size (s : ByteArray) (h : patE s = 0) : s.size ≤ 200 := by
  unfold patE at h
  split at h
  · cases h
  · omega

/-! ### Does a path fit: row by row -/
def stM (P : List ByteArray) (j : Nat) : Bool := decide ((rdOf ByteArray.empty P (j : Int)).toList = ([42, 42] : List UInt8))
def ftM (P L : List ByteArray) (j i : Nat) : Bool := inNameE (rdOf ByteArray.empty P (j : Int)) (rdOf ByteArray.empty L (i : Int))
def fitE (P L : List ByteArray) : Bool := bw (stM P) (ftM P L) P.length L.length P.length L.length
def matchE (p s : ByteArray) : Bool := if patE p = 0 ∧ pathE s = 0 then fitE (names_ p) (names_ s) else false
theorem tm_l1 (P L : List ByteArray) (hp : P.length ≤ 4294967296) (hs : L.length ≤ 4294967296) (hP : ∀ n ∈ P, n.size ≤ 1000) (hL : ∀ n ∈ L, n.size ≤ 1000) (j : Nat) (hj : j < P.length) (row : List Bool) (hrl : row.length = L.length + 1)
    (hr : ∀ t : Nat, t ≤ L.length → rdOf false row (t : Int) = fw (stM P) (ftM P L) j t) (r : Bool)
    (hc : ∀ next : List Bool, next.length = L.length + 1 → (∀ t : Nat, t ≤ L.length → rdOf false next (t : Int) = fw (stM P) (ftM P L) (j + 1) t) →
      Ev (fun k => tree_Match.l0 k L next P P.length ((j + 1 : Nat) : Int)) r) :
    ∀ (d i : Nat) (next : List Bool), L.length + 1 - i = d → i ≤ L.length + 1 → next.length = L.length + 1 →
      (∀ t : Nat, t ≤ L.length → rdOf false next (t : Int) = if t < i then fw (stM P) (ftM P L) (j + 1) t else false) →
      Ev (fun k => tree_Match.l1 k L row (rdOf ByteArray.empty P j) next P P.length j ((L.length + 1 : Nat) : Int) i) r := by
  intro d
  induction d with
  | zero =>
    intro i next hd hi hnl hn
    apply Ev.step
    · intro k; rw [tree_Match.l1]
    have c1 : ¬ ((i : Int) < ((L.length + 1 : Nat) : Int)) := by omega
    have hw : wrap64 ((j : Int) + 1) = ((j + 1 : Nat) : Int) := by rw [w64_ (by omega) (by omega)]; omega
    simp only [c1, ↓reduceIte, hw]
    exact hc next hnl (fun t ht => by rw [hn t ht, if_pos (by omega)])
  | succ d ih =>
    intro i next hd hi hnl hn
    have hset : ∀ v : Bool, v = fw (stM P) (ftM P L) (j + 1) i → Ev (fun k => tree_Match.l1 k L row (rdOf ByteArray.empty P j) (next.set i v) P P.length j ((L.length + 1 : Nat) : Int) ((i + 1 : Nat) : Int)) r := fun v hv =>
      ih (i + 1) _ (by omega) (by omega) (by rw [List.length_set]; exact hnl) (fun t ht => by
        rw [rdB_set _ _ _ _ (by omega)]
        by_cases e : t = i
        · rw [if_pos e, if_pos (by omega), e]; exact hv
        · rw [if_neg e, hn t ht]
          by_cases g : t < i
          · rw [if_pos g, if_pos (by omega)]
          · rw [if_neg g, if_neg (by omega)])
    have hri := hr i (by omega)
    have c1 : ((i : Int) < ((L.length + 1 : Nat) : Int)) := by omega
    have c2 : (0 : Int) ≤ (i : Int) := by omega
    have c3 : (i : Int) < (row.length : Int) := by omega
    have c4 : (i : Int) < (next.length : Int) := by omega
    have hw : wrap64 ((i : Int) + 1) = ((i + 1 : Nat) : Int) := by rw [w64_ (by omega) (by omega)]; omega
    apply Ev.step
    · intro k; rw [tree_Match.l1]
    simp only [c1, c2, c3, c4, hw, ↓reduceIte, Int.toNat_natCast]
    by_cases h42 : (rdOf ByteArray.empty P (j : Int)).toList = ([42, 42] : List UInt8)
    · have hst : stM P j = true := by simp [stM, h42]
      simp only [h42, ↓reduceIte]
      cases hv : rdOf false row (i : Int) with
      | true =>
        simp only [↓reduceIte]
        refine hset true ?_
        rw [hv] at hri
        cases i with
        | zero => rw [fw, hst, ← hri]; rfl
        | succ i => rw [fw, hst, ← hri]; rfl
      | false =>
        rw [hv] at hri
        cases i with
        | zero =>
          have c5 : ¬ (((0 : Nat) : Int) > 0) := by omega
          simp only [c5, ↓reduceIte, Bool.false_eq_true]
          refine hset false ?_
          rw [fw, hst, ← hri]; rfl
        | succ i =>
          have c5 : (((i + 1 : Nat) : Int) > 0) := by omega
          have hw1 : wrap64 (((i + 1 : Nat) : Int) - 1) = (i : Int) := by rw [w64_ (by omega) (by omega)]; omega
          have c6 : (0 : Int) ≤ (i : Int) := by omega
          have c7 : (i : Int) < (next.length : Int) := by omega
          simp only [c5, hw1, c6, c7, ↓reduceIte, Bool.false_eq_true]
          refine hset _ ?_
          rw [hn i (by omega), if_pos (by omega), fw, hst, ← hri]
          simp
    · have hst : stM P j = false := by simp [stM, h42]
      simp only [h42, ↓reduceIte]
      cases i with
      | zero =>
        have c5 : ¬ (((0 : Nat) : Int) > 0) := by omega
        simp only [c5, ↓reduceIte]
        refine ih (0 + 1) next (by omega) (by omega) hnl (fun t ht => ?_)
        rw [hn t ht, if_neg (by omega)]
        by_cases e : t = 0
        · subst e
          rw [if_pos (by omega), fw, hst]; rfl
        · rw [if_neg (by omega)]
      | succ i =>
        have c5 : (((i + 1 : Nat) : Int) > 0) := by omega
        have hw1 : wrap64 (((i + 1 : Nat) : Int) - 1) = (i : Int) := by rw [w64_ (by omega) (by omega)]; omega
        have c6 : (0 : Int) ≤ (i : Int) := by omega
        have c7 : (i : Int) < (row.length : Int) := by omega
        have c8 : (i : Int) < (L.length : Int) := by omega
        have hr1 := hr i (by omega)
        simp only [c5, hw1, c6, c7, c8, ↓reduceIte]
        cases hv : rdOf false row (i : Int) with
        | true =>
          rw [hv] at hr1
          simp only [↓reduceIte]
          have hrp : rdOf ByteArray.empty P (j : Int) = P[j]'hj := rdOf_nat _ P j hj
          have hil : i < L.length := by omega
          have hrl2 : rdOf ByteArray.empty L (i : Int) = L[i]'hil := rdOf_nat _ L i hil
          rw [hrp, hrl2]
          refine Ev.bind (inName_ev _ _ (hP _ (List.getElem_mem hj)) (hL _ (List.getElem_mem hil))) ?_
          rw [← hrp]
          refine hset _ ?_
          rw [fw, hst, ← hr1, ← hrl2]
          simp [ftM]
        | false =>
          rw [hv] at hr1
          simp only [↓reduceIte, Bool.false_eq_true]
          refine hset false ?_
          rw [fw, hst, ← hr1]
          simp
theorem tm_l0 (P L : List ByteArray) (hp : P.length ≤ 4294967296) (hs : L.length ≤ 4294967296) (hP : ∀ n ∈ P, n.size ≤ 1000) (hL : ∀ n ∈ L, n.size ≤ 1000) : ∀ (d j : Nat) (row : List Bool), P.length - j = d → j ≤ P.length → row.length = L.length + 1 →
    (∀ t : Nat, t ≤ L.length → rdOf false row (t : Int) = fw (stM P) (ftM P L) j t) →
    Ev (fun k => tree_Match.l0 k L row P P.length j) (fw (stM P) (ftM P L) P.length L.length) := by
  intro d
  induction d with
  | zero =>
    intro j row hd hj hrl hr
    have e : j = P.length := by omega
    subst e
    apply Ev.step
    · intro k; rw [tree_Match.l0]
    have c1 : ¬ ((P.length : Int) < (P.length : Int)) := by omega
    have c2 : (0 : Int) ≤ (L.length : Int) := by omega
    have c3 : (L.length : Int) < (row.length : Int) := by omega
    simp only [c1, c2, c3, ↓reduceIte, hr L.length (Nat.le_refl _)]
    exact Ev.now _
  | succ d ih =>
    intro j row hd hj hrl hr
    apply Ev.step
    · intro k; rw [tree_Match.l0]
    have c1 : ((j : Int) < (P.length : Int)) := by omega
    have c2 : (0 : Int) ≤ (j : Int) := by omega
    have hw : wrap64 ((L.length : Int) + 1) = ((L.length + 1 : Nat) : Int) := by rw [w64_ (by omega) (by omega)]; omega
    have c4 : (0 : Int) ≤ ((L.length + 1 : Nat) : Int) := by omega
    have c5 : L.length + 1 ≤ 281474976710656 := by omega
    simp only [c1, c2, c4, c5, hw, ↓reduceIte, Int.toNat_natCast, Option.bind_some, List.length_replicate]
    exact tm_l1 P L hp hs hP hL j (by omega) row hrl hr _ (fun next h1 h2 => ih (j + 1) next (by omega) (by omega) h1 h2) (L.length + 1) 0 _ (by omega) (by omega) (List.length_replicate) (fun t ht => by rw [rdB_rep, if_neg (by omega)])
theorem tm_j1 (p s : ByteArray) (P L : List ByteArray) (cp : Ev (fun _ => strings_Split.f p (⟨#[47]⟩ : ByteArray)) P) (cs : Ev (fun _ => strings_Split.f s (⟨#[47]⟩ : ByteArray)) L)
    (hp : P.length ≤ 1000) (hs : L.length ≤ 1000) (hP : ∀ n ∈ P, n.size ≤ 1000) (hL : ∀ n ∈ L, n.size ≤ 1000) : Ev (fun k => tree_Match.j0 k p s false) (fitE P L) := by
  apply Ev.step
  · intro k; rw [tree_Match.j0]
  have hw : wrap64 ((L.length : Int) + 1) = ((L.length + 1 : Nat) : Int) := by rw [w64_ (by omega) (by omega)]; omega
  have c4 : (0 : Int) ≤ ((L.length + 1 : Nat) : Int) := by omega
  have c5 : L.length + 1 ≤ 281474976710656 := by omega
  have c6 : (0 : Int) < ((L.length + 1 : Nat) : Int) := by omega
  simp only [Bool.false_eq_true, ↓reduceIte]
  refine Ev.bind cs ?_
  simp only [↓reduceIte, Option.bind_some, hw, c4, c5, c6, Int.toNat_natCast, List.length_replicate]
  refine Ev.bind cp ?_
  unfold fitE
  rw [← fw_bw]
  refine tm_l0 P L (by omega) (by omega) hP hL P.length 0 _ (by omega) (by omega) (by rw [List.length_set, List.length_replicate]) (fun t ht => ?_)
  have e : ((0 : Int).toNat) = 0 := rfl
  rw [e, rdB_set _ _ _ _ (by rw [List.length_replicate]; omega), rdB_rep, fw]
  by_cases g : t = 0
  · subst g; rfl
  · rw [if_neg g]; simpa using g
theorem split_ev (p : ByteArray) (h : p.size ≤ 200) : Ev (fun _ => strings_Split.f p (⟨#[47]⟩ : ByteArray)) (names_ p) := by
  have cp : strings_Split.f p (⟨#[47]⟩ : ByteArray) = some (names_ p) := by unfold strings_Split.f; exact if_pos ⟨rfl, by omega⟩
  rw [cp]
  exact Ev.now _
theorem tm_j0 (p s : ByteArray) (hp : p.size ≤ 200) (hs : s.size ≤ 200) : Ev (fun k => tree_Match.j0 k p s false) (fitE (names_ p) (names_ s)) := by
  have hlp := names_length_ p
  have hls := names_length_ s
  exact tm_j1 p s _ _ (split_ev p hp) (split_ev s hs) (by omega) (by omega) (names_small p hp) (names_small s hs)
theorem match_ev (p s : ByteArray) : Ev (fun k => tree_Match.f k p s) (matchE p s) := by
  unfold tree_Match.f matchE
  refine Ev.bind (pat_ev p) ?_
  by_cases h1 : patE p = 0
  · simp only [h1, ↓reduceIte, true_and]
    refine Ev.bind (path_ev s) ?_
    by_cases h2 : pathE s = 0
    · simp only [h2, ↓reduceIte, bne_self_eq_false]
      exact tm_j0 p s (patE_size p h1) (pathE_size s h2)
    · have h2' : (pathE s != 0) = true := by simpa using h2
      simp only [h2, h2', ↓reduceIte]
      apply Ev.step
      · intro k; rw [tree_Match.j0]
      simp only [↓reduceIte]
      exact Ev.now _
  · simp only [h1, ↓reduceIte, false_and]
    apply Ev.step
    · intro k; rw [tree_Match.j0]
    simp only [↓reduceIte]
    exact Ev.now _
end Go.Proofs.YtafjlibcdlihcaaDoor.G
