/- Texts of this session's claim of TreeBytes, less what its theorem does not reach. No condition. -/
import Derived.Test.YtafjlibcdlihcaaDoorTY12
import Derived.Test.YtafjlibcdlihcaaDoorTY13
import Derived.Test.YtafjlibcdlihcaaDoorTY14
section
namespace Go.Proofs.YtafjlibcdlihcaaDoor.G
open Go.RowKit Go.Proofs.YtafjlibcdlihcaaDoorW.PrintWords Go.Proofs.YtafjlibcdlihcaaDoorW.PrintLast Go.Proofs.YtafjlibcdlihcaaDoorW.PrintMore
set_option linter.unusedVariables false
set_option linter.unusedSimpArgs false
def comL : List UInt8 → List UInt8 → Nat
  | a :: x, b :: y => if a = b then comL x y + 1 else 0
  | _, _ => 0
theorem comL_le : ∀ a b : List UInt8, comL a b ≤ a.length ∧ comL a b ≤ b.length
  | [], b => by simp [comL]
  | a :: x, [] => by simp [comL]
  | a :: x, b :: y => by
    have := comL_le x y
    unfold comL
    split
    · simp only [List.length_cons]; omega
    · exact ⟨Nat.zero_le _, Nat.zero_le _⟩
theorem u8_int_ (a b : UInt8) : ((a.toNat : Int) = (b.toNat : Int)) ↔ a = b := ⟨fun e => UInt8.toNat_inj.1 (Int.ofNat.inj e), fun e => by rw [e]⟩
theorem shared_l0 (a b : ByteArray) (ha : a.size ≤ 140737488351232) (hb : b.size ≤ 140737488351232) (m : Nat) (hm : m = min a.size b.size) : ∀ (d i : Nat), m - i = d → i ≤ m →
    Ev (fun k => tree_shared.l0 k a b i) ((i + comL (a.data.toList.drop i) (b.data.toList.drop i) : Nat) : Int) := by
  have hmn : mn (a.size : Int) (b.size : Int) = (m : Int) := by unfold mn; split <;> omega
  intro d
  induction d with
  | zero =>
    intro i hd hi
    apply Ev.step
    · intro k; rw [tree_shared.l0]
    have c1 : ¬ ((i : Int) < (m : Int)) := by omega
    simp only [hmn, c1, ↓reduceIte]
    have e : comL (a.data.toList.drop i) (b.data.toList.drop i) = 0 := by
      have h := comL_le (a.data.toList.drop i) (b.data.toList.drop i)
      rw [List.length_drop, List.length_drop, sz_, sz_] at h
      omega
    rw [e]
    exact Ev.now _
  | succ d ih =>
    intro i hd hi
    have hd1 : m - (i + 1) = d := by omega
    have hi1 : i + 1 ≤ m := by omega
    have h1 : i < a.size := by omega
    have h2 : i < b.size := by omega
    have hla : i < a.data.toList.length := by rw [sz_]; exact h1
    have hlb : i < b.data.toList.length := by rw [sz_]; exact h2
    apply Ev.step
    · intro k; rw [tree_shared.l0]
    have c1 : ((i : Int) < (m : Int)) := by omega
    have c2 : (0 : Int) ≤ (i : Int) := by omega
    have c3 : ((i : Int) < (a.size : Int)) := by omega
    have c4 : ((i : Int) < (b.size : Int)) := by omega
    have hw : wrap64 ((i : Int) + 1) = ((i + 1 : Nat) : Int) := by rw [w64_ (by omega) (by omega)]; omega
    simp only [hmn, c1, c2, c3, c4, ↓reduceIte, bt_nat a i h1, bt_nat b i h2, u8_int_, hw]
    have hih := ih (i + 1) hd1 hi1
    rw [List.drop_eq_getElem_cons hla, List.drop_eq_getElem_cons hlb, comL]
    by_cases h : a.data.toList[i]'hla = b.data.toList[i]'hlb
    · simp only [h, ↓reduceIte]
      have e : i + (comL (a.data.toList.drop (i + 1)) (b.data.toList.drop (i + 1)) + 1) = i + 1 + comL (a.data.toList.drop (i + 1)) (b.data.toList.drop (i + 1)) := by omega
      rw [e]
      exact hih
    · simp only [h, ↓reduceIte]
      exact Ev.now _
theorem shared_ev (a b : ByteArray) (ha : a.size ≤ 140737488351232) (hb : b.size ≤ 140737488351232) : Ev (fun k => tree_shared.f k a b) ((comL a.data.toList b.data.toList : Nat) : Int) := by
  unfold tree_shared.f
  have h := shared_l0 a b ha hb _ rfl (min a.size b.size) 0 (by omega) (by omega)
  simpa using h
theorem refshared_l0 (a b : ByteArray) (ha : a.size ≤ 140737488351232) (hb : b.size ≤ 140737488351232) : ∀ (d i : Nat), a.size - i = d → i ≤ a.size →
    Ev (fun k => barqueref09_shared.l0 k a b i) ((i + comL (a.data.toList.drop i) (b.data.toList.drop i) : Nat) : Int) := by
  intro d
  induction d with
  | zero =>
    intro i hd hi
    apply Ev.step
    · intro k; rw [barqueref09_shared.l0]
    have c1 : ¬ ((i : Int) < (a.size : Int)) := by omega
    simp only [c1, ↓reduceIte]
    have e : comL (a.data.toList.drop i) (b.data.toList.drop i) = 0 := by
      have h := comL_le (a.data.toList.drop i) (b.data.toList.drop i)
      rw [List.length_drop, List.length_drop, sz_, sz_] at h
      omega
    rw [e]
    exact Ev.now _
  | succ d ih =>
    intro i hd hi
    have h1 : i < a.size := by omega
    have hla : i < a.data.toList.length := by rw [sz_]; exact h1
    apply Ev.step
    · intro k; rw [barqueref09_shared.l0]
    have c2 : (0 : Int) ≤ (i : Int) := by omega
    have c3 : ((i : Int) < (a.size : Int)) := by omega
    have hw : wrap64 ((i : Int) + 1) = ((i + 1 : Nat) : Int) := by rw [w64_ (by omega) (by omega)]; omega
    by_cases h2 : i < b.size
    · have hlb : i < b.data.toList.length := by rw [sz_]; exact h2
      have c4 : ((i : Int) < (b.size : Int)) := by omega
      simp only [c2, c3, c4, ↓reduceIte, bt_nat a i h1, bt_nat b i h2, u8_int_, hw]
      have hih := ih (i + 1) (by omega) (by omega)
      rw [List.drop_eq_getElem_cons hla, List.drop_eq_getElem_cons hlb, comL]
      by_cases h : a.data.toList[i]'hla = b.data.toList[i]'hlb
      · simp only [h, ↓reduceIte]
        have e : i + (comL (a.data.toList.drop (i + 1)) (b.data.toList.drop (i + 1)) + 1) = i + 1 + comL (a.data.toList.drop (i + 1)) (b.data.toList.drop (i + 1)) := by omega
        rw [e]
        exact hih
      · simp only [h, ↓reduceIte]
        exact Ev.now _
    · have c4 : ¬ ((i : Int) < (b.size : Int)) := by omega
      simp only [c3, c4, ↓reduceIte]
      have e : comL (a.data.toList.drop i) (b.data.toList.drop i) = 0 := by
        have h := comL_le (a.data.toList.drop i) (b.data.toList.drop i)
        rw [List.length_drop, List.length_drop, sz_, sz_] at h
        omega
      rw [e]
      exact Ev.now _
theorem refshared_ev (a b : ByteArray) (ha : a.size ≤ 140737488351232) (hb : b.size ≤ 140737488351232) : Ev (fun k => barqueref09_shared.f k a b) ((comL a.data.toList b.data.toList : Nat) : Int) := by
  unfold barqueref09_shared.f
  have h := refshared_l0 a b ha hb a.size 0 (by omega) (by omega)
  simpa using h
def comN (last : ByteArray) (x : S56) : Nat := comL last.data.toList x.f0.data.toList
theorem comN_le (last : ByteArray) (x : S56) : comN last x ≤ x.f0.size := by
  have := (comL_le last.data.toList x.f0.data.toList).2
  rw [sz_] at this
  exact this
/-- An item's bytes behind the path ahead of it. -/
def itemL (last : ByteArray) (x : S56) : List UInt8 :=
  numB (comN last x) ++ numB ((x.f0.size : Int) - comN last x) ++ (x.f0.extract (comN last x) x.f0.size).data.toList ++ numB x.f1 ++ numB x.f2 ++ x.f3.data.toList
def itemsL : ByteArray → List S56 → List UInt8
  | _, [] => []
  | last, x :: l => itemL last x ++ itemsL x.f0 l
theorem bytesItem_ev (last : ByteArray) (x : S56) (acc : List UInt8) (h0 : last.size ≤ 140737488351232) (h1 : x.f0.size ≤ 200) (h3 : x.f3.size = 32) (ha : acc.length ≤ 4294967296) :
    Ev (fun k => bytesItem k last x acc) (acc ++ itemL last x) := by
  unfold bytesItem
  have hc := comN_le last x
  have hs : Ev (fun k => tree_shared.f k last x.f0) ((comN last x : Nat) : Int) := shared_ev last x.f0 h0 (by omega)
  refine Ev.bind hs ?_
  have h01 : (0 : Int) ≤ ((comN last x : Nat) : Int) := by omega
  have h02 : ((comN last x : Nat) : Int) ≤ (x.f0.size : Int) := by omega
  have h03 : x.f0.size ≤ 140737488351232 := by omega
  simp only [h01, h02, h03, and_self, ↓reduceIte]
  refine Ev.bind (num_ev _) (Ev.bind (num_ev _) (Ev.bind (num_ev _) (Ev.bind (num_ev _) ?_)))
  have n1 := numE_size ((comN last x : Nat) : Int)
  have n2 := numE_size ((x.f0.size : Int) - ((comN last x : Nat) : Int))
  have n3 := numE_size x.f1
  have n4 := numE_size x.f2
  have c2 : acc.length + (numE ((comN last x : Nat) : Int)).1.size + (numE ((x.f0.size : Int) - ((comN last x : Nat) : Int))).1.size + x.f0.size + (numE x.f1).1.size + (numE x.f2).1.size + x.f3.size ≤ 140737488355328 := by omega
  simp only [c2, ↓reduceIte]
  have e : acc ++ itemL last x = acc ++ (numE ((comN last x : Nat) : Int)).1.data.toList ++ (numE ((x.f0.size : Int) - (comN last x : Nat))).1.data.toList ++ (x.f0.extract ((comN last x : Nat) : Int).toNat x.f0.size).data.toList ++ (numE x.f1).1.data.toList ++ (numE x.f2).1.data.toList ++ x.f3.data.toList := by
    unfold itemL numB
    simp only [List.append_assoc, Int.toNat_natCast]
  rw [e]
  exact Ev.now _
theorem itemL_length (last : ByteArray) (x : S56) (h1 : x.f0.size ≤ 200) (h3 : x.f3.size = 32) : (itemL last x).length ≤ 268 := by
  have n1 := numB_length ((comN last x : Nat) : Int)
  have n2 := numB_length ((x.f0.size : Int) - (comN last x : Nat))
  have n3 := numB_length x.f1
  have n4 := numB_length x.f2
  have n5 : (x.f0.extract (comN last x) x.f0.size).size ≤ 200 := by rw [ByteArray.size_extract]; omega
  unfold itemL
  rw [List.length_append, List.length_append, List.length_append, List.length_append, List.length_append, sz_, sz_, h3]
  omega
theorem bytesLoop_ev : ∀ (l : List S56) (last : ByteArray) (acc : List UInt8), last.size ≤ 140737488351232 → (∀ x ∈ l, x.f0.size ≤ 200 ∧ x.f3.size = 32) → acc.length + 268 * l.length ≤ 4294967296 →
    Ev (fun k => bytesLoop k last l acc) (acc ++ itemsL last l)
  | [], last, acc, _, _, _ => by
    unfold bytesLoop itemsL
    rw [List.append_nil]
    exact Ev.now _
  | x :: l, last, acc, h0, hl, ha => by
    obtain ⟨h1, h3⟩ := hl x List.mem_cons_self
    have hi := itemL_length last x h1 h3
    rw [List.length_cons] at ha
    unfold bytesLoop itemsL
    refine Ev.bind (bytesItem_ev last x acc h0 h1 h3 (by omega)) ?_
    rw [← List.append_assoc]
    exact bytesLoop_ev l x.f0 _ (by omega) (fun y hy => hl y (List.mem_cons_of_mem _ hy)) (by rw [List.length_append]; omega)
def bytesE (l : List S56) : ByteArray × Int := if rightE l = 0 then (⟨(numB l.length ++ itemsL ⟨#[]⟩ l).toArray⟩, 0) else (⟨#[]⟩, rightE l)
theorem right_items (l : List S56) (h : rightE l = 0) : ∀ x ∈ l, x.f0.size ≤ 200 ∧ x.f3.size = 32 := by
  obtain ⟨h1, h2⟩ := rightE_ok l h
  obtain ⟨s1, s2, s3⟩ := pathsE_sorted _ h1
  intro x hx
  exact ⟨pathE_size _ (s2 _ (List.mem_map.2 ⟨x, hx, rfl⟩)), (modesI_ok l h2 x hx).2.2.2.2⟩
theorem bytes_ev (l : List S56) (hl : l.length ≤ 100000) : Ev (fun k => tree_Bytes.f k l) (bytesE l) := by
  unfold tree_Bytes.f bytesE
  refine Ev.bind (right_ev l (by omega)) ?_
  by_cases h : rightE l = 0
  · simp only [h, ↓reduceIte]
    refine Ev.bind (num_ev _) ?_
    have n1 := numE_size (l.length : Int)
    have c : (numE (l.length : Int)).1.size ≤ 140737488355328 := by omega
    simp only [c, ↓reduceIte]
    refine Ev.bind (bytesLoop_ev l ⟨#[]⟩ _ (by decide) (right_items l h) (by rw [sz_]; omega)) ?_
    exact Ev.now _
  · simp only [h, ↓reduceIte]
    exact Ev.now _
end Go.Proofs.YtafjlibcdlihcaaDoor.G
end
section
namespace Go.Proofs.YtafjlibcdlihcaaDoor.G
open Go.RowKit Go.Proofs.YtafjlibcdlihcaaDoorW.PrintWords Go.Proofs.YtafjlibcdlihcaaDoorW.PrintLast Go.Proofs.YtafjlibcdlihcaaDoorW.PrintMore
attribute [local go_sem] max2_int min2_int max_two min_two max_three min_three max_four min_four   -- for this text's walks alone
set_option linter.unusedVariables false
set_option linter.unusedSimpArgs false
def barqueref09_Bytes.l0 : Nat → List (S56) → ByteArray → ByteArray → Int → Option (ByteArray × Int)
  | 0, _, _, _, _ => none
  | k + 1, x0, x5, x6, x7 => if x7 < (x0.length : Int) then (if 0 ≤ x7 then ((barqueref09_shared.f k x6 ((rd_T56 x0 x7).f0)).bind fun t534 => (if 0 ≤ t534 then (if t534 ≤ (((rd_T56 x0 x7).f0).size : Int) then ((barqueref01_Text.f k (((rd_T56 x0 x7).f0).extract (t534 : Int).toNat ((rd_T56 x0 x7).f0).size)).bind fun bt536 => ((barqueref01_Bytes.f k t534).bind fun t538 => (if x5.size + t538.size ≤ 9223372036854775807 then (if (x5 ++ t538).size + bt536.1.size ≤ 9223372036854775807 then ((barqueref01_Bytes.f k ((rd_T56 x0 x7).f1)).bind fun t540 => (if ((x5 ++ t538) ++ bt536.1).size + t540.size ≤ 9223372036854775807 then ((barqueref01_Bytes.f k ((rd_T56 x0 x7).f2)).bind fun t542 => (if (((x5 ++ t538) ++ bt536.1) ++ t540).size + t542.size ≤ 9223372036854775807 then (if ((((x5 ++ t538) ++ bt536.1) ++ t540) ++ t542).size + ((rd_T56 x0 x7).f3).size ≤ 9223372036854775807 then (barqueref09_Bytes.l0 k x0 (((((x5 ++ t538) ++ bt536.1) ++ t540) ++ t542) ++ ((rd_T56 x0 x7).f3)) ((rd_T56 x0 x7).f0) (wrap64 (x7 + 1))) else (none)) else (none))) else (none))) else (none)) else (none)))) else (none)) else (none))) else (none)) else (some (x5, 0))
def barqueref09_Bytes.f (k : Nat) (l0 : List (S56)) : Option (ByteArray × Int) := (barqueref09_Right.f k l0).bind fun t531 => (if t531 = 0 then ((barqueref01_Bytes.f k (l0.length : Int)).bind fun t532 => (barqueref09_Bytes.l0 k l0 t532 (⟨#[]⟩ : ByteArray) 0)) else (some ((⟨#[]⟩ : ByteArray), t531)))
theorem barqueref09_Bytes.mono_l : ∀ k, (∀ y0 y1 y2 y3, LeO (barqueref09_Bytes.l0 k y0 y1 y2 y3) (barqueref09_Bytes.l0 (k + 1) y0 y1 y2 y3))
  | 0 => fun _ _ _ _ r h => by simp [barqueref09_Bytes.l0] at h
  | k + 1 => by
    have ih0 := barqueref09_Bytes.mono_l k
    · intro y0 y1 y2 y3
      unfold barqueref09_Bytes.l0
      repeat' first
      | (with_reducible exact ih0 _ _ _ _)
      | (with_reducible exact barqueref01_Bytes.mono _ _)
      | (with_reducible exact barqueref01_Text.mono _ _)
      | (with_reducible exact barqueref09_Right.mono _ _)
      | (with_reducible exact barqueref09_shared.mono _ _ _)
      | (with_reducible exact LeO.refl _)
      | (with_reducible exact LeO.none _)
      | (with_reducible refine LeO.ite ?_ ?_)
      | (with_reducible refine LeO.bind ?_ (fun _ => ?_))
      | exact ih0 _ _ _ _
      | exact barqueref01_Bytes.mono _ _
      | exact barqueref01_Text.mono _ _
      | exact barqueref09_Right.mono _ _
      | exact barqueref09_shared.mono _ _ _
      | exact LeO.none _
      | refine LeO.ite ?_ ?_
      | refine LeO.bind ?_ (fun _ => ?_)
theorem barqueref09_Bytes.mono : ∀ a0 k, LeO (barqueref09_Bytes.f k a0) (barqueref09_Bytes.f (k + 1) a0) := by
  intro a0 k
  have ih0 := barqueref09_Bytes.mono_l k
  unfold barqueref09_Bytes.f
  repeat' first
      | (with_reducible exact ih0 _ _ _ _)
      | (with_reducible exact barqueref01_Bytes.mono _ _)
      | (with_reducible exact barqueref01_Text.mono _ _)
      | (with_reducible exact barqueref09_Right.mono _ _)
      | (with_reducible exact barqueref09_shared.mono _ _ _)
      | (with_reducible exact LeO.refl _)
      | (with_reducible exact LeO.none _)
      | (with_reducible refine LeO.ite ?_ ?_)
      | (with_reducible refine LeO.bind ?_ (fun _ => ?_))
      | exact ih0 _ _ _ _
      | exact barqueref01_Bytes.mono _ _
      | exact barqueref01_Text.mono _ _
      | exact barqueref09_Right.mono _ _
      | exact barqueref09_shared.mono _ _ _
      | exact LeO.none _
      | refine LeO.ite ?_ ?_
      | refine LeO.bind ?_ (fun _ => ?_)
def barqueref09_Bytes.T11 : Bool × List (List Nat × List Nat) := (true, [([], []), ([], []), ([1], [1]), ([0, 2], [0, 2]), ([], []), ([3, 4], [3, 4]), ([], []), ([], []), ([6, 7], [6, 7]), ([8], [8]), ([9], [9]), ([10, 2], [10]), ([5, 11], [5, 11]), ([], []), ([], []), ([13, 14], [13, 14]), ([15], [15]), ([16], [16]), ([17, 11], [17]), ([12, 18], [12, 18]), ([], []), ([], []), ([20, 21], [20, 21]), ([22], [22]), ([23], [23]), ([19, 24], [19, 24]), ([25, 18, 0, 1, 2, 3, 4, 5, 6, 7, 8, 9, 10, 11, 12, 13, 14, 15, 16, 17, 18, 19, 20, 21, 22, 23, 24, 25], [0, 25])])
def barqueref09_Bytes.B11 : List Nat := [0, 0, 2, 7, 0, 31, 0, 0, 192, 448, 960, 1990, 4095, 0, 0, 24576, 57344, 122880, 257990, 524287, 0, 0, 3145728, 7340032, 15728640, 33554431, 67108863]
theorem barqueref09_Bytes.tab11 : rtab .any (opsOf Tryd.f33 11) = barqueref09_Bytes.T11 := by kernel_rfl
theorem barqueref09_Bytes.bits11 : waitsOk barqueref09_Bytes.T11.2 barqueref09_Bytes.B11 = true := by kernel_rfl
set_option maxHeartbeats 8000000 in
set_option maxRecDepth 100000 in
theorem barqueref09_Bytes.calls (k : Nat) (A0 : Option Addr) (c0 : Nat) (l0 : List (S56)) (r1 : ByteArray) (r2 : Int) (w : World) (hr0 : Kd.C k56 w A0 l0.length l0) (hc0 : l0.length ≤ c0) (h : barqueref09_Bytes.f k l0 = some (r1, r2)) :
    Calls Tryd.prog 33 #[.slice A0 l0.length c0] w fun e w' => e = .returned (.tuple #[.string r1, .int .i64 r2]) ∧ Below w.heap.size w w' := by
  have HR0 := Aside0.mk hr0
  have HC0 := Aside0.mk hc0
  clear hr0 hc0
  have HB := Aside0.mk (Below.refl w.heap.size w)
  have H : ((barqueref09_Right.f k l0).bind fun t531 => (if t531 = 0 then ((barqueref01_Bytes.f k (l0.length : Int)).bind fun t532 => (barqueref09_Bytes.l0 k l0 t532 (⟨#[]⟩ : ByteArray) 0)) else (some ((⟨#[]⟩ : ByteArray), t531)))) = some (r1, r2) := h
  clear h
  replace H := Option.bind_eq_some_iff.mp H
  obtain ⟨t531, A20, H⟩ := H
  replace H : (if t531 = 0 then ((barqueref01_Bytes.f k (l0.length : Int)).bind fun t532 => (barqueref09_Bytes.l0 k l0 t532 (⟨#[]⟩ : ByteArray) 0)) else (some ((⟨#[]⟩ : ByteArray), t531))) = some (r1, r2) := H
  have A2 := Aside0.mk A20
  clear A20
  by_cases c3 : t531 = 0
  · rw [if_pos c3] at H
    have c3b0 : (t531 == 0) = true := beq_iff_eq.mpr c3
    have c3b1 : (t531 != 0) = false := bne_eq_false_iff_eq.mpr c3
    clear c3
    replace H := Option.bind_eq_some_iff.mp H
    obtain ⟨t532, A40, H⟩ := H
    replace H : (barqueref09_Bytes.l0 k l0 t532 (⟨#[]⟩ : ByteArray) 0) = some (r1, r2) := H
    have A4 := Aside0.mk A40
    clear A40
    have H' := Aside0.mk H
    clear H
    go_enter Tryd.func33, Tryd.ntmps33
    go_wp2_with (first | ((with_reducible refine gate_callee (f := 35) rfl ?_); refine goesL_ (some 12) rfl rfl Tryd.func35 (by kernel_rfl) rfl #[.slice A0 l0.length c0] rfl (by (try simp only [List.map_toArray, List.map_cons, List.map_nil]); first | done | rfl | (simp only [List.length_drop, List.length_take]; rfl)) ?_; (with_reducible refine (barqueref09_Right.calls k _ _ l0 t531 _ ?side1 ?side2 A2.out).mono ?_); (case side1 => repeat (first | exact HR0.out | (with_reducible refine Kd.C_alloc ?_ _) | (with_reducible refine Kd.C_drewN ?_ _) | (with_reducible refine Kd.C_drew ?_))); (case side2 => exact HC0.out); rintro e w5 ⟨rfl, hb⟩; refine ⟨_, rfl, ?_⟩; have n0_ := Aside0.mk (below_step (by repeat (first | (with_reducible first | exact HB.out | apply below_alloc | apply pw_below_drewN | apply below_drew1) | exact HB.out)) hb); clear HB; have HB := n0_; clear n0_; (try clear hb); (try clear hb2); (try clear hk); (try clear hi)) | ((with_reducible refine gate_callee (f := 62) rfl ?_); refine goesL_ (some 18) rfl rfl Tryd.func62 (by kernel_rfl) rfl #[.int .i64 (l0.length : Int)] rfl (by (try simp only [List.map_toArray, List.map_cons, List.map_nil]); first | done | rfl | (simp only [List.length_drop, List.length_take]; rfl)) ?_; (with_reducible refine (barqueref01_Bytes.calls k (l0.length : Int) t532 _ A4.out).mono ?_); rintro e w6 ⟨rfl, hb⟩; refine ⟨_, rfl, ?_⟩; have n0_ := Aside0.mk (below_step (by repeat (first | (with_reducible first | exact HB.out | apply below_alloc | apply pw_below_drewN | apply below_drew1) | exact HB.out)) hb); clear HB; have HB := n0_; clear n0_; (try clear hb); (try clear hb2); (try clear hk); (try clear hi)))
    go_loopg [5, 6, 7] k (fun kq v5 v6 v7 w' => ∃ (x5_1 : ByteArray) (x6_1 : ByteArray) (x7_1 : Int), v5 = .string x5_1 ∧ v6 = .string x6_1 ∧ v7 = .int .i64 x7_1 ∧ Aside0 (barqueref09_Bytes.l0 kq l0 x5_1 x6_1 x7_1 = some (r1, r2)) ∧ Aside0 (kq ≤ k) ∧ Aside0 (Below w.heap.size w w'))
    case atStart => exact ⟨(t532), ((⟨#[]⟩ : ByteArray)), (0), (by first | rfl | (simp; done) | (simp [*]; done)), (by first | rfl | (simp; done) | (simp [*]; done)), (by first | rfl | (simp; done) | (simp [*]; done)), H', ⟨Nat.le_refl _⟩, ⟨by repeat (first | (with_reducible first | exact HB.out | apply below_alloc | apply pw_below_drewN | apply below_drew1) | exact HB.out)⟩⟩
    case round =>
      clear H'
      try clear p2
      try clear c3
      try clear c3b0
      try clear c3b1
      try clear c6
      obtain ⟨x5_1, x6_1, x7_1, rfl, rfl, rfl, HA, HK1, HB⟩ := hrel
      cases gk with
      | zero => exact absurd HA.out (by simp [barqueref09_Bytes.l0])
      | succ k1 =>
        have H := HA.out
        clear HA
        simp only [barqueref09_Bytes.l0] at H
        by_cases c7 : x7_1 < (l0.length : Int)
        · rw [if_pos c7] at H
          have c7b0 : decide (x7_1 < (l0.length : Int)) = true := decide_eq_true c7
          clear c7
          by_cases c8 : 0 ≤ x7_1
          · rw [if_pos c8] at H
            have c8b0 : decide (0 ≤ x7_1) = true := decide_eq_true c8
            clear c8
            replace H := Option.bind_eq_some_iff.mp H
            obtain ⟨t534, A90, H⟩ := H
            replace H : (if 0 ≤ t534 then (if t534 ≤ (((rd_T56 l0 x7_1).f0).size : Int) then ((barqueref01_Text.f k1 (((rd_T56 l0 x7_1).f0).extract (t534 : Int).toNat ((rd_T56 l0 x7_1).f0).size)).bind fun bt536 => ((barqueref01_Bytes.f k1 t534).bind fun t538 => (if x5_1.size + t538.size ≤ 9223372036854775807 then (if (x5_1 ++ t538).size + bt536.1.size ≤ 9223372036854775807 then ((barqueref01_Bytes.f k1 ((rd_T56 l0 x7_1).f1)).bind fun t540 => (if ((x5_1 ++ t538) ++ bt536.1).size + t540.size ≤ 9223372036854775807 then ((barqueref01_Bytes.f k1 ((rd_T56 l0 x7_1).f2)).bind fun t542 => (if (((x5_1 ++ t538) ++ bt536.1) ++ t540).size + t542.size ≤ 9223372036854775807 then (if ((((x5_1 ++ t538) ++ bt536.1) ++ t540) ++ t542).size + ((rd_T56 l0 x7_1).f3).size ≤ 9223372036854775807 then (barqueref09_Bytes.l0 k1 l0 (((((x5_1 ++ t538) ++ bt536.1) ++ t540) ++ t542) ++ ((rd_T56 l0 x7_1).f3)) ((rd_T56 l0 x7_1).f0) (wrap64 (x7_1 + 1))) else (none)) else (none))) else (none))) else (none)) else (none)))) else (none)) else (none)) = some (r1, r2) := H
            have A9 := Aside0.mk A90
            clear A90
            by_cases c10 : 0 ≤ t534
            · rw [if_pos c10] at H
              have c10b0 := eq_true c10
              have c10b1 : decide (0 ≤ t534) = true := decide_eq_true c10
              clear c10
              by_cases c11 : t534 ≤ (((rd_T56 l0 x7_1).f0).size : Int)
              · rw [if_pos c11] at H
                have c11b0 := eq_true c11
                have c11b1 : decide (t534 ≤ (((rd_T56 l0 x7_1).f0).size : Int)) = true := decide_eq_true c11
                clear c11
                replace H := Option.bind_eq_some_iff.mp H
                obtain ⟨⟨t536, t537⟩, A120, H⟩ := H
                replace H : ((barqueref01_Bytes.f k1 t534).bind fun t538 => (if x5_1.size + t538.size ≤ 9223372036854775807 then (if (x5_1 ++ t538).size + t536.size ≤ 9223372036854775807 then ((barqueref01_Bytes.f k1 ((rd_T56 l0 x7_1).f1)).bind fun t540 => (if ((x5_1 ++ t538) ++ t536).size + t540.size ≤ 9223372036854775807 then ((barqueref01_Bytes.f k1 ((rd_T56 l0 x7_1).f2)).bind fun t542 => (if (((x5_1 ++ t538) ++ t536) ++ t540).size + t542.size ≤ 9223372036854775807 then (if ((((x5_1 ++ t538) ++ t536) ++ t540) ++ t542).size + ((rd_T56 l0 x7_1).f3).size ≤ 9223372036854775807 then (barqueref09_Bytes.l0 k1 l0 (((((x5_1 ++ t538) ++ t536) ++ t540) ++ t542) ++ ((rd_T56 l0 x7_1).f3)) ((rd_T56 l0 x7_1).f0) (wrap64 (x7_1 + 1))) else (none)) else (none))) else (none))) else (none)) else (none))) = some (r1, r2) := H
                have A12 := Aside0.mk A120
                clear A120
                replace H := Option.bind_eq_some_iff.mp H
                obtain ⟨t538, A130, H⟩ := H
                replace H : (if x5_1.size + t538.size ≤ 9223372036854775807 then (if (x5_1 ++ t538).size + t536.size ≤ 9223372036854775807 then ((barqueref01_Bytes.f k1 ((rd_T56 l0 x7_1).f1)).bind fun t540 => (if ((x5_1 ++ t538) ++ t536).size + t540.size ≤ 9223372036854775807 then ((barqueref01_Bytes.f k1 ((rd_T56 l0 x7_1).f2)).bind fun t542 => (if (((x5_1 ++ t538) ++ t536) ++ t540).size + t542.size ≤ 9223372036854775807 then (if ((((x5_1 ++ t538) ++ t536) ++ t540) ++ t542).size + ((rd_T56 l0 x7_1).f3).size ≤ 9223372036854775807 then (barqueref09_Bytes.l0 k1 l0 (((((x5_1 ++ t538) ++ t536) ++ t540) ++ t542) ++ ((rd_T56 l0 x7_1).f3)) ((rd_T56 l0 x7_1).f0) (wrap64 (x7_1 + 1))) else (none)) else (none))) else (none))) else (none)) else (none)) = some (r1, r2) := H
                have A13 := Aside0.mk A130
                clear A130
                by_cases c14 : x5_1.size + t538.size ≤ 9223372036854775807
                · rw [if_pos c14] at H
                  have c14b0 := eq_true c14
                  have c14b1 : decide (x5_1.size + t538.size ≤ 9223372036854775807) = true := decide_eq_true c14
                  try have c14b2 : (9223372036854775807 < x5_1.size + t538.size) = False := eq_false (Nat.not_lt.2 c14)
                  (try (have c14b3 := c14b2; simp only [ByteArray.size_append] at c14b3))
                  by_cases c15 : (x5_1 ++ t538).size + t536.size ≤ 9223372036854775807
                  · rw [if_pos c15] at H
                    have c15b0 := eq_true c15
                    have c15b1 : decide ((x5_1 ++ t538).size + t536.size ≤ 9223372036854775807) = true := decide_eq_true c15
                    try have c15b2 : (9223372036854775807 < (x5_1 ++ t538).size + t536.size) = False := eq_false (Nat.not_lt.2 c15)
                    (try (have c15b3 := c15b2; simp only [ByteArray.size_append] at c15b3))
                    replace H := Option.bind_eq_some_iff.mp H
                    obtain ⟨t540, A160, H⟩ := H
                    replace H : (if ((x5_1 ++ t538) ++ t536).size + t540.size ≤ 9223372036854775807 then ((barqueref01_Bytes.f k1 ((rd_T56 l0 x7_1).f2)).bind fun t542 => (if (((x5_1 ++ t538) ++ t536) ++ t540).size + t542.size ≤ 9223372036854775807 then (if ((((x5_1 ++ t538) ++ t536) ++ t540) ++ t542).size + ((rd_T56 l0 x7_1).f3).size ≤ 9223372036854775807 then (barqueref09_Bytes.l0 k1 l0 (((((x5_1 ++ t538) ++ t536) ++ t540) ++ t542) ++ ((rd_T56 l0 x7_1).f3)) ((rd_T56 l0 x7_1).f0) (wrap64 (x7_1 + 1))) else (none)) else (none))) else (none)) = some (r1, r2) := H
                    have A16 := Aside0.mk A160
                    clear A160
                    by_cases c17 : ((x5_1 ++ t538) ++ t536).size + t540.size ≤ 9223372036854775807
                    · rw [if_pos c17] at H
                      have c17b0 := eq_true c17
                      have c17b1 : decide (((x5_1 ++ t538) ++ t536).size + t540.size ≤ 9223372036854775807) = true := decide_eq_true c17
                      try have c17b2 : (9223372036854775807 < ((x5_1 ++ t538) ++ t536).size + t540.size) = False := eq_false (Nat.not_lt.2 c17)
                      (try (have c17b3 := c17b2; simp only [ByteArray.size_append] at c17b3))
                      replace H := Option.bind_eq_some_iff.mp H
                      obtain ⟨t542, A180, H⟩ := H
                      replace H : (if (((x5_1 ++ t538) ++ t536) ++ t540).size + t542.size ≤ 9223372036854775807 then (if ((((x5_1 ++ t538) ++ t536) ++ t540) ++ t542).size + ((rd_T56 l0 x7_1).f3).size ≤ 9223372036854775807 then (barqueref09_Bytes.l0 k1 l0 (((((x5_1 ++ t538) ++ t536) ++ t540) ++ t542) ++ ((rd_T56 l0 x7_1).f3)) ((rd_T56 l0 x7_1).f0) (wrap64 (x7_1 + 1))) else (none)) else (none)) = some (r1, r2) := H
                      have A18 := Aside0.mk A180
                      clear A180
                      by_cases c19 : (((x5_1 ++ t538) ++ t536) ++ t540).size + t542.size ≤ 9223372036854775807
                      · rw [if_pos c19] at H
                        have c19b0 := eq_true c19
                        have c19b1 : decide ((((x5_1 ++ t538) ++ t536) ++ t540).size + t542.size ≤ 9223372036854775807) = true := decide_eq_true c19
                        try have c19b2 : (9223372036854775807 < (((x5_1 ++ t538) ++ t536) ++ t540).size + t542.size) = False := eq_false (Nat.not_lt.2 c19)
                        (try (have c19b3 := c19b2; simp only [ByteArray.size_append] at c19b3))
                        by_cases c20 : ((((x5_1 ++ t538) ++ t536) ++ t540) ++ t542).size + ((rd_T56 l0 x7_1).f3).size ≤ 9223372036854775807
                        · rw [if_pos c20] at H
                          have c20b0 := eq_true c20
                          have c20b1 : decide (((((x5_1 ++ t538) ++ t536) ++ t540) ++ t542).size + ((rd_T56 l0 x7_1).f3).size ≤ 9223372036854775807) = true := decide_eq_true c20
                          try have c20b2 : (9223372036854775807 < ((((x5_1 ++ t538) ++ t536) ++ t540) ++ t542).size + ((rd_T56 l0 x7_1).f3).size) = False := eq_false (Nat.not_lt.2 c20)
                          (try (have c20b3 := c20b2; simp only [ByteArray.size_append] at c20b3))
                          have H' := Aside0.mk H
                          clear H
                          have p533 : 0 ≤ (x7_1 : Int) := of_decide_eq_true (by first | (with_reducible assumption) | assumption)
                          have q533 : x7_1 < (l0.length : Int) := of_decide_eq_true (by first | (with_reducible assumption) | assumption)
                          obtain ⟨ad533, e533, hx533_0, hx533_1, hx533_2, hx533_3⟩ := at_T56 HR0.out x7_1 p533 q533
                          cases e533
                          replace hx533_0 := (HB.out.cell (World.block_lt_of_cell? w _ hx533_0)).trans hx533_0
                          replace hx533_1 := (HB.out.cell (World.block_lt_of_cell? w _ hx533_1)).trans hx533_1
                          replace hx533_2 := (HB.out.cell (World.block_lt_of_cell? w _ hx533_2)).trans hx533_2
                          replace hx533_3 := (HB.out.cell (World.block_lt_of_cell? w _ hx533_3)).trans hx533_3
                          replace p533 := eq_true p533
                          replace q533 := eq_true q533
                          try go_wp2_with (first | ((with_reducible refine gate_callee (f := 63) rfl ?_); refine goesL_ (some 31) rfl rfl Tryd.func63 (by kernel_rfl) rfl #[.string x6_1, .string ((rd_T56 l0 x7_1).f0)] rfl (by (try simp only [List.map_toArray, List.map_cons, List.map_nil]); first | done | rfl | (simp only [List.length_drop, List.length_take]; rfl)) ?_; (with_reducible refine (barqueref09_shared.calls k1 x6_1 ((rd_T56 l0 x7_1).f0) t534 _ A9.out).mono ?_); rintro e w' ⟨rfl, ⟨nd, rfl⟩⟩; refine ⟨_, rfl, ?_⟩; have p535 : 0 ≤ (x7_1 : Int) := of_decide_eq_true (by first | (with_reducible assumption) | assumption); have q535 : x7_1 < (l0.length : Int) := of_decide_eq_true (by first | (with_reducible assumption) | assumption); obtain ⟨ad535, e535, hx535_0, hx535_1, hx535_2, hx535_3⟩ := at_T56 HR0.out x7_1 p535 q535; obtain rfl : ad533 = ad535 := (by injection e535); replace hx535_0 := (HB.out.cell (World.block_lt_of_cell? w _ hx535_0)).trans hx535_0; replace hx535_1 := (HB.out.cell (World.block_lt_of_cell? w _ hx535_1)).trans hx535_1; replace hx535_2 := (HB.out.cell (World.block_lt_of_cell? w _ hx535_2)).trans hx535_2; replace hx535_3 := (HB.out.cell (World.block_lt_of_cell? w _ hx535_3)).trans hx535_3; replace p535 := eq_true p535; replace q535 := eq_true q535) | ((with_reducible refine gate_callee (f := 64) rfl ?_); refine goesL_ (some 40) rfl rfl Tryd.func64 (by kernel_rfl) rfl #[.string (((rd_T56 l0 x7_1).f0).extract (t534 : Int).toNat ((rd_T56 l0 x7_1).f0).size)] rfl (by (try simp only [List.map_toArray, List.map_cons, List.map_nil]); first | done | rfl | (simp only [List.length_drop, List.length_take]; rfl)) ?_; (with_reducible refine (barqueref01_Text.calls k1 (((rd_T56 l0 x7_1).f0).extract (t534 : Int).toNat ((rd_T56 l0 x7_1).f0).size) t536 t537 _ A12.out).mono ?_); rintro e w21 ⟨rfl, hb⟩; refine ⟨_, rfl, ?_⟩; have n0_ := Aside0.mk (below_step (by repeat (first | (with_reducible first | exact HB.out | apply below_alloc | apply pw_below_drewN | apply below_drew1) | exact HB.out)) hb); clear HB; have HB := n0_; clear n0_; (try clear hb); (try clear hb2); (try clear hk); (try clear hi)))
                          have n0_ := Aside0.mk (below_drew1 HB.out)
                          clear HB
                          have HB := n0_
                          clear n0_
                          have p539 : 0 ≤ (x7_1 : Int) := of_decide_eq_true (by first | (with_reducible assumption) | assumption)
                          have q539 : x7_1 < (l0.length : Int) := of_decide_eq_true (by first | (with_reducible assumption) | assumption)
                          obtain ⟨ad539, e539, hx539_0, hx539_1, hx539_2, hx539_3⟩ := at_T56 HR0.out x7_1 p539 q539
                          have hw539_3 := hx539_3
                          have hw539_2 := hx539_2
                          have hw539_1 := hx539_1
                          have hw539_0 := hx539_0
                          obtain rfl : ad533 = ad539 := (by injection e539)
                          replace hx539_0 := (HB.out.cell (World.block_lt_of_cell? w _ hx539_0)).trans hx539_0
                          replace hx539_1 := (HB.out.cell (World.block_lt_of_cell? w _ hx539_1)).trans hx539_1
                          replace hx539_2 := (HB.out.cell (World.block_lt_of_cell? w _ hx539_2)).trans hx539_2
                          replace hx539_3 := (HB.out.cell (World.block_lt_of_cell? w _ hx539_3)).trans hx539_3
                          replace p539 := eq_true p539
                          replace q539 := eq_true q539
                          have p541 : 0 ≤ (x7_1 : Int) := of_decide_eq_true (by first | (with_reducible assumption) | assumption)
                          have q541 : x7_1 < (l0.length : Int) := of_decide_eq_true (by first | (with_reducible assumption) | assumption)
                          obtain ⟨ad541, e541, hx541_0, hx541_1, hx541_2, hx541_3⟩ := at_T56 HR0.out x7_1 p541 q541
                          have hw541_3 := hx541_3
                          have hw541_2 := hx541_2
                          have hw541_1 := hx541_1
                          have hw541_0 := hx541_0
                          obtain rfl : ad533 = ad541 := (by injection e541)
                          replace hx541_0 := (HB.out.cell (World.block_lt_of_cell? w _ hx541_0)).trans hx541_0
                          replace hx541_1 := (HB.out.cell (World.block_lt_of_cell? w _ hx541_1)).trans hx541_1
                          replace hx541_2 := (HB.out.cell (World.block_lt_of_cell? w _ hx541_2)).trans hx541_2
                          replace hx541_3 := (HB.out.cell (World.block_lt_of_cell? w _ hx541_3)).trans hx541_3
                          replace p541 := eq_true p541
                          replace q541 := eq_true q541
                          have p543 : 0 ≤ (x7_1 : Int) := of_decide_eq_true (by first | (with_reducible assumption) | assumption)
                          have q543 : x7_1 < (l0.length : Int) := of_decide_eq_true (by first | (with_reducible assumption) | assumption)
                          obtain ⟨ad543, e543, hx543_0, hx543_1, hx543_2, hx543_3⟩ := at_T56 HR0.out x7_1 p543 q543
                          have hw543_3 := hx543_3
                          have hw543_2 := hx543_2
                          have hw543_1 := hx543_1
                          have hw543_0 := hx543_0
                          obtain rfl : ad533 = ad543 := (by injection e543)
                          replace hx543_0 := (HB.out.cell (World.block_lt_of_cell? w _ hx543_0)).trans hx543_0
                          replace hx543_1 := (HB.out.cell (World.block_lt_of_cell? w _ hx543_1)).trans hx543_1
                          replace hx543_2 := (HB.out.cell (World.block_lt_of_cell? w _ hx543_2)).trans hx543_2
                          replace hx543_3 := (HB.out.cell (World.block_lt_of_cell? w _ hx543_3)).trans hx543_3
                          replace p543 := eq_true p543
                          replace q543 := eq_true q543
                          refine start_ (n := 27) (S := fun w' => w'.cell? (ad533.add ((x7_1).toNat * 4)) = some (.string ((rd_T56 l0 x7_1).f0)) ∧ w'.cell? ⟨(ad533.add ((x7_1).toNat * 4)).block, (ad533.add ((x7_1).toNat * 4)).off + 1, none⟩ = some (.int .i64 ((rd_T56 l0 x7_1).f1)) ∧ w'.cell? ⟨(ad533.add ((x7_1).toNat * 4)).block, (ad533.add ((x7_1).toNat * 4)).off + 2, none⟩ = some (.int .i64 ((rd_T56 l0 x7_1).f2)) ∧ w'.cell? ⟨(ad533.add ((x7_1).toNat * 4)).block, (ad533.add ((x7_1).toNat * 4)).off + 3, none⟩ = some (.string ((rd_T56 l0 x7_1).f3)) ∧ w'.cell? (ad533.add ((x7_1).toNat * 4)) = some (.string ((rd_T56 l0 x7_1).f0)) ∧ w'.cell? ⟨(ad533.add ((x7_1).toNat * 4)).block, (ad533.add ((x7_1).toNat * 4)).off + 1, none⟩ = some (.int .i64 ((rd_T56 l0 x7_1).f1)) ∧ w'.cell? ⟨(ad533.add ((x7_1).toNat * 4)).block, (ad533.add ((x7_1).toNat * 4)).off + 2, none⟩ = some (.int .i64 ((rd_T56 l0 x7_1).f2)) ∧ w'.cell? ⟨(ad533.add ((x7_1).toNat * 4)).block, (ad533.add ((x7_1).toNat * 4)).off + 3, none⟩ = some (.string ((rd_T56 l0 x7_1).f3)) ∧ w'.cell? (ad533.add ((x7_1).toNat * 4)) = some (.string ((rd_T56 l0 x7_1).f0)) ∧ w'.cell? ⟨(ad533.add ((x7_1).toNat * 4)).block, (ad533.add ((x7_1).toNat * 4)).off + 1, none⟩ = some (.int .i64 ((rd_T56 l0 x7_1).f1)) ∧ w'.cell? ⟨(ad533.add ((x7_1).toNat * 4)).block, (ad533.add ((x7_1).toNat * 4)).off + 2, none⟩ = some (.int .i64 ((rd_T56 l0 x7_1).f2)) ∧ w'.cell? ⟨(ad533.add ((x7_1).toNat * 4)).block, (ad533.add ((x7_1).toNat * 4)).off + 3, none⟩ = some (.string ((rd_T56 l0 x7_1).f3))) (ds := []) #[false, false, false, false, false, false, false, false, false, false, false, false, false, false, false, false, false, false, false, false, false, false, false, false, false, false, false] (by kernel_rfl) rfl rfl ⟨((HB.out.cell (World.block_lt_of_cell? w _ hw539_0)).trans hw539_0), ((HB.out.cell (World.block_lt_of_cell? w _ hw539_1)).trans hw539_1), ((HB.out.cell (World.block_lt_of_cell? w _ hw539_2)).trans hw539_2), ((HB.out.cell (World.block_lt_of_cell? w _ hw539_3)).trans hw539_3), ((HB.out.cell (World.block_lt_of_cell? w _ hw541_0)).trans hw541_0), ((HB.out.cell (World.block_lt_of_cell? w _ hw541_1)).trans hw541_1), ((HB.out.cell (World.block_lt_of_cell? w _ hw541_2)).trans hw541_2), ((HB.out.cell (World.block_lt_of_cell? w _ hw541_3)).trans hw541_3), ((HB.out.cell (World.block_lt_of_cell? w _ hw543_0)).trans hw543_0), ((HB.out.cell (World.block_lt_of_cell? w _ hw543_1)).trans hw543_1), ((HB.out.cell (World.block_lt_of_cell? w _ hw543_2)).trans hw543_2), ((HB.out.cell (World.block_lt_of_cell? w _ hw543_3)).trans hw543_3)⟩ (fun hHeld => ?_); refine with_tabW barqueref09_Bytes.tab11 barqueref09_Bytes.bits11 (fun HT_ HW_ => ?_)
                          generalize w21.drew = w22 at HB hx539_0 hx539_1 hx539_2 hx539_3 hx541_0 hx541_1 hx541_2 hx541_3 hx543_0 hx543_1 hx543_2 hx543_3 hHeld ⊢
                          refine pure_ (i := 0) (N := some 43) (v := ?_) (a' := ?_) #[true, false, false, false, false, false, false, false, false, false, false, false, false, false, false, false, false, false, false, false, false, false, false, false, false, false, false] rfl rfl (any_of HT_.out (by kernel_rfl)) (fun _ _ _ h => h) (Or.inl ⟨by rfl, ?_⟩) ?_ ?_
                          rotate_left
                          · intro w'
                            go_simp
                            with_reducible rfl
                          rotate_left
                          · simp only [Act.put, List.setIfInBounds_toArray, List.set_cons_zero, List.set_cons_succ, i64_w, i32_w]
                            rfl
                          refine pure_ (i := 1) (N := some 44) (v := ?_) (a' := ?_) #[true, true, false, false, false, false, false, false, false, false, false, false, false, false, false, false, false, false, false, false, false, false, false, false, false, false, false] rfl rfl (any_of HT_.out (by kernel_rfl)) (fun _ _ _ h => h) (Or.inl ⟨by rfl, ?_⟩) ?_ ?_
                          rotate_left
                          · intro w'
                            go_simp
                            with_reducible rfl
                          rotate_left
                          · simp only [Act.put, List.setIfInBounds_toArray, List.set_cons_zero, List.set_cons_succ, i64_w, i32_w]
                            rfl
                          refine pure_ (i := 4) (N := some 47) (v := ?_) (a' := ?_) #[true, true, false, false, true, false, false, false, false, false, false, false, false, false, false, false, false, false, false, false, false, false, false, false, false, false, false] rfl rfl (any_of HT_.out (by kernel_rfl)) (fun _ _ _ h => h) (Or.inl ⟨by rfl, ?_⟩) ?_ ?_
                          rotate_left
                          · intro w'
                            go_simp
                            with_reducible rfl
                          rotate_left
                          · simp only [Act.put, List.setIfInBounds_toArray, List.set_cons_zero, List.set_cons_succ, i64_w, i32_w]
                            rfl
                          refine pure_ (i := 6) (N := some 49) (v := ?_) (a' := ?_) #[true, true, false, false, true, false, true, false, false, false, false, false, false, false, false, false, false, false, false, false, false, false, false, false, false, false, false] rfl rfl (any_of HT_.out (by kernel_rfl)) (fun _ _ _ h => h) (Or.inl ⟨by rfl, ?_⟩) ?_ ?_
                          rotate_left
                          · intro w'
                            go_simp
                            with_reducible rfl
                          rotate_left
                          · simp only [Act.put, List.setIfInBounds_toArray, List.set_cons_zero, List.set_cons_succ, i64_w, i32_w]
                            rfl
                          refine pure_ (i := 7) (N := some 50) (v := ?_) (a' := ?_) #[true, true, false, false, true, false, true, true, false, false, false, false, false, false, false, false, false, false, false, false, false, false, false, false, false, false, false] rfl rfl (any_of HT_.out (by kernel_rfl)) (fun _ _ _ h => h) (Or.inl ⟨by rfl, ?_⟩) ?_ ?_
                          rotate_left
                          · intro w'
                            go_simp
                            with_reducible rfl
                          rotate_left
                          · simp only [Act.put, List.setIfInBounds_toArray, List.set_cons_zero, List.set_cons_succ, i64_w, i32_w]
                            rfl
                          refine pure_ (i := 8) (N := some 51) (v := ?_) (a' := ?_) #[true, true, false, false, true, false, true, true, true, false, false, false, false, false, false, false, false, false, false, false, false, false, false, false, false, false, false] rfl rfl (any_of HT_.out (by kernel_rfl)) (fun _ _ _ h => h) (Or.inl ⟨by rfl, ?_⟩) ?_ ?_
                          rotate_left
                          · intro w'
                            go_simp
                            with_reducible rfl
                          rotate_left
                          · simp only [Act.put, List.setIfInBounds_toArray, List.set_cons_zero, List.set_cons_succ, i64_w, i32_w]
                            rfl
                          refine pure_ (i := 9) (N := some 52) (v := ?_) (a' := ?_) #[true, true, false, false, true, false, true, true, true, true, false, false, false, false, false, false, false, false, false, false, false, false, false, false, false, false, false] rfl rfl (any_of HT_.out (by kernel_rfl)) (fun _ _ _ h => h) (Or.inl ⟨by rfl, ?_⟩) ?_ ?_
                          rotate_left
                          · intro w'
                            go_simp
                            with_reducible rfl
                          rotate_left
                          · simp only [Act.put, List.setIfInBounds_toArray, List.set_cons_zero, List.set_cons_succ, i64_w, i32_w]
                            rfl
                          refine pure_ (i := 13) (N := some 56) (v := ?_) (a' := ?_) #[true, true, false, false, true, false, true, true, true, true, false, false, false, true, false, false, false, false, false, false, false, false, false, false, false, false, false] rfl rfl (any_of HT_.out (by kernel_rfl)) (fun _ _ _ h => h) (Or.inl ⟨by rfl, ?_⟩) ?_ ?_
                          rotate_left
                          · intro w'
                            go_simp
                            with_reducible rfl
                          rotate_left
                          · simp only [Act.put, List.setIfInBounds_toArray, List.set_cons_zero, List.set_cons_succ, i64_w, i32_w]
                            rfl
                          refine pure_ (i := 14) (N := some 57) (v := ?_) (a' := ?_) #[true, true, false, false, true, false, true, true, true, true, false, false, false, true, true, false, false, false, false, false, false, false, false, false, false, false, false] rfl rfl (any_of HT_.out (by kernel_rfl)) (fun _ _ _ h => h) (Or.inl ⟨by rfl, ?_⟩) ?_ ?_
                          rotate_left
                          · intro w'
                            go_simp
                            with_reducible rfl
                          rotate_left
                          · simp only [Act.put, List.setIfInBounds_toArray, List.set_cons_zero, List.set_cons_succ, i64_w, i32_w]
                            rfl
                          refine pure_ (i := 15) (N := some 58) (v := ?_) (a' := ?_) #[true, true, false, false, true, false, true, true, true, true, false, false, false, true, true, true, false, false, false, false, false, false, false, false, false, false, false] rfl rfl (any_of HT_.out (by kernel_rfl)) (fun _ _ _ h => h) (Or.inl ⟨by rfl, ?_⟩) ?_ ?_
                          rotate_left
                          · intro w'
                            go_simp
                            with_reducible rfl
                          rotate_left
                          · simp only [Act.put, List.setIfInBounds_toArray, List.set_cons_zero, List.set_cons_succ, i64_w, i32_w]
                            rfl
                          refine pure_ (i := 16) (N := some 59) (v := ?_) (a' := ?_) #[true, true, false, false, true, false, true, true, true, true, false, false, false, true, true, true, true, false, false, false, false, false, false, false, false, false, false] rfl rfl (any_of HT_.out (by kernel_rfl)) (fun _ _ _ h => h) (Or.inl ⟨by rfl, ?_⟩) ?_ ?_
                          rotate_left
                          · intro w'
                            go_simp
                            with_reducible rfl
                          rotate_left
                          · simp only [Act.put, List.setIfInBounds_toArray, List.set_cons_zero, List.set_cons_succ, i64_w, i32_w]
                            rfl
                          refine pure_ (i := 20) (N := some 63) (v := ?_) (a' := ?_) #[true, true, false, false, true, false, true, true, true, true, false, false, false, true, true, true, true, false, false, false, true, false, false, false, false, false, false] rfl rfl (any_of HT_.out (by kernel_rfl)) (fun _ _ _ h => h) (Or.inl ⟨by rfl, ?_⟩) ?_ ?_
                          rotate_left
                          · intro w'
                            go_simp
                            with_reducible rfl
                          rotate_left
                          · simp only [Act.put, List.setIfInBounds_toArray, List.set_cons_zero, List.set_cons_succ, i64_w, i32_w]
                            rfl
                          refine pure_ (i := 21) (N := some 64) (v := ?_) (a' := ?_) #[true, true, false, false, true, false, true, true, true, true, false, false, false, true, true, true, true, false, false, false, true, true, false, false, false, false, false] rfl rfl (any_of HT_.out (by kernel_rfl)) (fun _ _ _ h => h) (Or.inl ⟨by rfl, ?_⟩) ?_ ?_
                          rotate_left
                          · intro w'
                            go_simp
                            with_reducible rfl
                          rotate_left
                          · simp only [Act.put, List.setIfInBounds_toArray, List.set_cons_zero, List.set_cons_succ, i64_w, i32_w]
                            rfl
                          refine pure_ (i := 22) (N := some 65) (v := ?_) (a' := ?_) #[true, true, false, false, true, false, true, true, true, true, false, false, false, true, true, true, true, false, false, false, true, true, true, false, false, false, false] rfl rfl (any_of HT_.out (by kernel_rfl)) (fun _ _ _ h => h) (Or.inl ⟨by rfl, ?_⟩) ?_ ?_
                          rotate_left
                          · intro w'
                            go_simp
                            with_reducible rfl
                          rotate_left
                          · simp only [Act.put, List.setIfInBounds_toArray, List.set_cons_zero, List.set_cons_succ, i64_w, i32_w]
                            rfl
                          refine pure_ (i := 23) (N := some 66) (v := ?_) (a' := ?_) #[true, true, false, false, true, false, true, true, true, true, false, false, false, true, true, true, true, false, false, false, true, true, true, true, false, false, false] rfl rfl (any_of HT_.out (by kernel_rfl)) (fun _ _ _ h => h) (Or.inl ⟨by rfl, ?_⟩) ?_ ?_
                          rotate_left
                          · intro w'
                            go_simp
                            with_reducible rfl
                          rotate_left
                          · simp only [Act.put, List.setIfInBounds_toArray, List.set_cons_zero, List.set_cons_succ, i64_w, i32_w]
                            rfl
                          refine take_ (i := 10) (N := some 53) (v := ?_) (a' := ?_) #[true, true, false, false, true, false, true, true, true, true, true, false, false, true, true, true, true, false, false, false, true, true, true, true, false, false, false] rfl rfl (take_ofW HT_.out HW_.out (by kernel_rfl)) (fun _ _ _ h => h) (Or.inl ⟨by rfl, ?_⟩) hHeld ?_ ?_
                          rotate_left
                          · rintro w' ⟨s0, s1, s2, s3, s4, s5, s6, s7, s8, s9, s10, s11⟩
                            go_simp
                            with_reducible rfl
                          rotate_left
                          · simp only [Act.put, List.setIfInBounds_toArray, List.set_cons_zero, List.set_cons_succ, i64_w, i32_w]
                            rfl
                          refine take_ (i := 17) (N := some 60) (v := ?_) (a' := ?_) #[true, true, false, false, true, false, true, true, true, true, true, false, false, true, true, true, true, true, false, false, true, true, true, true, false, false, false] rfl rfl (take_ofW HT_.out HW_.out (by kernel_rfl)) (fun _ _ _ h => h) (Or.inl ⟨by rfl, ?_⟩) hHeld ?_ ?_
                          rotate_left
                          · rintro w' ⟨s0, s1, s2, s3, s4, s5, s6, s7, s8, s9, s10, s11⟩
                            go_simp
                            with_reducible rfl
                          rotate_left
                          · simp only [Act.put, List.setIfInBounds_toArray, List.set_cons_zero, List.set_cons_succ, i64_w, i32_w]
                            rfl
                          refine take_ (i := 24) (N := some 67) (v := ?_) (a' := ?_) #[true, true, false, false, true, false, true, true, true, true, true, false, false, true, true, true, true, true, false, false, true, true, true, true, true, false, false] rfl rfl (take_ofW HT_.out HW_.out (by kernel_rfl)) (fun _ _ _ h => h) (Or.inl ⟨by rfl, ?_⟩) hHeld ?_ ?_
                          rotate_left
                          · rintro w' ⟨s0, s1, s2, s3, s4, s5, s6, s7, s8, s9, s10, s11⟩
                            go_simp
                            with_reducible rfl
                          rotate_left
                          · simp only [Act.put, List.setIfInBounds_toArray, List.set_cons_zero, List.set_cons_succ, i64_w, i32_w]
                            rfl
                          refine one_ (i := 2) (N := some 45) #[true, true, true, false, true, false, true, true, true, true, true, false, false, true, true, true, true, true, false, false, true, true, true, true, true, false, false] rfl rfl (one_of HT_.out (by kernel_rfl)) (by decide) (fun K hK => ?_)
                          refine goes_ Tryd.func62 (by kernel_rfl) rfl #[.int .i64 t534] (by rfl) rfl rfl (by (try simp only [List.map_toArray, List.map_cons, List.map_nil]); first | done | rfl | (simp only [List.length_drop, List.length_take]; rfl)) ?_
                          with_reducible refine (barqueref01_Bytes.calls k1 t534 t538 _ A13.out).mono ?_
                          rintro e w23 ⟨rfl, hb⟩
                          refine ⟨_, rfl, ?_⟩
                          have n0_ := Aside0.mk (below_step (by repeat (first | (with_reducible first | exact HB.out | apply below_alloc | apply pw_below_drewN | apply below_drew1) | exact HB.out)) hb)
                          clear HB
                          have HB := n0_
                          clear n0_
                          (try clear hb)
                          (try clear hb2)
                          (try clear hk)
                          (try clear hi)
                          refine hK.out _ _ ⟨((HB.out.cell (World.block_lt_of_cell? w _ hw539_0)).trans hw539_0), ((HB.out.cell (World.block_lt_of_cell? w _ hw539_1)).trans hw539_1), ((HB.out.cell (World.block_lt_of_cell? w _ hw539_2)).trans hw539_2), ((HB.out.cell (World.block_lt_of_cell? w _ hw539_3)).trans hw539_3), ((HB.out.cell (World.block_lt_of_cell? w _ hw541_0)).trans hw541_0), ((HB.out.cell (World.block_lt_of_cell? w _ hw541_1)).trans hw541_1), ((HB.out.cell (World.block_lt_of_cell? w _ hw541_2)).trans hw541_2), ((HB.out.cell (World.block_lt_of_cell? w _ hw541_3)).trans hw541_3), ((HB.out.cell (World.block_lt_of_cell? w _ hw543_0)).trans hw543_0), ((HB.out.cell (World.block_lt_of_cell? w _ hw543_1)).trans hw543_1), ((HB.out.cell (World.block_lt_of_cell? w _ hw543_2)).trans hw543_2), ((HB.out.cell (World.block_lt_of_cell? w _ hw543_3)).trans hw543_3)⟩ (fun hHeld => ?_)
                          clear hK K
                          refine norm_ (a' := ?_) ?_ ?_
                          rotate_left
                          · show Act.put _ (some 45) _ = _
                            simp only [Act.put, List.setIfInBounds_toArray, List.set_cons_zero, List.set_cons_succ, i64_w, i32_w]
                            rfl
                          refine pure_ (i := 3) (N := some 46) (v := ?_) (a' := ?_) #[true, true, true, true, true, false, true, true, true, true, true, false, false, true, true, true, true, true, false, false, true, true, true, true, true, false, false] rfl rfl (any_of HT_.out (by kernel_rfl)) (fun _ _ _ h => h) (Or.inl ⟨by rfl, ?_⟩) ?_ ?_
                          rotate_left
                          · intro w'
                            go_simp
                            with_reducible rfl
                          rotate_left
                          · simp only [Act.put, List.setIfInBounds_toArray, List.set_cons_zero, List.set_cons_succ, i64_w, i32_w]
                            rfl
                          refine pure_ (i := 5) (N := some 48) (v := ?_) (a' := ?_) #[true, true, true, true, true, true, true, true, true, true, true, false, false, true, true, true, true, true, false, false, true, true, true, true, true, false, false] rfl rfl (any_of HT_.out (by kernel_rfl)) (fun _ _ _ h => h) (Or.inl ⟨by rfl, ?_⟩) ?_ ?_
                          rotate_left
                          · intro w'
                            go_simp
                            with_reducible rfl
                          rotate_left
                          · simp only [Act.put, List.setIfInBounds_toArray, List.set_cons_zero, List.set_cons_succ, i64_w, i32_w]
                            rfl
                          refine one_ (i := 11) (N := some 54) #[true, true, true, true, true, true, true, true, true, true, true, true, false, true, true, true, true, true, false, false, true, true, true, true, true, false, false] rfl rfl (one_of HT_.out (by kernel_rfl)) (by decide) (fun K hK => ?_)
                          refine goes_ Tryd.func62 (by kernel_rfl) rfl #[.int .i64 ((rd_T56 l0 x7_1).f1)] (by rfl) rfl rfl (by (try simp only [List.map_toArray, List.map_cons, List.map_nil]); first | done | rfl | (simp only [List.length_drop, List.length_take]; rfl)) ?_
                          with_reducible refine (barqueref01_Bytes.calls k1 ((rd_T56 l0 x7_1).f1) t540 _ A16.out).mono ?_
                          rintro e w24 ⟨rfl, hb⟩
                          refine ⟨_, rfl, ?_⟩
                          have n0_ := Aside0.mk (below_step (by repeat (first | (with_reducible first | exact HB.out | apply below_alloc | apply pw_below_drewN | apply below_drew1) | exact HB.out)) hb)
                          clear HB
                          have HB := n0_
                          clear n0_
                          (try clear hb)
                          (try clear hb2)
                          (try clear hk)
                          (try clear hi)
                          refine hK.out _ _ ⟨((HB.out.cell (World.block_lt_of_cell? w _ hw539_0)).trans hw539_0), ((HB.out.cell (World.block_lt_of_cell? w _ hw539_1)).trans hw539_1), ((HB.out.cell (World.block_lt_of_cell? w _ hw539_2)).trans hw539_2), ((HB.out.cell (World.block_lt_of_cell? w _ hw539_3)).trans hw539_3), ((HB.out.cell (World.block_lt_of_cell? w _ hw541_0)).trans hw541_0), ((HB.out.cell (World.block_lt_of_cell? w _ hw541_1)).trans hw541_1), ((HB.out.cell (World.block_lt_of_cell? w _ hw541_2)).trans hw541_2), ((HB.out.cell (World.block_lt_of_cell? w _ hw541_3)).trans hw541_3), ((HB.out.cell (World.block_lt_of_cell? w _ hw543_0)).trans hw543_0), ((HB.out.cell (World.block_lt_of_cell? w _ hw543_1)).trans hw543_1), ((HB.out.cell (World.block_lt_of_cell? w _ hw543_2)).trans hw543_2), ((HB.out.cell (World.block_lt_of_cell? w _ hw543_3)).trans hw543_3)⟩ (fun hHeld => ?_)
                          clear hK K
                          refine norm_ (a' := ?_) ?_ ?_
                          rotate_left
                          · show Act.put _ (some 54) _ = _
                            simp only [Act.put, List.setIfInBounds_toArray, List.set_cons_zero, List.set_cons_succ, i64_w, i32_w]
                            rfl
                          refine pure_ (i := 12) (N := some 55) (v := ?_) (a' := ?_) #[true, true, true, true, true, true, true, true, true, true, true, true, true, true, true, true, true, true, false, false, true, true, true, true, true, false, false] rfl rfl (any_of HT_.out (by kernel_rfl)) (fun _ _ _ h => h) (Or.inl ⟨by rfl, ?_⟩) ?_ ?_
                          rotate_left
                          · intro w'
                            go_simp
                            with_reducible rfl
                          rotate_left
                          · simp only [Act.put, List.setIfInBounds_toArray, List.set_cons_zero, List.set_cons_succ, i64_w, i32_w]
                            rfl
                          refine one_ (i := 18) (N := some 61) #[true, true, true, true, true, true, true, true, true, true, true, true, true, true, true, true, true, true, true, false, true, true, true, true, true, false, false] rfl rfl (one_of HT_.out (by kernel_rfl)) (by decide) (fun K hK => ?_)
                          refine goes_ Tryd.func62 (by kernel_rfl) rfl #[.int .i64 ((rd_T56 l0 x7_1).f2)] (by rfl) rfl rfl (by (try simp only [List.map_toArray, List.map_cons, List.map_nil]); first | done | rfl | (simp only [List.length_drop, List.length_take]; rfl)) ?_
                          with_reducible refine (barqueref01_Bytes.calls k1 ((rd_T56 l0 x7_1).f2) t542 _ A18.out).mono ?_
                          rintro e w25 ⟨rfl, hb⟩
                          refine ⟨_, rfl, ?_⟩
                          have n0_ := Aside0.mk (below_step (by repeat (first | (with_reducible first | exact HB.out | apply below_alloc | apply pw_below_drewN | apply below_drew1) | exact HB.out)) hb)
                          clear HB
                          have HB := n0_
                          clear n0_
                          (try clear hb)
                          (try clear hb2)
                          (try clear hk)
                          (try clear hi)
                          refine hK.out _ _ ⟨((HB.out.cell (World.block_lt_of_cell? w _ hw539_0)).trans hw539_0), ((HB.out.cell (World.block_lt_of_cell? w _ hw539_1)).trans hw539_1), ((HB.out.cell (World.block_lt_of_cell? w _ hw539_2)).trans hw539_2), ((HB.out.cell (World.block_lt_of_cell? w _ hw539_3)).trans hw539_3), ((HB.out.cell (World.block_lt_of_cell? w _ hw541_0)).trans hw541_0), ((HB.out.cell (World.block_lt_of_cell? w _ hw541_1)).trans hw541_1), ((HB.out.cell (World.block_lt_of_cell? w _ hw541_2)).trans hw541_2), ((HB.out.cell (World.block_lt_of_cell? w _ hw541_3)).trans hw541_3), ((HB.out.cell (World.block_lt_of_cell? w _ hw543_0)).trans hw543_0), ((HB.out.cell (World.block_lt_of_cell? w _ hw543_1)).trans hw543_1), ((HB.out.cell (World.block_lt_of_cell? w _ hw543_2)).trans hw543_2), ((HB.out.cell (World.block_lt_of_cell? w _ hw543_3)).trans hw543_3)⟩ (fun hHeld => ?_)
                          clear hK K
                          refine norm_ (a' := ?_) ?_ ?_
                          rotate_left
                          · show Act.put _ (some 61) _ = _
                            simp only [Act.put, List.setIfInBounds_toArray, List.set_cons_zero, List.set_cons_succ, i64_w, i32_w]
                            rfl
                          refine pure_ (i := 19) (N := some 62) (v := ?_) (a' := ?_) #[true, true, true, true, true, true, true, true, true, true, true, true, true, true, true, true, true, true, true, true, true, true, true, true, true, false, false] rfl rfl (any_of HT_.out (by kernel_rfl)) (fun _ _ _ h => h) (Or.inl ⟨by rfl, ?_⟩) ?_ ?_
                          rotate_left
                          · intro w'
                            go_simp
                            with_reducible rfl
                          rotate_left
                          · simp only [Act.put, List.setIfInBounds_toArray, List.set_cons_zero, List.set_cons_succ, i64_w, i32_w]
                            rfl
                          refine pure_ (i := 25) (N := some 68) (v := ?_) (a' := ?_) #[true, true, true, true, true, true, true, true, true, true, true, true, true, true, true, true, true, true, true, true, true, true, true, true, true, true, false] rfl rfl (any_of HT_.out (by kernel_rfl)) (fun _ _ _ h => h) (Or.inl ⟨by rfl, ?_⟩) ?_ ?_
                          rotate_left
                          · intro w'
                            go_simp
                            with_reducible rfl
                          rotate_left
                          · simp only [Act.put, List.setIfInBounds_toArray, List.set_cons_zero, List.set_cons_succ, i64_w, i32_w]
                            rfl
                          refine pure_ (i := 26) (N := some 5) (v := ?_) (a' := ?_) #[true, true, true, true, true, true, true, true, true, true, true, true, true, true, true, true, true, true, true, true, true, true, true, true, true, true, true] rfl rfl (any_of HT_.out (by kernel_rfl)) (fun _ _ _ h => h) (Or.inl ⟨by rfl, ?_⟩) ?_ ?_
                          rotate_left
                          · intro w'
                            go_simp
                            with_reducible rfl
                          rotate_left
                          · simp only [Act.put, List.setIfInBounds_toArray, List.set_cons_zero, List.set_cons_succ, i64_w, i32_w]
                            rfl
                          refine done_ (done_of HT_.out (by kernel_rfl)) ?_
                          have p544 : 0 ≤ (x7_1 : Int) := of_decide_eq_true (by first | (with_reducible assumption) | assumption)
                          have q544 : x7_1 < (l0.length : Int) := of_decide_eq_true (by first | (with_reducible assumption) | assumption)
                          obtain ⟨ad544, e544, hx544_0, hx544_1, hx544_2, hx544_3⟩ := at_T56 HR0.out x7_1 p544 q544
                          obtain rfl : ad533 = ad544 := (by injection e544)
                          replace hx544_0 := (HB.out.cell (World.block_lt_of_cell? w _ hx544_0)).trans hx544_0
                          replace hx544_1 := (HB.out.cell (World.block_lt_of_cell? w _ hx544_1)).trans hx544_1
                          replace hx544_2 := (HB.out.cell (World.block_lt_of_cell? w _ hx544_2)).trans hx544_2
                          replace hx544_3 := (HB.out.cell (World.block_lt_of_cell? w _ hx544_3)).trans hx544_3
                          replace p544 := eq_true p544
                          replace q544 := eq_true q544
                          try go_wp2
                          go_roundg k1
                          case measure => have := HK1.out; omega
                          case rel => exact ⟨(((((x5_1 ++ t538) ++ t536) ++ t540) ++ t542) ++ ((rd_T56 l0 x7_1).f3)), ((rd_T56 l0 x7_1).f0), (wrap64 (x7_1 + 1)), (by first | rfl | (simp; done) | (simp [*]; done)), (by first | rfl | (simp; done) | (simp [*]; done)), (by first | rfl | (simp; done) | (simp [*]; done)), H', ⟨by have := HK1.out; omega⟩, ⟨by repeat (first | (with_reducible first | exact HB.out | apply below_alloc | apply pw_below_drewN | apply below_drew1) | exact HB.out)⟩⟩
                        · rw [if_neg c20] at H
                          exact absurd H (by simp)
                      · rw [if_neg c19] at H
                        exact absurd H (by simp)
                    · rw [if_neg c17] at H
                      exact absurd H (by simp)
                  · rw [if_neg c15] at H
                    exact absurd H (by simp)
                · rw [if_neg c14] at H
                  exact absurd H (by simp)
              · rw [if_neg c11] at H
                exact absurd H (by simp)
            · rw [if_neg c10] at H
              exact absurd H (by simp)
          · rw [if_neg c8] at H
            exact absurd H (by simp)
        · rw [if_neg c7] at H
          have c7b0 : decide (x7_1 < (l0.length : Int)) = false := decide_eq_false c7
          clear c7
          simp only [Option.some.injEq, Prod.mk.injEq] at H
          obtain ⟨rfl, rfl⟩ := H
          go_wp2
          go_ret2
          exact ⟨by first | rfl | (simp [errW_none, errW_some] <;> rfl) | (simp [*, errW_none, errW_some] <;> rfl), by repeat (first | (with_reducible first | exact HB.out | apply below_alloc | apply pw_below_drewN | apply below_drew1) | exact HB.out)⟩
  · rw [if_neg c3] at H
    have c3b0 : (t531 == 0) = false := beq_eq_false_iff_ne.mpr c3
    have c3b1 : (t531 != 0) = true := bne_iff_ne.mpr c3
    simp only [Option.some.injEq, Prod.mk.injEq] at H
    obtain ⟨rfl, rfl⟩ := H
    go_enter Tryd.func33, Tryd.ntmps33
    go_wp2_with (first | ((with_reducible refine gate_callee (f := 35) rfl ?_); refine goesL_ (some 12) rfl rfl Tryd.func35 (by kernel_rfl) rfl #[.slice A0 l0.length c0] rfl (by (try simp only [List.map_toArray, List.map_cons, List.map_nil]); first | done | rfl | (simp only [List.length_drop, List.length_take]; rfl)) ?_; (with_reducible refine (barqueref09_Right.calls k _ _ l0 t531 _ ?side1 ?side2 A2.out).mono ?_); (case side1 => repeat (first | exact HR0.out | (with_reducible refine Kd.C_alloc ?_ _) | (with_reducible refine Kd.C_drewN ?_ _) | (with_reducible refine Kd.C_drew ?_))); (case side2 => exact HC0.out); rintro e w26 ⟨rfl, hb⟩; refine ⟨_, rfl, ?_⟩; have n0_ := Aside0.mk (below_step (by repeat (first | (with_reducible first | exact HB.out | apply below_alloc | apply pw_below_drewN | apply below_drew1) | exact HB.out)) hb); clear HB; have HB := n0_; clear n0_; (try clear hb); (try clear hb2); (try clear hk); (try clear hi)))
    go_ret2
    exact ⟨by first | rfl | (simp [errW_none, errW_some] <;> rfl) | (simp [*, errW_none, errW_some] <;> rfl), by repeat (first | (with_reducible first | exact HB.out | apply below_alloc | apply pw_below_drewN | apply below_drew1) | exact HB.out)⟩
end Go.Proofs.YtafjlibcdlihcaaDoor.G
end
section
namespace Go.Proofs.YtafjlibcdlihcaaDoor.G
open Go.RowKit Go.Proofs.YtafjlibcdlihcaaDoorW.PrintWords Go.Proofs.YtafjlibcdlihcaaDoorW.PrintLast Go.Proofs.YtafjlibcdlihcaaDoorW.PrintMore
set_option linter.unusedVariables false
set_option linter.unusedSimpArgs false
theorem ba_of_ (b : ByteArray) (l : List UInt8) (h : b.data.toList = l) : b = ⟨l.toArray⟩ := by
  subst h
  cases b
  rfl
theorem refbytes_l0 (l : List S56) (hl : l.length ≤ 256) (hf : ∀ x ∈ l, x.f0.size ≤ 200 ∧ x.f3.size = 32) : ∀ (d i : Nat) (out last : ByteArray), l.length - i = d → i ≤ l.length → out.size + 268 * d ≤ 4294967296 → last.size ≤ 200 →
    ∃ h : ByteArray, h.data.toList = out.data.toList ++ itemsL last (l.drop i) ∧ Ev (fun k => barqueref09_Bytes.l0 k l out last i) (h, 0) := by
  intro d
  induction d with
  | zero =>
    intro i out last hd hi ho hs
    have e : i = l.length := by omega
    subst e
    refine ⟨out, by rw [List.drop_eq_nil_of_le (Nat.le_refl _), itemsL, List.append_nil], ?_⟩
    apply Ev.step
    · intro k; rw [barqueref09_Bytes.l0]
    have c1 : ¬ ((l.length : Int) < (l.length : Int)) := by omega
    simp only [c1, ↓reduceIte]
    exact Ev.now _
  | succ d ih =>
    intro i out last hd hi ho hs
    have hlt : i < l.length := by omega
    have hd1 : l.length - (i + 1) = d := by omega
    have hi1 : i + 1 ≤ l.length := by omega
    obtain ⟨f1, f2⟩ := hf _ (List.getElem_mem hlt)
    obtain ⟨x, hx⟩ : ∃ x, l[i]'hlt = x := ⟨_, rfl⟩
    rw [hx] at f1 f2
    have c1 : ((i : Int) < (l.length : Int)) := by omega
    have c2 : (0 : Int) ≤ (i : Int) := by omega
    obtain ⟨n, hn⟩ : ∃ n, comN last x = n := ⟨_, rfl⟩
    have hcn := comN_le last x
    rw [hn] at hcn
    have hsh : Ev (fun k => barqueref09_shared.f k last x.f0) ((n : Nat) : Int) := by
      rw [← hn]
      exact refshared_ev last x.f0 (by omega) (by omega)
    obtain ⟨rest, hrest⟩ : ∃ rest, x.f0.extract n x.f0.size = rest := ⟨_, rfl⟩
    have hrs : rest.size = x.f0.size - n := by rw [← hrest, ByteArray.size_extract]; omega
    have hri : (rest.size : Int) = (x.f0.size : Int) - (n : Int) := by omega
    have n1 := numE_size ((n : Nat) : Int)
    have n2 := numE_size (rest.size : Int)
    have n3 := numE_size x.f1
    have n4 := numE_size x.f2
    have t1 := refbytes_ev ((n : Nat) : Int)
    have t2 := reftext_ev rest (by omega)
    have t3 := refbytes_ev x.f1
    have t4 := refbytes_ev x.f2
    obtain ⟨e1, he1⟩ : ∃ e, numE ((n : Nat) : Int) = e := ⟨_, rfl⟩
    obtain ⟨e2, he2⟩ : ∃ e, numE (rest.size : Int) = e := ⟨_, rfl⟩
    obtain ⟨e3, he3⟩ : ∃ e, numE x.f1 = e := ⟨_, rfl⟩
    obtain ⟨e4, he4⟩ : ∃ e, numE x.f2 = e := ⟨_, rfl⟩
    rw [he1] at n1 t1
    rw [he2] at n2 t2
    rw [he3] at n3 t3
    rw [he4] at n4 t4
    have b0 : out.size + e1.1.size ≤ 9223372036854775807 := by omega
    have b1 : (out ++ e1.1).size + (e2.1 ++ rest).size ≤ 9223372036854775807 := by
      simp only [ByteArray.size_append]
      omega
    have b2 : (out ++ e1.1 ++ (e2.1 ++ rest)).size + e3.1.size ≤ 9223372036854775807 := by
      simp only [ByteArray.size_append]
      omega
    have b3 : (out ++ e1.1 ++ (e2.1 ++ rest) ++ e3.1).size + e4.1.size ≤ 9223372036854775807 := by
      simp only [ByteArray.size_append]
      omega
    have b4 : (out ++ e1.1 ++ (e2.1 ++ rest) ++ e3.1 ++ e4.1).size + x.f3.size ≤ 9223372036854775807 := by
      simp only [ByteArray.size_append]
      omega
    have b5 : (out ++ e1.1 ++ (e2.1 ++ rest) ++ e3.1 ++ e4.1 ++ x.f3).size + 268 * d ≤ 4294967296 := by
      simp only [ByteArray.size_append]
      omega
    obtain ⟨h, h1, h2⟩ := ih (i + 1) (out ++ e1.1 ++ (e2.1 ++ rest) ++ e3.1 ++ e4.1 ++ x.f3) x.f0 hd1 hi1 b5 f1
    refine ⟨h, ?_, ?_⟩
    · rw [h1, List.drop_eq_getElem_cons hlt, hx, itemsL, itemL, hn, hrest, ← hri]
      simp only [app_list_, numB, List.append_assoc, he1, he2, he3, he4]
    · have c3 : (0 : Int) ≤ (n : Int) := by omega
      have c4 : (n : Int) ≤ (x.f0.size : Int) := by omega
      have hw : wrap64 ((i : Int) + 1) = ((i + 1 : Nat) : Int) := by clear b0 b1 b2 b3 b4 b5 n1 n2 n3 n4 h1 h2; rw [w64_ (by omega) (by omega)]; omega
      apply Ev.step
      · intro k; rw [barqueref09_Bytes.l0]
      simp only [c1, c2, ↓reduceIte, rdM_nat l i hlt, hx, hw]
      refine Ev.bind hsh ?_
      simp only [c3, c4, ↓reduceIte, Int.toNat_natCast, hrest]
      refine Ev.bind t2 (Ev.bind t1 ?_)
      simp only [b0, b1, ↓reduceIte]
      refine Ev.bind t3 ?_
      simp only [b2, ↓reduceIte]
      refine Ev.bind t4 ?_
      simp only [b3, b4, ↓reduceIte]
      exact h2
theorem refBytes_ev (l : List S56) (hl : l.length ≤ 4294967296) : Ev (fun k => barqueref09_Bytes.f k l) (bytesE l) := by
  unfold barqueref09_Bytes.f bytesE
  refine Ev.bind (refright_ev l hl) ?_
  by_cases h : rightE l = 0
  · simp only [h, ↓reduceIte]
    have hi := right_items l h
    obtain ⟨h1, _⟩ := rightE_ok l h
    obtain ⟨_, _, s3⟩ := pathsE_sorted _ h1
    rw [List.length_map] at s3
    have n1 := numE_size (l.length : Int)
    refine Ev.bind (refbytes_ev _) ?_
    obtain ⟨b, b1, b2⟩ := refbytes_l0 l s3 hi l.length 0 (numE (l.length : Int)).1 ⟨#[]⟩ (by omega) (by omega) (by omega) (by decide)
    have e : b = ⟨(numB (l.length : Int) ++ itemsL ⟨#[]⟩ l).toArray⟩ := ba_of_ b _ (by rw [b1, List.drop_zero]; rfl)
    rw [← e]
    simpa using b2
  · simp only [h, ↓reduceIte]
    exact Ev.now _
end Go.Proofs.YtafjlibcdlihcaaDoor.G
end
section
namespace Go.Proofs.YtafjlibcdlihcaaDoor.G
open Go.RowKit Go.Proofs.YtafjlibcdlihcaaDoorW.PrintWords Go.Proofs.YtafjlibcdlihcaaDoorW.PrintLast Go.Proofs.YtafjlibcdlihcaaDoorW.PrintMore
attribute [local go_sem] max2_int min2_int max_two min_two max_three min_three max_four min_four   -- for this text's walks alone
set_option linter.unusedVariables false
set_option linter.unusedSimpArgs false
mutual
def tree_Check.l0 : Nat → List (S58) → List ByteArray → List (S58) → Int → Int → Option (Int)
  | 0, _, _, _, _, _ => none
  | k + 1, x0, x3, x9, x10, x11 => if x11 < x10 then (if 0 ≤ x11 then (if x11 < (x9.length : Int) then (if x3.length < 8796093022208 then (tree_Check.l0 k x0 (x3 ++ [(rd_T58 x9 x11).f0]) x9 x10 (wrap64 (x11 + 1))) else (none)) else (none)) else (none)) else ((tree_paths.f k x3).bind fun t128 => (if t128 = 0 then (tree_Check.l1 k x0 (x0.length : Int) 0) else (some t128)))
def tree_Check.l1 : Nat → List (S58) → Int → Int → Option (Int)
  | 0, _, _, _ => none
  | k + 1, x26, x27, x28 => if x28 < x27 then (if 0 ≤ x28 then (if x28 < (x26.length : Int) then ((tree_mode.f ((rd_T58 x26 x28).f1)).bind fun t131 => (if t131 = true then (if (((rd_T58 x26 x28).f2).size : Int) > 65536 then (some 4) else (tree_Check.l1 k x26 x27 (wrap64 (x28 + 1)))) else (some 11))) else (none)) else (none)) else (some 0)
end
def tree_Check.f (k : Nat) (l0 : List (S58)) : Option (Int) := tree_Check.l0 k l0 ([] : List ByteArray) l0 (l0.length : Int) 0
theorem tree_Check.mono_l : ∀ k, (∀ y0 y1 y2 y3 y4, LeO (tree_Check.l0 k y0 y1 y2 y3 y4) (tree_Check.l0 (k + 1) y0 y1 y2 y3 y4)) ∧ (∀ y0 y1 y2, LeO (tree_Check.l1 k y0 y1 y2) (tree_Check.l1 (k + 1) y0 y1 y2))
  | 0 => ⟨fun _ _ _ _ _ r h => by simp [tree_Check.l0] at h, fun _ _ _ r h => by simp [tree_Check.l1] at h⟩
  | k + 1 => by
    obtain ⟨ih0, ih1⟩ := tree_Check.mono_l k
    refine ⟨?_, ?_⟩
    · intro y0 y1 y2 y3 y4
      unfold tree_Check.l0
      repeat' first
      | (with_reducible exact ih0 _ _ _ _ _)
      | (with_reducible exact ih1 _ _ _)
      | (with_reducible exact tree_paths.mono _ _)
      | (with_reducible exact LeO.refl _)
      | (with_reducible exact LeO.none _)
      | (with_reducible refine LeO.ite ?_ ?_)
      | (with_reducible refine LeO.bind ?_ (fun _ => ?_))
      | exact ih0 _ _ _ _ _
      | exact ih1 _ _ _
      | exact tree_paths.mono _ _
      | exact LeO.none _
      | refine LeO.ite ?_ ?_
      | refine LeO.bind ?_ (fun _ => ?_)
    · intro y0 y1 y2
      unfold tree_Check.l1
      repeat' first
      | (with_reducible exact ih0 _ _ _ _ _)
      | (with_reducible exact ih1 _ _ _)
      | (with_reducible exact tree_paths.mono _ _)
      | (with_reducible exact LeO.refl _)
      | (with_reducible exact LeO.none _)
      | (with_reducible refine LeO.ite ?_ ?_)
      | (with_reducible refine LeO.bind ?_ (fun _ => ?_))
      | exact ih0 _ _ _ _ _
      | exact ih1 _ _ _
      | exact tree_paths.mono _ _
      | exact LeO.none _
      | refine LeO.ite ?_ ?_
      | refine LeO.bind ?_ (fun _ => ?_)
theorem tree_Check.mono : ∀ a0 k, LeO (tree_Check.f k a0) (tree_Check.f (k + 1) a0) := by
  intro a0 k
  obtain ⟨ih0, ih1⟩ := tree_Check.mono_l k
  unfold tree_Check.f
  repeat' first
      | (with_reducible exact ih0 _ _ _ _ _)
      | (with_reducible exact ih1 _ _ _)
      | (with_reducible exact tree_paths.mono _ _)
      | (with_reducible exact LeO.refl _)
      | (with_reducible exact LeO.none _)
      | (with_reducible refine LeO.ite ?_ ?_)
      | (with_reducible refine LeO.bind ?_ (fun _ => ?_))
      | exact ih0 _ _ _ _ _
      | exact ih1 _ _ _
      | exact tree_paths.mono _ _
      | exact LeO.none _
      | refine LeO.ite ?_ ?_
      | refine LeO.bind ?_ (fun _ => ?_)
set_option maxHeartbeats 8000000 in
set_option maxRecDepth 100000 in
theorem tree_Check.calls (k : Nat) (A0 : Option Addr) (c0 : Nat) (l0 : List (S58)) (r : Int) (w : World) (hr0 : Kd.C k58 w A0 l0.length l0) (hc0 : l0.length ≤ c0) (h : tree_Check.f k l0 = some r) :
    Calls Tryd.prog 19 #[.slice A0 l0.length c0] w fun e w' => e = .returned (.int .i64 r) ∧ Below w.heap.size w w' := by
  have hu58 := Tryd.underlying58
  have HR0 := Aside0.mk hr0
  have HC0 := Aside0.mk hc0
  clear hr0 hc0
  have HB := Aside0.mk (Below.refl w.heap.size w)
  have H : (tree_Check.l0 k l0 ([] : List ByteArray) l0 (l0.length : Int) 0) = some r := h
  clear h
  have H' := Aside0.mk H
  clear H
  go_enter Tryd.func19, Tryd.ntmps19
  go_wp2
  go_loopg [3, 11] k (fun kq v3 v11 w' => ∃ (x3_1 : List ByteArray) (x11_1 : Int), v11 = .int .i64 x11_1 ∧ Aside0 (tree_Check.l0 kq l0 x3_1 l0 (l0.length : Int) x11_1 = some r) ∧ Aside0 (kq ≤ k) ∧ Aside0 (Kd.R Kd.string 9 w' w.heap.size (fun _ => True) v3 x3_1) ∧ Aside0 (Below w.heap.size w w'))
  case atStart => exact ⟨(([] : List ByteArray)), (0), (by first | rfl | (simp; done) | (simp [*]; done)), H', ⟨Nat.le_refl _⟩, ⟨by first | exact Kd.R_nil _ _ _ _ _ | exact Kd.N_nil _ _ _ _ _ | exact Kd.V_nil _ _ _ _ _ | exact Kd.Q_nil _ _ _ _ _ | exact Kd.S_nil _ _ _ _ _⟩, ⟨by repeat (first | (with_reducible first | exact HB.out | apply below_alloc | apply pw_below_drewN | apply below_drew1) | exact HB.out)⟩⟩
  case round =>
    clear H'
    try clear c1
    obtain ⟨x3_1, x11_1, rfl, HA, HK1, HO_3, HB⟩ := hrel
    cases gk with
    | zero => exact absurd HA.out (by simp [tree_Check.l0])
    | succ k1 =>
      have H := HA.out
      clear HA
      simp only [tree_Check.l0] at H
      by_cases c2 : x11_1 < (l0.length : Int)
      · rw [if_pos c2] at H
        have c2b0 : decide (x11_1 < (l0.length : Int)) = true := decide_eq_true c2
        clear c2
        by_cases c3 : 0 ≤ x11_1
        · rw [if_pos c3] at H
          have c3b0 : decide (0 ≤ x11_1) = true := decide_eq_true c3
          clear c3
          by_cases c4 : x11_1 < (l0.length : Int)
          · rw [if_pos c4] at H
            have c4b0 : decide (x11_1 < (l0.length : Int)) = true := decide_eq_true c4
            clear c4
            by_cases c5 : x3_1.length < 8796093022208
            · rw [if_pos c5] at H
              have LMc5 := Aside0.mk c5
              clear c5
              obtain ⟨y125, hy125⟩ : ∃ y_ : List ByteArray, y_ = (x3_1 ++ [(rd_T58 l0 x11_1).f0]) := ⟨_, rfl⟩
              replace H : (tree_Check.l0 k1 l0 y125 l0 (l0.length : Int) (wrap64 (x11_1 + 1))) = some r := by first | (rw [hy125]; with_reducible exact H) | (have H2_ := (Option.bind_some _ _).symm.trans H; rw [hy125]; with_reducible exact H2_) | (have H2_ := (Option.bind_some _ _).symm.trans H; with_reducible exact H2_) | with_reducible exact H | (rw [hy125]; exact H) | exact H
              have Ny125 := Aside0.mk hy125
              clear hy125
              have H' := Aside0.mk H
              clear H
              have p123 : 0 ≤ (x11_1 : Int) := of_decide_eq_true (by first | (with_reducible assumption) | assumption)
              have q123 : x11_1 < (l0.length : Int) := of_decide_eq_true (by first | (with_reducible assumption) | assumption)
              obtain ⟨ad123, e123, hx123_0, hx123_1, hx123_2⟩ := at_T58 HR0.out x11_1 p123 q123
              cases e123
              replace hx123_0 := (HB.out.cell (World.block_lt_of_cell? w _ hx123_0)).trans hx123_0
              replace hx123_1 := (HB.out.cell (World.block_lt_of_cell? w _ hx123_1)).trans hx123_1
              replace hx123_2 := (HB.out.cell (World.block_lt_of_cell? w _ hx123_2)).trans hx123_2
              replace p123 := eq_true p123
              replace q123 := eq_true q123
              go_wp2_with (first | ((with_reducible refine gate_dst (N := 5) rfl ?_); refine box_event ?hg (N := 5) ?hd (cs := #[.string (⟨#[]⟩ : ByteArray), .int .i64 0, .string (⟨#[]⟩ : ByteArray)]) (t := 58) ?hr ?_; (case hd => rfl); (case hg => rfl); (case hr => first | (go_simp; done) | (go_simp; rfl)); intro gb124 hg w6 hbox hb; have n0_ := Aside0.mk (Kd.R_below (by (with_reducible repeat (first | apply Kd.R_alloc | apply Kd.R_drewN | apply Kd.R_drew)); exact HO_3.out) hb); have n1_ := Aside0.mk (below_step (by repeat (first | (with_reducible first | exact HB.out | apply below_alloc | apply pw_below_drewN | apply below_drew1) | exact HB.out)) hb); have n2_ := Aside0.mk (hbox); have n3_ := Aside0.mk ((by rw [hg]; exact (below_size (by repeat (first | (with_reducible first | exact HB.out | apply below_alloc | apply pw_below_drewN | apply below_drew1) | exact HB.out))) : w.heap.size ≤ gb124)); have n4_ := Aside0.mk ((by rw [hg]; exact (below_size (by repeat (first | (with_reducible first | exact HB.out | apply below_alloc | apply pw_below_drewN | apply below_drew1) | exact HB.out))) : w.heap.size ≤ gb124)); clear HO_3; clear HB; have HO_3 := n0_; have HB := n1_; have BK124 := n2_; have GW124 := n3_; have GE124 := n4_; clear n0_ n1_ n2_ n3_ n4_; clear hb hbox hg; have hcz7_0 : w6.cell? ⟨gb124, 0, none⟩ = some (.string (⟨#[]⟩ : ByteArray)) := (blk_cell BK124.out 0).trans rfl; have hcz7_1 : w6.cell? ⟨gb124, 1, none⟩ = some (.int .i64 0) := (blk_cell BK124.out 1).trans rfl; have hcz7_2 : w6.cell? ⟨gb124, 2, none⟩ = some (.string (⟨#[]⟩ : ByteArray)) := (blk_cell BK124.out 2).trans rfl; have hfz7_0 := blk_frozen BK124.out 0; have hfz7_1 := blk_frozen BK124.out 1; have hfz7_2 := blk_frozen BK124.out 2) | ((with_reducible refine gate_builtin (b := .append) (xs := #[.tmp 15, .tmp 18]) rfl ?_); at_builtin; refine Kd.R_append Kd.string (w0 := w) w.heap.size rfl (.tmp 15) (.tmp 18) 33 9 (.string ⟨#[]⟩) 16 rfl Tryd.underlying33 info9 rfl (by decide) (by omega) u3 x3_1 ((rd_T58 l0 x11_1).f0) [.string ((rd_T58 l0 x11_1).f0)] (fun _ => True) (fun _ => False) rfl (by first | (go_simp; done) | (go_simp; rfl)) ?aP (fun _ hk => hk.elim) ?aF ?aO ?aB ?aS ?aL ?_; (case aP => exact rfl); (case aB => exact (by repeat (first | (with_reducible first | exact HB.out | apply below_alloc | apply pw_below_drewN | apply below_drew1 | refine below_set ?_ GE124.out) | exact HB.out))); (case aF => exact (fun _ _ => trivial)); (case aO => exact (by (with_reducible repeat (first | apply Kd.R_alloc | apply Kd.R_drewN | apply Kd.R_drew)); exact Kd.R_mono (Kd.R_far (p := ⟨gb124, 2, none⟩) (Kd.R_far (p := ⟨gb124, 1, none⟩) (Kd.R_far (p := ⟨gb124, 0, none⟩) (Kd.R_types HO_3.out BK124.out (by decide)) (fun _ hk => hk.2) (.string ((rd_T58 l0 x11_1).f0))) (fun _ hk => hk.2) (.int .i64 ((rd_T58 l0 x11_1).f1))) (fun _ hk => hk.2) (.string ((rd_T58 l0 x11_1).f2))) (fun _ hk => trivial))); (case aS => exact (below_size (by repeat (first | (with_reducible first | exact HB.out | apply below_alloc | apply pw_below_drewN | apply below_drew1 | refine below_set ?_ GE124.out) | exact HB.out)))); (case aL => have := LMc5.out; omega); intro v126 w8 ho hb hg hat; rw [← Ny125.out] at ho; have n0_ := Aside0.mk (blk_grown (g := gb124) (o := .cells #[.string ((rd_T58 l0 x11_1).f0), .int .i64 ((rd_T58 l0 x11_1).f1), .string ((rd_T58 l0 x11_1).f2)] 58 (0, 0)) (by (with_reducible repeat (first | refine blk_drewN ?_ _ | refine blk_drew ?_ | refine blk_alloc ?_ _)); refine blk_put (cs := #[.string ((rd_T58 l0 x11_1).f0), .int .i64 ((rd_T58 l0 x11_1).f1), .string (⟨#[]⟩ : ByteArray)]) ?_ 2 _ rfl; (with_reducible repeat (first | refine blk_drewN ?_ _ | refine blk_drew ?_ | refine blk_alloc ?_ _)); refine blk_put (cs := #[.string ((rd_T58 l0 x11_1).f0), .int .i64 0, .string (⟨#[]⟩ : ByteArray)]) ?_ 1 _ rfl; (with_reducible repeat (first | refine blk_drewN ?_ _ | refine blk_drew ?_ | refine blk_alloc ?_ _)); refine blk_put (cs := #[.string (⟨#[]⟩ : ByteArray), .int .i64 0, .string (⟨#[]⟩ : ByteArray)]) ?_ 0 _ rfl; (with_reducible repeat (first | refine blk_drewN ?_ _ | refine blk_drew ?_ | refine blk_alloc ?_ _)); exact BK124.out) hg (Kd.R_ne HO_3.out BK124.out (by decide))); have n1_ := Aside0.mk (hb); have n2_ := Aside0.mk (ho); clear BK124; clear HB; clear HO_3; have BK124 := n0_; have HB := n1_; have HO127 := n2_; clear n0_ n1_ n2_; clear ho hb hg hat))
              go_roundg k1
              case measure => have := HK1.out; omega
              case rel => exact ⟨(y125), (wrap64 (x11_1 + 1)), (by first | rfl | (simp; done) | (simp [*]; done)), H', ⟨by have := HK1.out; omega⟩, ⟨by (with_reducible repeat (first | apply Kd.R_alloc | apply Kd.R_drewN | apply Kd.R_drew)); exact HO127.out⟩, ⟨by repeat (first | (with_reducible first | exact HB.out | apply below_alloc | apply pw_below_drewN | apply below_drew1 | refine below_set ?_ GE124.out) | exact HB.out)⟩⟩
            · rw [if_neg c5] at H
              exact absurd H (by simp)
          · rw [if_neg c4] at H
            exact absurd H (by simp)
        · rw [if_neg c3] at H
          exact absurd H (by simp)
      · rw [if_neg c2] at H
        have c2b0 : decide (x11_1 < (l0.length : Int)) = false := decide_eq_false c2
        clear c2
        replace H := Option.bind_eq_some_iff.mp H
        obtain ⟨t128, A90, H⟩ := H
        replace H : (if t128 = 0 then (tree_Check.l1 k1 l0 (l0.length : Int) 0) else (some t128)) = some r := H
        have A9 := Aside0.mk A90
        clear A90
        by_cases c10 : t128 = 0
        · rw [if_pos c10] at H
          have c10b0 : (t128 == 0) = true := beq_iff_eq.mpr c10
          have c10b1 : (t128 != 0) = false := bne_eq_false_iff_eq.mpr c10
          clear c10
          have H' := Aside0.mk H
          clear H
          obtain ⟨Ao11, co11, eo11⟩ := Kd.R_slice HO_3.out
          subst eo11
          go_wp2_with (first | ((with_reducible refine gate_callee (f := 48) rfl ?_); refine goesL_ (some 22) rfl rfl Tryd.func48 (by kernel_rfl) rfl #[.slice Ao11 x3_1.length co11] rfl (by (try simp only [List.map_toArray, List.map_cons, List.map_nil]); first | done | rfl | (simp only [List.length_drop, List.length_take]; rfl)) ?_; (with_reducible refine (tree_paths.calls k1 _ _ x3_1 t128 _ ?side1 ?side2 A9.out).mono ?_); (case side1 => repeat (first | exact (Kd.R_reads' HO_3.out).2.2 | (with_reducible refine Kd.C_alloc ?_ _) | (with_reducible refine Kd.C_drewN ?_ _) | (with_reducible refine Kd.C_drew ?_))); (case side2 => exact (Kd.R_reads' HO_3.out).2.1); rintro e w12 ⟨rfl, hb⟩; refine ⟨_, rfl, ?_⟩; have n0_ := Aside0.mk (Kd.R_below (by (with_reducible repeat (first | apply Kd.R_alloc | apply Kd.R_drewN | apply Kd.R_drew)); exact HO_3.out) hb); have n1_ := Aside0.mk (below_step (by repeat (first | (with_reducible first | exact HB.out | apply below_alloc | apply pw_below_drewN | apply below_drew1) | exact HB.out)) hb); clear HO_3; clear HB; have HO_3 := n0_; have HB := n1_; clear n0_ n1_; (try clear hb); (try clear hb2); (try clear hk); (try clear hi)))
          go_loopg [28] k1 (fun kq v28 w' => ∃ (x28_2 : Int), v28 = .int .i64 x28_2 ∧ Aside0 (tree_Check.l1 kq l0 (l0.length : Int) x28_2 = some r) ∧ Aside0 (kq ≤ k1) ∧ Aside0 (Below w.heap.size w w'))
          case atStart => exact ⟨(0), (by first | rfl | (simp; done) | (simp [*]; done)), H', ⟨Nat.le_refl _⟩, ⟨by repeat (first | (with_reducible first | exact HB.out | apply below_alloc | apply pw_below_drewN | apply below_drew1) | exact HB.out)⟩⟩
          case round =>
            clear H'
            try clear c1
            try clear p1
            try clear q1
            try clear hx1
            try clear c2
            try clear c2b0
            try clear p2
            try clear c3
            try clear c3b0
            try clear c4
            try clear c4b0
            try clear c5
            try clear p6
            try clear c10
            try clear c10b0
            try clear c10b1
            try clear p12
            try clear q12
            try clear hx12
            try clear hcz7_0
            try clear hcz7_1
            try clear hcz7_2
            try clear hfz7_0
            try clear hfz7_1
            try clear hfz7_2
            try clear hx123_0
            try clear hx123_1
            try clear hx123_2
            try clear p123
            try clear q123
            obtain ⟨x28_2, rfl, HA, HK2, HB⟩ := hrel
            cases gk with
            | zero => exact absurd HA.out (by simp [tree_Check.l1])
            | succ k2 =>
              have H := HA.out
              clear HA
              simp only [tree_Check.l1] at H
              by_cases c13 : x28_2 < (l0.length : Int)
              · rw [if_pos c13] at H
                have c13b0 : decide (x28_2 < (l0.length : Int)) = true := decide_eq_true c13
                clear c13
                by_cases c14 : 0 ≤ x28_2
                · rw [if_pos c14] at H
                  have c14b0 : decide (0 ≤ x28_2) = true := decide_eq_true c14
                  clear c14
                  by_cases c15 : x28_2 < (l0.length : Int)
                  · rw [if_pos c15] at H
                    have c15b0 : decide (x28_2 < (l0.length : Int)) = true := decide_eq_true c15
                    clear c15
                    replace H := Option.bind_eq_some_iff.mp H
                    obtain ⟨t131, A160, H⟩ := H
                    replace H : (if t131 = true then (if (((rd_T58 l0 x28_2).f2).size : Int) > 65536 then (some 4) else (tree_Check.l1 k2 l0 (l0.length : Int) (wrap64 (x28_2 + 1)))) else (some 11)) = some r := H
                    have A16 := Aside0.mk A160
                    clear A160
                    by_cases c17 : t131 = true
                    · subst c17
                      have H1 : (if (((rd_T58 l0 x28_2).f2).size : Int) > 65536 then (some 4) else (tree_Check.l1 k2 l0 (l0.length : Int) (wrap64 (x28_2 + 1)))) = some r := by rw [if_pos rfl] at H; exact H
                      clear H
                      have H := H1
                      clear H1
                      by_cases c18 : (((rd_T58 l0 x28_2).f2).size : Int) > 65536
                      · rw [if_pos c18] at H
                        have c18b0 : decide (65536 < (((rd_T58 l0 x28_2).f2).size : Int)) = true := decide_eq_true c18
                        have c18b1 : decide (65536 < ((rd_T58 l0 x28_2).f2).size) = true := decide_eq_true (by omega)
                        clear c18
                        obtain rfl := Option.some.inj H
                        have p129 : 0 ≤ (x28_2 : Int) := of_decide_eq_true (by first | (with_reducible assumption) | assumption)
                        have q129 : x28_2 < (l0.length : Int) := of_decide_eq_true (by first | (with_reducible assumption) | assumption)
                        obtain ⟨ad129, e129, hx129_0, hx129_1, hx129_2⟩ := at_T58 HR0.out x28_2 p129 q129
                        cases e129
                        replace hx129_0 := (HB.out.cell (World.block_lt_of_cell? w _ hx129_0)).trans hx129_0
                        replace hx129_1 := (HB.out.cell (World.block_lt_of_cell? w _ hx129_1)).trans hx129_1
                        replace hx129_2 := (HB.out.cell (World.block_lt_of_cell? w _ hx129_2)).trans hx129_2
                        replace p129 := eq_true p129
                        replace q129 := eq_true q129
                        go_wp2_with (first | ((with_reducible refine gate_dst (N := 8) rfl ?_); refine box_event ?hg (N := 8) ?hd (cs := #[.string (⟨#[]⟩ : ByteArray), .int .i64 0, .string (⟨#[]⟩ : ByteArray)]) (t := 58) ?hr ?_; (case hd => rfl); (case hg => rfl); (case hr => first | (go_simp; done) | (go_simp; rfl)); intro gb130 hg w19 hbox hb; have n0_ := Aside0.mk (below_step (by repeat (first | (with_reducible first | exact HB.out | apply below_alloc | apply pw_below_drewN | apply below_drew1) | exact HB.out)) hb); have n1_ := Aside0.mk (hbox); have n2_ := Aside0.mk ((by rw [hg]; exact (below_size (by repeat (first | (with_reducible first | exact HB.out | apply below_alloc | apply pw_below_drewN | apply below_drew1) | exact HB.out))) : w.heap.size ≤ gb130)); have n3_ := Aside0.mk ((by rw [hg]; exact (below_size (by repeat (first | (with_reducible first | exact HB.out | apply below_alloc | apply pw_below_drewN | apply below_drew1) | exact HB.out))) : w.heap.size ≤ gb130)); clear HB; have HB := n0_; have BK130 := n1_; have GW130 := n2_; have GE130 := n3_; clear n0_ n1_ n2_ n3_; clear hb hbox hg; have hcz20_0 : w19.cell? ⟨gb130, 0, none⟩ = some (.string (⟨#[]⟩ : ByteArray)) := (blk_cell BK130.out 0).trans rfl; have hcz20_1 : w19.cell? ⟨gb130, 1, none⟩ = some (.int .i64 0) := (blk_cell BK130.out 1).trans rfl; have hcz20_2 : w19.cell? ⟨gb130, 2, none⟩ = some (.string (⟨#[]⟩ : ByteArray)) := (blk_cell BK130.out 2).trans rfl; have hfz20_0 := blk_frozen BK130.out 0; have hfz20_1 := blk_frozen BK130.out 1; have hfz20_2 := blk_frozen BK130.out 2) | ((with_reducible refine gate_callee (f := 49) rfl ?_); refine goesL_ (some 35) rfl rfl Tryd.func49 (by kernel_rfl) rfl #[.int .i64 ((rd_T58 l0 x28_2).f1)] rfl (by (try simp only [List.map_toArray, List.map_cons, List.map_nil]); first | done | rfl | (simp only [List.length_drop, List.length_take]; rfl)) ?_; (with_reducible refine (tree_mode.calls ((rd_T58 l0 x28_2).f1) true _ A16.out).mono ?_); rintro e w' ⟨rfl, ⟨nd, rfl⟩⟩; refine ⟨_, rfl, ?_⟩))
                        go_ret
                        exact ⟨by first | rfl | (simp [errW_none, errW_some] <;> rfl) | (simp [*, errW_none, errW_some] <;> rfl), by repeat (first | (with_reducible first | exact HB.out | apply below_alloc | apply pw_below_drewN | apply below_drew1 | refine below_set ?_ GE130.out) | exact HB.out)⟩
                      · rw [if_neg c18] at H
                        have c18b0 : decide (65536 < (((rd_T58 l0 x28_2).f2).size : Int)) = false := decide_eq_false c18
                        have c18b1 : decide (65536 < ((rd_T58 l0 x28_2).f2).size) = false := decide_eq_false (by omega)
                        clear c18
                        have H' := Aside0.mk H
                        clear H
                        have p129 : 0 ≤ (x28_2 : Int) := of_decide_eq_true (by first | (with_reducible assumption) | assumption)
                        have q129 : x28_2 < (l0.length : Int) := of_decide_eq_true (by first | (with_reducible assumption) | assumption)
                        obtain ⟨ad129, e129, hx129_0, hx129_1, hx129_2⟩ := at_T58 HR0.out x28_2 p129 q129
                        cases e129
                        replace hx129_0 := (HB.out.cell (World.block_lt_of_cell? w _ hx129_0)).trans hx129_0
                        replace hx129_1 := (HB.out.cell (World.block_lt_of_cell? w _ hx129_1)).trans hx129_1
                        replace hx129_2 := (HB.out.cell (World.block_lt_of_cell? w _ hx129_2)).trans hx129_2
                        replace p129 := eq_true p129
                        replace q129 := eq_true q129
                        go_wp2_with (first | ((with_reducible refine gate_dst (N := 8) rfl ?_); refine box_event ?hg (N := 8) ?hd (cs := #[.string (⟨#[]⟩ : ByteArray), .int .i64 0, .string (⟨#[]⟩ : ByteArray)]) (t := 58) ?hr ?_; (case hd => rfl); (case hg => rfl); (case hr => first | (go_simp; done) | (go_simp; rfl)); intro gb130 hg w21 hbox hb; have n0_ := Aside0.mk (below_step (by repeat (first | (with_reducible first | exact HB.out | apply below_alloc | apply pw_below_drewN | apply below_drew1) | exact HB.out)) hb); have n1_ := Aside0.mk (hbox); have n2_ := Aside0.mk ((by rw [hg]; exact (below_size (by repeat (first | (with_reducible first | exact HB.out | apply below_alloc | apply pw_below_drewN | apply below_drew1) | exact HB.out))) : w.heap.size ≤ gb130)); have n3_ := Aside0.mk ((by rw [hg]; exact (below_size (by repeat (first | (with_reducible first | exact HB.out | apply below_alloc | apply pw_below_drewN | apply below_drew1) | exact HB.out))) : w.heap.size ≤ gb130)); clear HB; have HB := n0_; have BK130 := n1_; have GW130 := n2_; have GE130 := n3_; clear n0_ n1_ n2_ n3_; clear hb hbox hg; have hcz22_0 : w21.cell? ⟨gb130, 0, none⟩ = some (.string (⟨#[]⟩ : ByteArray)) := (blk_cell BK130.out 0).trans rfl; have hcz22_1 : w21.cell? ⟨gb130, 1, none⟩ = some (.int .i64 0) := (blk_cell BK130.out 1).trans rfl; have hcz22_2 : w21.cell? ⟨gb130, 2, none⟩ = some (.string (⟨#[]⟩ : ByteArray)) := (blk_cell BK130.out 2).trans rfl; have hfz22_0 := blk_frozen BK130.out 0; have hfz22_1 := blk_frozen BK130.out 1; have hfz22_2 := blk_frozen BK130.out 2) | ((with_reducible refine gate_callee (f := 49) rfl ?_); refine goesL_ (some 35) rfl rfl Tryd.func49 (by kernel_rfl) rfl #[.int .i64 ((rd_T58 l0 x28_2).f1)] rfl (by (try simp only [List.map_toArray, List.map_cons, List.map_nil]); first | done | rfl | (simp only [List.length_drop, List.length_take]; rfl)) ?_; (with_reducible refine (tree_mode.calls ((rd_T58 l0 x28_2).f1) true _ A16.out).mono ?_); rintro e w' ⟨rfl, ⟨nd, rfl⟩⟩; refine ⟨_, rfl, ?_⟩))
                        go_roundg k2
                        case measure => have := HK1.out; have := HK2.out; omega
                        case rel => exact ⟨(wrap64 (x28_2 + 1)), (by first | rfl | (simp; done) | (simp [*]; done)), H', ⟨by have := HK1.out; have := HK2.out; omega⟩, ⟨by repeat (first | (with_reducible first | exact HB.out | apply below_alloc | apply pw_below_drewN | apply below_drew1 | refine below_set ?_ GE130.out) | exact HB.out)⟩⟩
                    · replace c17 := Bool.eq_false_iff.mpr c17
                      subst c17
                      have H1 : (some 11) = some r := by rw [if_neg (show ¬ (false = true) by decide)] at H; exact H
                      clear H
                      have H := H1
                      clear H1
                      obtain rfl := Option.some.inj H
                      have p129 : 0 ≤ (x28_2 : Int) := of_decide_eq_true (by first | (with_reducible assumption) | assumption)
                      have q129 : x28_2 < (l0.length : Int) := of_decide_eq_true (by first | (with_reducible assumption) | assumption)
                      obtain ⟨ad129, e129, hx129_0, hx129_1, hx129_2⟩ := at_T58 HR0.out x28_2 p129 q129
                      cases e129
                      replace hx129_0 := (HB.out.cell (World.block_lt_of_cell? w _ hx129_0)).trans hx129_0
                      replace hx129_1 := (HB.out.cell (World.block_lt_of_cell? w _ hx129_1)).trans hx129_1
                      replace hx129_2 := (HB.out.cell (World.block_lt_of_cell? w _ hx129_2)).trans hx129_2
                      replace p129 := eq_true p129
                      replace q129 := eq_true q129
                      go_wp2_with (first | ((with_reducible refine gate_dst (N := 8) rfl ?_); refine box_event ?hg (N := 8) ?hd (cs := #[.string (⟨#[]⟩ : ByteArray), .int .i64 0, .string (⟨#[]⟩ : ByteArray)]) (t := 58) ?hr ?_; (case hd => rfl); (case hg => rfl); (case hr => first | (go_simp; done) | (go_simp; rfl)); intro gb130 hg w23 hbox hb; have n0_ := Aside0.mk (below_step (by repeat (first | (with_reducible first | exact HB.out | apply below_alloc | apply pw_below_drewN | apply below_drew1) | exact HB.out)) hb); have n1_ := Aside0.mk (hbox); have n2_ := Aside0.mk ((by rw [hg]; exact (below_size (by repeat (first | (with_reducible first | exact HB.out | apply below_alloc | apply pw_below_drewN | apply below_drew1) | exact HB.out))) : w.heap.size ≤ gb130)); have n3_ := Aside0.mk ((by rw [hg]; exact (below_size (by repeat (first | (with_reducible first | exact HB.out | apply below_alloc | apply pw_below_drewN | apply below_drew1) | exact HB.out))) : w.heap.size ≤ gb130)); clear HB; have HB := n0_; have BK130 := n1_; have GW130 := n2_; have GE130 := n3_; clear n0_ n1_ n2_ n3_; clear hb hbox hg; have hcz24_0 : w23.cell? ⟨gb130, 0, none⟩ = some (.string (⟨#[]⟩ : ByteArray)) := (blk_cell BK130.out 0).trans rfl; have hcz24_1 : w23.cell? ⟨gb130, 1, none⟩ = some (.int .i64 0) := (blk_cell BK130.out 1).trans rfl; have hcz24_2 : w23.cell? ⟨gb130, 2, none⟩ = some (.string (⟨#[]⟩ : ByteArray)) := (blk_cell BK130.out 2).trans rfl; have hfz24_0 := blk_frozen BK130.out 0; have hfz24_1 := blk_frozen BK130.out 1; have hfz24_2 := blk_frozen BK130.out 2) | ((with_reducible refine gate_callee (f := 49) rfl ?_); refine goesL_ (some 35) rfl rfl Tryd.func49 (by kernel_rfl) rfl #[.int .i64 ((rd_T58 l0 x28_2).f1)] rfl (by (try simp only [List.map_toArray, List.map_cons, List.map_nil]); first | done | rfl | (simp only [List.length_drop, List.length_take]; rfl)) ?_; (with_reducible refine (tree_mode.calls ((rd_T58 l0 x28_2).f1) false _ A16.out).mono ?_); rintro e w' ⟨rfl, ⟨nd, rfl⟩⟩; refine ⟨_, rfl, ?_⟩))
                      go_ret
                      exact ⟨by first | rfl | (simp [errW_none, errW_some] <;> rfl) | (simp [*, errW_none, errW_some] <;> rfl), by repeat (first | (with_reducible first | exact HB.out | apply below_alloc | apply pw_below_drewN | apply below_drew1 | refine below_set ?_ GE130.out) | exact HB.out)⟩
                  · rw [if_neg c15] at H
                    exact absurd H (by simp)
                · rw [if_neg c14] at H
                  exact absurd H (by simp)
              · rw [if_neg c13] at H
                have c13b0 : decide (x28_2 < (l0.length : Int)) = false := decide_eq_false c13
                clear c13
                obtain rfl := Option.some.inj H
                go_wp2
                go_ret
                exact ⟨by first | rfl | (simp [errW_none, errW_some] <;> rfl) | (simp [*, errW_none, errW_some] <;> rfl), by repeat (first | (with_reducible first | exact HB.out | apply below_alloc | apply pw_below_drewN | apply below_drew1) | exact HB.out)⟩
        · rw [if_neg c10] at H
          have c10b0 : (t128 == 0) = false := beq_eq_false_iff_ne.mpr c10
          have c10b1 : (t128 != 0) = true := bne_iff_ne.mpr c10
          obtain rfl := Option.some.inj H
          obtain ⟨Ao25, co25, eo25⟩ := Kd.R_slice HO_3.out
          subst eo25
          go_wp2_with (first | ((with_reducible refine gate_callee (f := 48) rfl ?_); refine goesL_ (some 22) rfl rfl Tryd.func48 (by kernel_rfl) rfl #[.slice Ao25 x3_1.length co25] rfl (by (try simp only [List.map_toArray, List.map_cons, List.map_nil]); first | done | rfl | (simp only [List.length_drop, List.length_take]; rfl)) ?_; (with_reducible refine (tree_paths.calls k1 _ _ x3_1 t128 _ ?side1 ?side2 A9.out).mono ?_); (case side1 => repeat (first | exact (Kd.R_reads' HO_3.out).2.2 | (with_reducible refine Kd.C_alloc ?_ _) | (with_reducible refine Kd.C_drewN ?_ _) | (with_reducible refine Kd.C_drew ?_))); (case side2 => exact (Kd.R_reads' HO_3.out).2.1); rintro e w26 ⟨rfl, hb⟩; refine ⟨_, rfl, ?_⟩; have n0_ := Aside0.mk (Kd.R_below (by (with_reducible repeat (first | apply Kd.R_alloc | apply Kd.R_drewN | apply Kd.R_drew)); exact HO_3.out) hb); have n1_ := Aside0.mk (below_step (by repeat (first | (with_reducible first | exact HB.out | apply below_alloc | apply pw_below_drewN | apply below_drew1) | exact HB.out)) hb); clear HO_3; clear HB; have HO_3 := n0_; have HB := n1_; clear n0_ n1_; (try clear hb); (try clear hb2); (try clear hk); (try clear hi)))
          go_ret
          exact ⟨by first | rfl | (simp [errW_none, errW_some] <;> rfl) | (simp [*, errW_none, errW_some] <;> rfl), by repeat (first | (with_reducible first | exact HB.out | apply below_alloc | apply pw_below_drewN | apply below_drew1) | exact HB.out)⟩
end Go.Proofs.YtafjlibcdlihcaaDoor.G
end
section
namespace Go.Proofs.YtafjlibcdlihcaaDoor.G
open Go.RowKit Go.Proofs.YtafjlibcdlihcaaDoorW.PrintWords Go.Proofs.YtafjlibcdlihcaaDoorW.PrintLast Go.Proofs.YtafjlibcdlihcaaDoorW.PrintMore
attribute [local go_sem] max2_int min2_int max_two min_two max_three min_three max_four min_four   -- for this text's walks alone
set_option linter.unusedVariables false
set_option linter.unusedSimpArgs false
def plainL (s : List UInt8) : List UInt8 := s.map fun c => if c = 42 ∨ c = 63 then 97 else c
def tree_plain.f (a0 : ByteArray) : Option ByteArray := if a0.size ≤ 140737488351232 then some ⟨(plainL a0.data.toList).toArray⟩ else none
theorem plainL_length (l : List UInt8) : (plainL l).length = l.length := by simp [plainL]
theorem plain_at_ (l : List UInt8) (k : Nat) (hk : k < l.length) : (((plainL (l.take k)) ++ l.drop k).map fun c => (c.toNat : Int)).getD k 0 = ((l[k]'hk).toNat : Int) := by
  have h1 : (plainL (l.take k)).length = k := by rw [plainL_length, List.length_take]; omega
  rw [List.getD_eq_getElem?_getD, List.getElem?_map, List.getElem?_append_right (by omega), h1]
  simp [hk]
theorem plain_len_ (l : List UInt8) (k : Nat) (hk : k ≤ l.length) : (((plainL (l.take k)) ++ l.drop k).map fun c => (c.toNat : Int)).length = l.length := by
  simp [plainL_length]
  omega
theorem plain_snoc_ (l : List UInt8) (c : UInt8) : plainL (l ++ [c]) = plainL l ++ [if c = 42 ∨ c = 63 then 97 else c] := by unfold plainL; rw [List.map_append]; rfl
theorem plain_keep_ (l : List UInt8) (k : Nat) (hk : k < l.length) (hc : ¬ (l[k]'hk = 42 ∨ l[k]'hk = 63)) : plainL (l.take k) ++ l.drop k = plainL (l.take (k + 1)) ++ l.drop (k + 1) := by
  rw [List.take_succ_eq_append_getElem hk, plain_snoc_, List.append_assoc, if_neg hc]
  rw [List.drop_eq_getElem_cons hk]
  rfl
theorem plain_set_ (l : List UInt8) (k : Nat) (hk : k < l.length) (hc : l[k]'hk = 42 ∨ l[k]'hk = 63) : ((plainL (l.take k) ++ l.drop k).map fun c => (c.toNat : Int)).set k 97 = (plainL (l.take (k + 1)) ++ l.drop (k + 1)).map fun c => (c.toNat : Int) := by
  have h1 : (plainL (l.take k)).length = k := by rw [plainL_length, List.length_take]; omega
  rw [List.take_succ_eq_append_getElem hk, plain_snoc_, List.append_assoc, if_pos hc]
  rw [List.drop_eq_getElem_cons hk, List.map_append, List.map_append]
  rw [List.set_append_right _ _ (by rw [List.length_map, h1]; exact Nat.le_refl _), List.length_map, h1, Nat.sub_self]
  rfl
theorem strOf_plain_ (l : List UInt8) : strOfNums ((plainL (l.take l.length) ++ l.drop l.length).map fun c => (c.toNat : Int)) = ⟨(plainL l).toArray⟩ := by
  simp [strOfNums, List.map_map, Function.comp_def]
set_option maxHeartbeats 2000000 in
set_option maxRecDepth 100000 in
theorem tree_plain.calls (a0 : ByteArray) (r : ByteArray) (w : World) (h : tree_plain.f a0 = some r) :
    Calls Tryd.prog 51 #[.string a0] w fun e w' => e = .returned (.string r) ∧ Below w.heap.size w w' := by
  unfold tree_plain.f at h
  by_cases hs : a0.size ≤ 140737488351232
  case neg => rw [if_neg hs] at h; exact absurd h (by simp)
  rw [if_pos hs] at h
  have hcv := fun w => Lib.run_convert_string_bytes (P := Tryd.prog) w 9 66 5 a0 Tryd.underlying9 Tryd.underlying66 Tryd.underlying5
  go_enter Tryd.func51, Tryd.ntmps51
  go_wp2
  have hr := Option.some.inj h
  have HS := Aside0.mk hr
  clear h hr hcv
  obtain ⟨wb, hwb⟩ : ∃ wb, wb = Lib.bytesWorld w 5 a0 := ⟨_, rfl⟩
  have HB0 := Aside0.mk (show Below w.heap.size w wb by rw [hwb]; exact bytesWorld_below_ _ _ _)
  have HR0 := Aside0.mk (show RowB 5 wb w.heap.size (a0.data.toList.map fun c => (c.toNat : Int)) by rw [hwb]; exact RowB.new _ _ _)
  rw [← hwb]
  clear hwb
  go_loopw [4, 5, 10] (fun v4 v5 v10 wr => ∃ (k : Nat) (xs : List Int), v10 = .int .i64 k ∧ Aside0 (k ≤ a0.size) ∧ Aside0 (xs = ((plainL (a0.data.toList.take k)) ++ a0.data.toList.drop k).map fun c => (c.toNat : Int)) ∧ Aside0 (RowB 5 wr w.heap.size xs) ∧ Aside0 (Below w.heap.size w wr)) (fun _ _ v10 _ => a0.size - (intOf v10).toNat)
  case atStart => exact ⟨0, _, rfl, ⟨Nat.zero_le _⟩, ⟨rfl⟩, HR0, HB0⟩
  case round =>
    clear HR0 HB0
    obtain ⟨k, xs, rfl, HK, HX, HR, HB⟩ := hrel
    have hsz : a0.data.toList.length = a0.size := by simp
    have HL := Aside0.mk (show xs.length = a0.size by rw [HX.out, plain_len_ _ _ (by rw [hsz]; exact HK.out), hsz])
    have HSZ := Aside0.mk hsz
    clear hsz
    by_cases hk : k < a0.size
    · have hc := HR.out.cell k (by rw [HL.out]; exact hk)
      have hfz := HR.out.frozen k (by rw [HL.out]; exact hk)
      have hkl : k < a0.data.toList.length := by rw [HSZ.out]; exact hk
      rw [HX.out, plain_at_ _ _ hkl] at hc
      obtain ⟨c, hcc⟩ : ∃ c : UInt8, a0.data.toList[k]'hkl = c := ⟨_, rfl⟩
      rw [hcc] at hc
      have HC := Aside0.mk hcc
      obtain ⟨n, hn⟩ : ∃ n : Nat, c.toNat = n := ⟨_, rfl⟩
      rw [hn] at hc
      have HN := Aside0.mk hn
      clear hcc hn
      by_cases t1 : n = 42
      · have t1b : ((n : Int) == 42) = true := by subst t1; rfl
        have HT : Aside0 (c = 42 ∨ c = 63) := ⟨.inl (by apply UInt8.toNat_inj.1; rw [HN.out, t1]; rfl)⟩
        clear t1
        go_wp2
        go_roundw
        case rel => exact ⟨k + 1, _, by go_num, ⟨hk⟩, ⟨by rw [HX.out]; exact plain_set_ _ _ hkl (by rw [HC.out]; exact HT.out)⟩, ⟨HR.out.set k 97⟩, ⟨Below.setCell HB.out (Nat.le_refl _) _⟩⟩
        case measure => simp [intOf]; omega
      · have t1b : ((n : Int) == 42) = false := by simp; omega
        by_cases t2 : n = 63
        · have t2b : ((n : Int) == 63) = true := by subst t2; rfl
          have HT : Aside0 (c = 42 ∨ c = 63) := ⟨.inr (by apply UInt8.toNat_inj.1; rw [HN.out, t2]; rfl)⟩
          clear t1 t2
          go_wp2
          go_roundw
          case rel => exact ⟨k + 1, _, by go_num, ⟨hk⟩, ⟨by rw [HX.out]; exact plain_set_ _ _ hkl (by rw [HC.out]; exact HT.out)⟩, ⟨HR.out.set k 97⟩, ⟨Below.setCell HB.out (Nat.le_refl _) _⟩⟩
          case measure => simp [intOf]; omega
        · have t2b : ((n : Int) == 63) = false := by simp; omega
          have HT : Aside0 (¬ (c = 42 ∨ c = 63)) := ⟨fun z => z.elim (fun z => t1 (by rw [← HN.out, z]; rfl)) (fun z => t2 (by rw [← HN.out, z]; rfl))⟩
          clear t1 t2
          go_wp2
          go_roundw
          case rel => exact ⟨k + 1, _, by go_num, ⟨hk⟩, ⟨by rw [HX.out, plain_keep_ _ _ hkl (by rw [HC.out]; exact HT.out)]⟩, HR, HB⟩
          case measure => simp [intOf]; omega
    · have hcv := run_convert_bytes_arg (P := Tryd.prog) wr 66 5 Tryd.underlying66 Tryd.underlying5 w.heap.size 0 a0.size (grownCap w a0.size 0 5) xs HL.out (fun i hi => by rw [Nat.zero_add]; exact HR.out.cell i (by rw [HL.out]; exact hi)) 9 Tryd.underlying9
      have hout : strOfNums xs = r := by
        have hkk : k = a0.data.toList.length := by rw [HSZ.out]; have := HK.out; omega
        rw [HX.out, hkk, strOf_plain_, HS.out]
      rw [hout] at hcv
      clear hout
      go_wp2
      go_ret
      exact ⟨rfl, HB.out⟩
end Go.Proofs.YtafjlibcdlihcaaDoor.G
end
section
namespace Go.Proofs.YtafjlibcdlihcaaDoor.G
open Go.RowKit Go.Proofs.YtafjlibcdlihcaaDoorW.PrintWords Go.Proofs.YtafjlibcdlihcaaDoorW.PrintLast Go.Proofs.YtafjlibcdlihcaaDoorW.PrintMore
attribute [local go_sem] max2_int min2_int max_two min_two max_three min_three max_four min_four   -- for this text's walks alone
set_option linter.unusedVariables false
set_option linter.unusedSimpArgs false
def tree_Pattern.l0 : Nat → List ByteArray → Int → Int → Option (Int)
  | 0, _, _, _ => none
  | k + 1, x9, x10, x11 => if x11 < x10 then (if 0 ≤ x11 then (if x11 < (x9.length : Int) then (if (rdOf ByteArray.empty x9 x11).toList = ([42, 42] : List UInt8) then (tree_Pattern.l0 k x9 x10 (wrap64 (x11 + 1))) else ((tree_plain.f (rdOf ByteArray.empty x9 x11)).bind fun t136 => ((tree_name.f t136).bind fun t137 => (if t137 = true then (tree_Pattern.l0 k x9 x10 (wrap64 (x11 + 1))) else (some 10))))) else (none)) else (none)) else (some 0)
def tree_Pattern.f (k : Nat) (a0 : ByteArray) : Option (Int) := if (a0.size : Int) > 200 then (some 4) else ((strings_Split.f a0 (⟨#[47]⟩ : ByteArray)).bind fun t132 => (tree_Pattern.l0 k t132 (t132.length : Int) 0))
theorem tree_Pattern.mono_l : ∀ k, (∀ y0 y1 y2, LeO (tree_Pattern.l0 k y0 y1 y2) (tree_Pattern.l0 (k + 1) y0 y1 y2))
  | 0 => fun _ _ _ r h => by simp [tree_Pattern.l0] at h
  | k + 1 => by
    have ih0 := tree_Pattern.mono_l k
    · intro y0 y1 y2
      unfold tree_Pattern.l0
      repeat' first
      | (with_reducible exact ih0 _ _ _)
      | (with_reducible exact LeO.refl _)
      | (with_reducible exact LeO.none _)
      | (with_reducible refine LeO.ite ?_ ?_)
      | (with_reducible refine LeO.bind ?_ (fun _ => ?_))
      | exact ih0 _ _ _
      | exact LeO.none _
      | refine LeO.ite ?_ ?_
      | refine LeO.bind ?_ (fun _ => ?_)
theorem tree_Pattern.mono : ∀ a0 k, LeO (tree_Pattern.f k a0) (tree_Pattern.f (k + 1) a0) := by
  intro a0 k
  have ih0 := tree_Pattern.mono_l k
  unfold tree_Pattern.f
  repeat' first
      | (with_reducible exact ih0 _ _ _)
      | (with_reducible exact LeO.refl _)
      | (with_reducible exact LeO.none _)
      | (with_reducible refine LeO.ite ?_ ?_)
      | (with_reducible refine LeO.bind ?_ (fun _ => ?_))
      | exact ih0 _ _ _
      | exact LeO.none _
      | refine LeO.ite ?_ ?_
      | refine LeO.bind ?_ (fun _ => ?_)
set_option maxHeartbeats 8000000 in
set_option maxRecDepth 100000 in
theorem tree_Pattern.calls (k : Nat) (a0 : ByteArray) (r : Int) (w : World) (h : tree_Pattern.f k a0 = some r) :
    Calls Tryd.prog 21 #[.string a0] w fun e w' => e = .returned (.int .i64 r) ∧ Below w.heap.size w w' := by
  have HB := Aside0.mk (Below.refl w.heap.size w)
  have H : (if (a0.size : Int) > 200 then (some 4) else ((strings_Split.f a0 (⟨#[47]⟩ : ByteArray)).bind fun t132 => (tree_Pattern.l0 k t132 (t132.length : Int) 0))) = some r := h
  clear h
  by_cases c2 : (a0.size : Int) > 200
  · rw [if_pos c2] at H
    have c2b0 : decide (200 < (a0.size : Int)) = true := decide_eq_true c2
    have c2b1 : decide (200 < a0.size) = true := decide_eq_true (by omega)
    clear c2
    obtain rfl := Option.some.inj H
    go_enter Tryd.func21, Tryd.ntmps21
    go_wp2
    go_ret
    exact ⟨by first | rfl | (simp [errW_none, errW_some] <;> rfl) | (simp [*, errW_none, errW_some] <;> rfl), by repeat (first | (with_reducible first | exact HB.out | apply below_alloc | apply pw_below_drewN | apply below_drew1) | exact HB.out)⟩
  · rw [if_neg c2] at H
    have c2b0 : decide (200 < (a0.size : Int)) = false := decide_eq_false c2
    have c2b1 : decide (200 < a0.size) = false := decide_eq_false (by omega)
    clear c2
    replace H := Option.bind_eq_some_iff.mp H
    obtain ⟨t132, A30, H⟩ := H
    replace H : (tree_Pattern.l0 k t132 (t132.length : Int) 0) = some r := H
    have A3 := Aside0.mk A30
    clear A30
    have H' := Aside0.mk H
    clear H
    go_enter Tryd.func21, Tryd.ntmps21
    go_wp2_with (first | ((with_reducible refine gate_callee (f := 44) rfl ?_); refine goesL_ (some 9) rfl rfl Tryd.func44 (by kernel_rfl) rfl #[.string a0, .string (⟨#[47]⟩ : ByteArray)] rfl (by (try simp only [List.map_toArray, List.map_cons, List.map_nil]); first | done | rfl | (simp only [List.length_drop, List.length_take]; rfl)) ?_; (with_reducible refine (strings_Split.calls a0 (⟨#[47]⟩ : ByteArray) t132 _ A3.out).mono ?_); rintro e w4 ⟨v133, rfl, ho0, hb⟩; refine ⟨_, rfl, ?_⟩; have n0_ := Aside0.mk (Kd.R_lower ho0 (below_size (by repeat (first | (with_reducible first | exact HB.out | apply below_alloc | apply pw_below_drewN | apply below_drew1) | exact HB.out)))); have n1_ := Aside0.mk (below_step (by repeat (first | (with_reducible first | exact HB.out | apply below_alloc | apply pw_below_drewN | apply below_drew1) | exact HB.out)) hb); clear HB; have HO134 := n0_; have HB := n1_; clear n0_ n1_; (try clear hb); (try clear hb2); (try clear hk); (try clear hi); (try clear ho0); obtain ⟨Ao5, co5, eo5⟩ := Kd.R_slice HO134.out; subst eo5))
    go_loopg [11] k (fun kq v11 w' => ∃ (x11_1 : Int), v11 = .int .i64 x11_1 ∧ Aside0 (tree_Pattern.l0 kq t132 (t132.length : Int) x11_1 = some r) ∧ Aside0 (kq ≤ k) ∧ Aside0 (Kd.R Kd.string 9 w' w.heap.size (fun _ => True) (.slice Ao5 t132.length co5) t132) ∧ Aside0 (Below w.heap.size w w'))
    case atStart => exact ⟨(0), (by first | rfl | (simp; done) | (simp [*]; done)), H', ⟨Nat.le_refl _⟩, ⟨by (with_reducible repeat (first | apply Kd.R_alloc | apply Kd.R_drewN | apply Kd.R_drew)); exact HO134.out⟩, ⟨by repeat (first | (with_reducible first | exact HB.out | apply below_alloc | apply pw_below_drewN | apply below_drew1) | exact HB.out)⟩⟩
    case round =>
      clear H'
      try clear c2
      try clear c2b0
      try clear c2b1
      try clear p2
      try clear c4
      obtain ⟨x11_1, rfl, HA, HK1, HO_9, HB⟩ := hrel
      cases gk with
      | zero => exact absurd HA.out (by simp [tree_Pattern.l0])
      | succ k1 =>
        have H := HA.out
        clear HA
        simp only [tree_Pattern.l0] at H
        by_cases c6 : x11_1 < (t132.length : Int)
        · rw [if_pos c6] at H
          have c6b0 : decide (x11_1 < (t132.length : Int)) = true := decide_eq_true c6
          clear c6
          by_cases c7 : 0 ≤ x11_1
          · rw [if_pos c7] at H
            have c7b0 : decide (0 ≤ x11_1) = true := decide_eq_true c7
            clear c7
            by_cases c8 : x11_1 < (t132.length : Int)
            · rw [if_pos c8] at H
              have c8b0 : decide (x11_1 < (t132.length : Int)) = true := decide_eq_true c8
              clear c8
              by_cases c9 : (rdOf ByteArray.empty t132 x11_1).toList = ([42, 42] : List UInt8)
              · rw [if_pos c9] at H
                have c9b0 : ((rdOf ByteArray.empty t132 x11_1).toList == ([42, 42] : List UInt8)) = true := beq_iff_eq.mpr c9
                have c9b1 : ((rdOf ByteArray.empty t132 x11_1).toList != ([42, 42] : List UInt8)) = false := bne_eq_false_iff_eq.mpr c9
                clear c9
                have H' := Aside0.mk H
                clear H
                have p135 : 0 ≤ (x11_1 : Int) := of_decide_eq_true (by first | (with_reducible assumption) | assumption)
                have q135 : x11_1 < (t132.length : Int) := of_decide_eq_true (by first | (with_reducible assumption) | assumption)
                obtain ⟨ad135, e135, hx135_0⟩ := Kd.at_string (Kd.R_reads' HO_9.out).2.2 x11_1 p135 q135
                cases e135
                replace p135 := eq_true p135
                replace q135 := eq_true q135
                go_wp2
                go_roundg k1
                case measure => have := HK1.out; omega
                case rel => exact ⟨(wrap64 (x11_1 + 1)), (by first | rfl | (simp; done) | (simp [*]; done)), H', ⟨by have := HK1.out; omega⟩, ⟨by (with_reducible repeat (first | apply Kd.R_alloc | apply Kd.R_drewN | apply Kd.R_drew)); exact HO_9.out⟩, ⟨by repeat (first | (with_reducible first | exact HB.out | apply below_alloc | apply pw_below_drewN | apply below_drew1) | exact HB.out)⟩⟩
              · rw [if_neg c9] at H
                have c9b0 : ((rdOf ByteArray.empty t132 x11_1).toList == ([42, 42] : List UInt8)) = false := beq_eq_false_iff_ne.mpr c9
                have c9b1 : ((rdOf ByteArray.empty t132 x11_1).toList != ([42, 42] : List UInt8)) = true := bne_iff_ne.mpr c9
                replace H := Option.bind_eq_some_iff.mp H
                obtain ⟨t136, A100, H⟩ := H
                replace H : ((tree_name.f t136).bind fun t137 => (if t137 = true then (tree_Pattern.l0 k1 t132 (t132.length : Int) (wrap64 (x11_1 + 1))) else (some 10))) = some r := H
                have A10 := Aside0.mk A100
                clear A100
                replace H := Option.bind_eq_some_iff.mp H
                obtain ⟨t137, A110, H⟩ := H
                replace H : (if t137 = true then (tree_Pattern.l0 k1 t132 (t132.length : Int) (wrap64 (x11_1 + 1))) else (some 10)) = some r := H
                have A11 := Aside0.mk A110
                clear A110
                by_cases c12 : t137 = true
                · subst c12
                  have H1 : (tree_Pattern.l0 k1 t132 (t132.length : Int) (wrap64 (x11_1 + 1))) = some r := by rw [if_pos rfl] at H; exact H
                  clear H
                  have H := H1
                  clear H1
                  have H' := Aside0.mk H
                  clear H
                  have p135 : 0 ≤ (x11_1 : Int) := of_decide_eq_true (by first | (with_reducible assumption) | assumption)
                  have q135 : x11_1 < (t132.length : Int) := of_decide_eq_true (by first | (with_reducible assumption) | assumption)
                  obtain ⟨ad135, e135, hx135_0⟩ := Kd.at_string (Kd.R_reads' HO_9.out).2.2 x11_1 p135 q135
                  cases e135
                  replace p135 := eq_true p135
                  replace q135 := eq_true q135
                  go_wp2_with (first | (go_at_call 51; (with_reducible refine (tree_plain.calls (rdOf ByteArray.empty t132 x11_1) t136 _ A10.out).mono ?_); rintro e w13 ⟨rfl, hb⟩; have n0_ := Aside0.mk (Kd.R_below (by (with_reducible repeat (first | apply Kd.R_alloc | apply Kd.R_drewN | apply Kd.R_drew)); exact HO_9.out) hb); have n1_ := Aside0.mk (below_step (by repeat (first | (with_reducible first | exact HB.out | apply below_alloc | apply pw_below_drewN | apply below_drew1) | exact HB.out)) hb); clear HO_9; clear HB; have HO_9 := n0_; have HB := n1_; clear n0_ n1_; (try clear hb); (try clear hb2); (try clear hk); (try clear hi)) | (go_at_call 45; (with_reducible refine (tree_name.calls t136 true _ A11.out).mono ?_); rintro e w14 ⟨rfl, hb⟩; have n0_ := Aside0.mk (Kd.R_below (by (with_reducible repeat (first | apply Kd.R_alloc | apply Kd.R_drewN | apply Kd.R_drew)); exact HO_9.out) hb); have n1_ := Aside0.mk (below_step (by repeat (first | (with_reducible first | exact HB.out | apply below_alloc | apply pw_below_drewN | apply below_drew1) | exact HB.out)) hb); clear HO_9; clear HB; have HO_9 := n0_; have HB := n1_; clear n0_ n1_; (try clear hb); (try clear hb2); (try clear hk); (try clear hi)))
                  go_roundg k1
                  case measure => have := HK1.out; omega
                  case rel => exact ⟨(wrap64 (x11_1 + 1)), (by first | rfl | (simp; done) | (simp [*]; done)), H', ⟨by have := HK1.out; omega⟩, ⟨by (with_reducible repeat (first | apply Kd.R_alloc | apply Kd.R_drewN | apply Kd.R_drew)); exact HO_9.out⟩, ⟨by repeat (first | (with_reducible first | exact HB.out | apply below_alloc | apply pw_below_drewN | apply below_drew1) | exact HB.out)⟩⟩
                · replace c12 := Bool.eq_false_iff.mpr c12
                  subst c12
                  have H1 : (some 10) = some r := by rw [if_neg (show ¬ (false = true) by decide)] at H; exact H
                  clear H
                  have H := H1
                  clear H1
                  obtain rfl := Option.some.inj H
                  have p135 : 0 ≤ (x11_1 : Int) := of_decide_eq_true (by first | (with_reducible assumption) | assumption)
                  have q135 : x11_1 < (t132.length : Int) := of_decide_eq_true (by first | (with_reducible assumption) | assumption)
                  obtain ⟨ad135, e135, hx135_0⟩ := Kd.at_string (Kd.R_reads' HO_9.out).2.2 x11_1 p135 q135
                  cases e135
                  replace p135 := eq_true p135
                  replace q135 := eq_true q135
                  go_wp2_with (first | (go_at_call 51; (with_reducible refine (tree_plain.calls (rdOf ByteArray.empty t132 x11_1) t136 _ A10.out).mono ?_); rintro e w15 ⟨rfl, hb⟩; have n0_ := Aside0.mk (Kd.R_below (by (with_reducible repeat (first | apply Kd.R_alloc | apply Kd.R_drewN | apply Kd.R_drew)); exact HO_9.out) hb); have n1_ := Aside0.mk (below_step (by repeat (first | (with_reducible first | exact HB.out | apply below_alloc | apply pw_below_drewN | apply below_drew1) | exact HB.out)) hb); clear HO_9; clear HB; have HO_9 := n0_; have HB := n1_; clear n0_ n1_; (try clear hb); (try clear hb2); (try clear hk); (try clear hi)) | (go_at_call 45; (with_reducible refine (tree_name.calls t136 false _ A11.out).mono ?_); rintro e w16 ⟨rfl, hb⟩; have n0_ := Aside0.mk (Kd.R_below (by (with_reducible repeat (first | apply Kd.R_alloc | apply Kd.R_drewN | apply Kd.R_drew)); exact HO_9.out) hb); have n1_ := Aside0.mk (below_step (by repeat (first | (with_reducible first | exact HB.out | apply below_alloc | apply pw_below_drewN | apply below_drew1) | exact HB.out)) hb); clear HO_9; clear HB; have HO_9 := n0_; have HB := n1_; clear n0_ n1_; (try clear hb); (try clear hb2); (try clear hk); (try clear hi)))
                  go_ret
                  exact ⟨by first | rfl | (simp [errW_none, errW_some] <;> rfl) | (simp [*, errW_none, errW_some] <;> rfl), by repeat (first | (with_reducible first | exact HB.out | apply below_alloc | apply pw_below_drewN | apply below_drew1) | exact HB.out)⟩
            · rw [if_neg c8] at H
              exact absurd H (by simp)
          · rw [if_neg c7] at H
            exact absurd H (by simp)
        · rw [if_neg c6] at H
          have c6b0 : decide (x11_1 < (t132.length : Int)) = false := decide_eq_false c6
          clear c6
          obtain rfl := Option.some.inj H
          go_wp2
          go_ret
          exact ⟨by first | rfl | (simp [errW_none, errW_some] <;> rfl) | (simp [*, errW_none, errW_some] <;> rfl), by repeat (first | (with_reducible first | exact HB.out | apply below_alloc | apply pw_below_drewN | apply below_drew1) | exact HB.out)⟩
end Go.Proofs.YtafjlibcdlihcaaDoor.G
end
