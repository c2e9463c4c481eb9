/- Walks of functions of the program: what each call answers. Written by a program of this session out of the translation. No condition. -/
import Derived.Test.YtafjlibcdlihcaaDoorG0
namespace Go.Proofs.YtafjlibcdlihcaaDoor.G
open Go.RowKit Go.Proofs.YtafjlibcdlihcaaDoorW.PrintWords Go.Proofs.YtafjlibcdlihcaaDoorW.PrintLast Go.Proofs.YtafjlibcdlihcaaDoorW.PrintMore
attribute [local go_sem] max2_int min2_int max_two min_two max_three min_three max_four min_four   -- for this text's walks alone
set_option linter.unusedVariables false
set_option linter.unusedSimpArgs false

/-! ### strings_Split: function 44 -/
/-- What a text falls into at each slash. -/
def splitSlash : List UInt8 → List UInt8 → List (List UInt8)
  | acc, [] => [acc]
  | acc, c :: s => if c = 47 then acc :: splitSlash [] s else splitSlash (acc ++ [c]) s
def names_ (s : ByteArray) : List ByteArray := (splitSlash [] s.data.toList).map fun l => ⟨l.toArray⟩
theorem splitSlash_miss : ∀ (l acc : List UInt8), 47 ∉ l → splitSlash acc l = [acc ++ l]
  | [], acc, _ => by simp [splitSlash]
  | c :: l, acc, h => by
    have hc : c ≠ 47 := fun e => h (by simp [e])
    rw [splitSlash, if_neg hc, splitSlash_miss l _ (fun e => h (by simp [e]))]
    simp
theorem splitSlash_hit : ∀ (a b acc : List UInt8), 47 ∉ a → splitSlash acc (a ++ 47 :: b) = (acc ++ a) :: splitSlash [] b
  | [], b, acc, _ => by simp [splitSlash]
  | c :: a, b, acc, h => by
    have hc : c ≠ 47 := fun e => h (by simp [e])
    rw [List.cons_append, splitSlash, if_neg hc, splitSlash_hit a b _ (fun e => h (by simp [e]))]
    simp
theorem mem_first_ : ∀ (l : List UInt8), 47 ∈ l → ∃ a b, l = a ++ 47 :: b ∧ 47 ∉ a
  | [], h => by cases h
  | c :: l, h => by
    by_cases hc : c = 47
    · exact ⟨[], l, by rw [hc]; rfl, by simp⟩
    · obtain ⟨a, b, rfl, ha⟩ := mem_first_ l (by rcases List.mem_cons.1 h with e | e; exact absurd e.symm hc; exact e)
      exact ⟨c :: a, b, rfl, fun e => by rcases List.mem_cons.1 e with e | e; exact hc e.symm; exact ha e⟩
theorem splitSlash_length : ∀ (l acc : List UInt8), (splitSlash acc l).length ≤ l.length + 1
  | [], acc => by simp [splitSlash]
  | c :: l, acc => by
    unfold splitSlash
    split
    · have := splitSlash_length l []
      simp only [List.length_cons]; omega
    · have := splitSlash_length l (acc ++ [c])
      simp only [List.length_cons]; omega
theorem names_length_ (s : ByteArray) : (names_ s).length ≤ s.size + 1 := by
  have := splitSlash_length s.data.toList []
  unfold names_
  rw [List.length_map]
  simpa using this
theorem indexByte_miss_ : ∀ (l : List UInt8) (c : UInt8), c ∉ l → Lib.indexByte l c = -1
  | [], _, _ => rfl
  | b :: l, c, h => by
    have hb : (b == c) = false := by
      rw [beq_eq_false_iff_ne]
      exact fun e => h (by simp [e])
    rw [Lib.indexByte, hb, indexByte_miss_ l c (fun e => h (by simp [e]))]
    rfl
theorem indexByte_hit_ : ∀ (a b : List UInt8) (c : UInt8), c ∉ a → Lib.indexByte (a ++ c :: b) c = a.length
  | [], b, c, _ => by simp [Lib.indexByte]
  | d :: a, b, c, h => by
    have hb : (d == c) = false := by
      rw [beq_eq_false_iff_ne]
      exact fun e => h (by simp [e])
    rw [List.cons_append, Lib.indexByte, hb, indexByte_hit_ a b c (fun e => h (by simp [e]))]
    have : ((a.length : Int) == -1) = false := by rw [beq_eq_false_iff_ne]; omega
    rw [this]
    simp
theorem splitK_slash_ : ∀ (n : Nat) (l : List UInt8), l.length ≤ n → Lib.splitK [47] 0 (l.count 47) l = splitSlash [] l := by
  intro n
  induction n with
  | zero =>
    intro l h
    have : l = [] := List.eq_nil_of_length_eq_zero (by omega)
    subst this
    rfl
  | succ n ih =>
    intro l h
    by_cases hm : 47 ∈ l
    · obtain ⟨a, b, rfl, ha⟩ := mem_first_ l hm
      rw [splitSlash_hit a b [] ha]
      have hc : (a ++ 47 :: b).count 47 = b.count 47 + 1 := by
        rw [List.count_append, List.count_eq_zero.2 ha, List.count_cons_self]
        omega
      rw [hc, Lib.splitK, Lib.index_one, indexByte_hit_ a b 47 ha]
      have : ((a.length : Int) == -1) = false := by rw [beq_eq_false_iff_ne]; omega
      rw [this]
      simp only [Bool.false_eq_true, if_false]
      have h1 : ((a.length : Int)).toNat + 0 = a.length := by omega
      have h2 : ((a.length : Int)).toNat + ([47] : List UInt8).length = (a ++ [47]).length := by simp
      rw [h1, h2, List.take_left, show a ++ 47 :: b = (a ++ [47]) ++ b by simp, List.drop_left]
      rw [ih b (by simp at h; omega)]
      rfl
    · rw [splitSlash_miss l [] hm, List.count_eq_zero.2 hm]
      rfl
theorem split_names_ (s : ByteArray) : Lib.splitB ⟨#[47]⟩ 0 (Lib.countB s ⟨#[47]⟩) s = names_ s := by
  have h := Lib.splitB_data ⟨#[47]⟩ 0 (Lib.countB s ⟨#[47]⟩) s
  have hc : Lib.countB s ⟨#[47]⟩ = s.data.toList.count 47 := Lib.count_one 47 s.data.toList
  have hk : (Lib.splitB ⟨#[47]⟩ 0 (Lib.countB s ⟨#[47]⟩) s).map (·.data.toList) = splitSlash [] s.data.toList := by
    rw [h, hc]
    exact splitK_slash_ _ _ (Nat.le_refl _)
  unfold names_
  rw [← hk, List.map_map]
  exact (List.map_id'' (fun x => by cases x; rfl) _).symm
def strings_Split.f (a0 a1 : ByteArray) : Option (List ByteArray) := if a1.data.toList = [47] ∧ a0.size < 4294967281 then some (names_ a0) else none
set_option maxHeartbeats 2000000 in
set_option maxRecDepth 100000 in
theorem split_walk_ (s : ByteArray) (w : World) (hs : s.size < 4294967281) :
    Calls Tryd.prog 44 #[.string s, .string ⟨#[47]⟩] w fun e w' => e = .returned (.slice (some ⟨w.heap.size, 0, none⟩) (names_ s).length (names_ s).length) ∧ w' = w.alloc (.cells ((names_ s).map Value.string).toArray 9) := by
  have hle := Lib.countB_le ⟨#[47]⟩ (Nat.le_refl _) s.size s (Nat.le_refl _)
  have hlen := Lib.splitB_all ⟨#[47]⟩ (Nat.le_refl _) 0 _ s rfl
  have c := Any.strings_genSplit_core Tryd.lays221 (by kernel_rfl) s ⟨#[47]⟩ 0 (-1) (Lib.countB s ⟨#[47]⟩ + 1) w hs (Nat.le_refl _) (Nat.zero_le _)
    (fun x c hx => (Tryd.strings_Index_one x 47 _).mono fun e w' ⟨he, hw⟩ => ⟨by rw [he]; show _ = Ending.returned (.int .i64 (Lib.index x.data.toList [47])); rw [Lib.index_one], hw⟩)
    ((Tryd.strings_Count_one s 47 w).mono fun e w' ⟨he, hw⟩ => ⟨by rw [he]; show _ = Ending.returned (.int .i64 ((Lib.count s.data.toList [47] : Nat) : Int)); rw [Lib.count_one]; rfl, hw⟩)
    (by decide) (by decide) (by rw [if_pos (by decide)]; omega)
  rw [Nat.add_sub_cancel, hlen] at c
  have e2 : Lib.cellsOf (Lib.splitB ⟨#[47]⟩ 0 (Lib.countB s ⟨#[47]⟩) s) (Lib.countB s ⟨#[47]⟩ + 1) = ((Lib.splitB ⟨#[47]⟩ 0 (Lib.countB s ⟨#[47]⟩) s).map Value.string).toArray := by rw [← hlen]; exact Lib.cellsOf_full _
  rw [e2, ← hlen, split_names_] at c
  clear e2 hlen hle
  obtain ⟨n, hn⟩ : ∃ n, (names_ s).length = n := ⟨_, rfl⟩
  obtain ⟨cs, hcs⟩ : ∃ cs, ((names_ s).map Value.string).toArray = cs := ⟨_, rfl⟩
  rw [hn, hcs] at c ⊢
  clear hn hcs
  have c' : Calls Tryd.prog 85 #[.string s, .string ⟨#[47]⟩, .int .i64 0, .int .i64 (-1)] w fun e w' => e = .returned (.slice (some ⟨w.heap.size, 0, none⟩) n n) ∧ w' = w.alloc (.cells cs 9) := c
  clear c
  go_enter Tryd.func44, Tryd.ntmps44
  go_wp2_with (go_at_call 85; refine c'.mono ?_; rintro e w' ⟨rfl, hw⟩; rw [hw])
  go_ret
  exact ⟨rfl, rfl⟩
theorem strings_Split.calls (a0 a1 : ByteArray) (r : List ByteArray) (w : World) (h : strings_Split.f a0 a1 = some r) :
    Calls Tryd.prog 44 #[.string a0, .string a1] w fun e w' => ∃ v0_ : Value, e = .returned (v0_) ∧ Kd.R Kd.string 9 w' w.heap.size (fun _ => True) v0_ r ∧ Below w.heap.size w w' := by
  unfold strings_Split.f at h
  by_cases hs : a1.data.toList = [47] ∧ a0.size < 4294967281
  case neg => rw [if_neg hs] at h; exact absurd h (by simp)
  rw [if_pos hs] at h
  obtain rfl := Option.some.inj h
  obtain rfl : a1 = ⟨#[47]⟩ := by
    obtain ⟨⟨l⟩⟩ := a1
    have := hs.1
    simp at this
    subst this
    rfl
  refine (split_walk_ a0 w hs.2).mono ?_
  rintro e w' ⟨rfl, rfl⟩
  refine ⟨_, rfl, ?_, below_alloc (Below.refl _ _) _⟩
  refine Kd.R_of_own (enc := Value.string) (h1 := fun _ => rfl) ⟨by simp [encs], .inr ⟨w.heap.size, _, _, rfl, Nat.le_refl _, by simpa using heap_alloc_new w _, Nat.le_refl _, by have := names_length_ a0; have := hs.2; unfold maxLen; omega, by simp, ?_⟩⟩ (fun _ _ => trivial)
  rw [encs, Nat.mul_one, List.take_of_length_le (by simp)]

end Go.Proofs.YtafjlibcdlihcaaDoor.G
