/- Walks of functions of the program: what each call answers. Written by a program of this session out of the translation. No condition. -/
import Derived.Test.YtafjlibcdlihcaaDoorG0
namespace Go.Proofs.YtafjlibcdlihcaaDoor.G
open Go.RowKit Go.Proofs.YtafjlibcdlihcaaDoorW.PrintWords Go.Proofs.YtafjlibcdlihcaaDoorW.PrintLast Go.Proofs.YtafjlibcdlihcaaDoorW.PrintMore
attribute [local go_sem] max2_int min2_int max_two min_two max_three min_three max_four min_four   -- for this text's walks alone
set_option linter.unusedVariables false
set_option linter.unusedSimpArgs false

/-! ### tree_name: function 45 -/
/-- May a name be? -/
def nameB (s : List UInt8) : Bool := !s.isEmpty && !(s == [46]) && !(s == [46, 46]) && decide (s.length ≤ 32) && s.all (fun c => decide (33 ≤ c.toNat) && decide (c.toNat ≤ 126))
def tree_name.f (a0 : ByteArray) : Option Bool := some (nameB a0.data.toList)
theorem iter_below_ (w : World) (s : ByteArray) (pos : Nat) : Below w.heap.size w (w.iter s pos) := below_alloc (Below.refl _ _) _
theorem all_take_succ_ (s : ByteArray) (pos : Nat) (h : pos < s.size) (p : UInt8 → Bool) (h1 : (s.data.toList.take pos).all p = true) (h2 : p (s[pos]'h) = true) : (s.data.toList.take (pos + 1)).all p = true := by
  rw [List.take_succ_eq_append_getElem (by simpa using h), List.all_append, h1]
  simp only [List.all_cons, List.all_nil, Bool.and_true, Bool.true_and]
  exact h2
theorem all_false_ (s : ByteArray) (pos : Nat) (h : pos < s.size) (p : UInt8 → Bool) (h2 : p (s[pos]'h) = false) : s.data.toList.all p = false := by
  rw [List.all_eq_false]
  refine ⟨s[pos]'h, ?_, by simp [h2]⟩
  have : s.data.toList[pos]'(by simpa using h) = s[pos]'h := rfl
  rw [← this]
  exact List.getElem_mem _
set_option maxHeartbeats 2000000 in
set_option maxRecDepth 100000 in
theorem tree_name.calls (a0 : ByteArray) (r : Bool) (w : World) (h : tree_name.f a0 = some r) :
    Calls Tryd.prog 45 #[.string a0] w fun e w' => e = .returned (.bool r) ∧ Below w.heap.size w w' := by
  have h := Option.some.inj h
  have hsz : a0.data.toList.length = a0.size := by simp
  by_cases c1 : a0.data.toList = []
  · have d1 : a0.toList.isEmpty = true := by rw [toList_data_, c1]; rfl
    have hr : r = false := by rw [← h, nameB, c1]; rfl
    subst hr; clear h c1 hsz
    go_enter Tryd.func45, Tryd.ntmps45
    go_wp2
    go_ret
    exact ⟨rfl, Below.refl _ _⟩
  have d1 : a0.toList.isEmpty = false := by rw [toList_data_]; simpa using c1
  by_cases c2 : a0.data.toList = [46]
  · have d2 : (a0.toList == [46]) = true := by rw [toList_data_, c2]; rfl
    have hr : r = false := by rw [← h, nameB, c2]; rfl
    subst hr; clear h c1 c2 hsz
    go_enter Tryd.func45, Tryd.ntmps45
    go_wp2
    go_ret
    exact ⟨rfl, Below.refl _ _⟩
  have d2 : (a0.toList == [46]) = false := by rw [toList_data_]; simpa using c2
  by_cases c3 : a0.data.toList = [46, 46]
  · have d3 : (a0.toList == [46, 46]) = true := by rw [toList_data_, c3]; rfl
    have hr : r = false := by rw [← h, nameB, c3]; rfl
    subst hr; clear h c1 c2 c3 hsz
    go_enter Tryd.func45, Tryd.ntmps45
    go_wp2
    go_ret
    exact ⟨rfl, Below.refl _ _⟩
  have d3 : (a0.toList == [46, 46]) = false := by rw [toList_data_]; simpa using c3
  by_cases c4 : 32 < a0.size
  · have hr : r = false := by rw [← h, nameB, hsz, decide_eq_false (by omega)]; simp
    have d4 : (32 : Int) < (a0.size : Int) := by omega
    subst hr; clear h c1 c2 c3 hsz
    go_enter Tryd.func45, Tryd.ntmps45
    go_wp2
    go_ret
    exact ⟨rfl, Below.refl _ _⟩
  have hr : a0.data.toList.all (fun c => decide (33 ≤ c.toNat) && decide (c.toNat ≤ 126)) = r := by
    rw [toList_data_] at d1 d2 d3
    rw [← h, nameB, hsz, decide_eq_true (by omega), d1, d2, d3]
    rfl
  have d4 : ¬ (32 : Int) < (a0.size : Int) := by omega
  have HR := Aside0.mk hr
  clear h c1 c2 c3 hsz hr
  go_enter Tryd.func45, Tryd.ntmps45
  go_wp2
  go_loopw [4] (fun v3 w' => ∃ (pos : Nat), w' = w.iter a0 pos ∧ Aside0 (pos ≤ a0.size ∧ (a0.data.toList.take pos).all (fun c => decide (33 ≤ c.toNat) && decide (c.toNat ≤ 126)) = true)) (fun _ w' => a0.size - w'.iterPos w.heap.size)
  case atStart => exact ⟨0, rfl, ⟨⟨Nat.zero_le _, rfl⟩⟩⟩
  case round =>
    obtain ⟨pos, rfl, HA⟩ := hrel
    by_cases hp : pos < a0.size
    · by_cases ha : (a0[pos]'hp).toNat < 128
      · have hnx : ∀ ty, (Instr.next (.pointer (some ⟨w.heap.size, 0, none⟩)) true ty).run Tryd.prog (w.iter a0 pos) = _ := fun ty => run_next_ascii w a0 pos ty hp ha
        obtain ⟨c, hc⟩ : ∃ c : Nat, (a0[pos]'hp).toNat = c := ⟨_, rfl⟩
        simp only [hc] at hnx ha
        have HC := Aside0.mk hc
        clear hc
        by_cases g1 : c < 33
        · have g1' : ((c : Int) < 33) := by omega
          go_wp2
          go_ret
          obtain rfl : false = r := by rw [← HR.out, all_false_ a0 pos hp _ (by rw [HC.out]; simp; omega)]
          exact ⟨rfl, iter_below_ _ _ _⟩
        · by_cases g2 : 126 < c
          · have g1' : ¬ ((c : Int) < 33) := by omega
            have g2' : ((126 : Int) < c) := by omega
            go_wp2
            go_ret
            obtain rfl : false = r := by rw [← HR.out, all_false_ a0 pos hp _ (by rw [HC.out]; simp; omega)]
            exact ⟨rfl, iter_below_ _ _ _⟩
          · have g1' : ¬ ((c : Int) < 33) := by omega
            have g2' : ¬ ((126 : Int) < c) := by omega
            go_wp2
            go_roundw
            case rel => exact ⟨pos + 1, rfl, ⟨⟨hp, all_take_succ_ a0 pos hp _ HA.out.2 (by rw [HC.out]; simp; omega)⟩⟩⟩
            case measure =>
              simp
              omega
      · have hd := decode_high a0 pos hp (by omega)
        have hnx : ∀ ty, (Instr.next (.pointer (some ⟨w.heap.size, 0, none⟩)) true ty).run Tryd.prog (w.iter a0 pos) = _ := fun ty => run_next_any w a0 pos ty hp
        obtain ⟨c, hc⟩ : ∃ c : Nat, (Utf8.decode a0 pos).1 = c := ⟨_, rfl⟩
        obtain ⟨c2, hc2⟩ : ∃ c : Nat, (Utf8.decode a0 pos).2 = c := ⟨_, rfl⟩
        simp only [hc, hc2] at hnx hd
        have HC := Aside0.mk ha
        clear hc hc2 ha
        have g1' : ¬ ((c : Int) < 33) := by omega
        have g2' : ((126 : Int) < c) := by omega
        go_wp2
        go_ret
        obtain rfl : false = r := by rw [← HR.out, all_false_ a0 pos hp _ (by have := HC.out; simp; omega)]
        exact ⟨rfl, iter_below_ _ _ _⟩
    · have hnx : ∀ ty, (Instr.next (.pointer (some ⟨w.heap.size, 0, none⟩)) true ty).run Tryd.prog (w.iter a0 pos) = _ := fun ty => run_next_end w a0 pos ty hp
      go_wp2
      go_ret
      have h1 := HA.out
      rw [List.take_of_length_le (by simp; omega)] at h1
      obtain rfl : true = r := by rw [← HR.out, h1.2]
      exact ⟨rfl, iter_below_ _ _ _⟩

end Go.Proofs.YtafjlibcdlihcaaDoor.G
