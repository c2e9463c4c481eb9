/- Walks of functions of the program: what each call answers. Written by a program of this session out of the translation. No condition. -/
import Derived.Test.YtafjlibcdlihcaaDoorG0
namespace Go.Proofs.YtafjlibcdlihcaaDoor.G
open Go.RowKit Go.Proofs.YtafjlibcdlihcaaDoorW.PrintWords Go.Proofs.YtafjlibcdlihcaaDoorW.PrintLast Go.Proofs.YtafjlibcdlihcaaDoorW.PrintMore
attribute [local go_sem] max2_int min2_int max_two min_two max_three min_three max_four min_four   -- for this text's walks alone
set_option linter.unusedVariables false
set_option linter.unusedSimpArgs false

/-! ### tree_plain: function 51 -/
def plainL (s : List UInt8) : List UInt8 := s.map fun c => if c = 42 ∨ c = 63 then 97 else c
def tree_plain.f (a0 : ByteArray) : Option ByteArray := if a0.size ≤ 140737488351232 then some ⟨(plainL a0.data.toList).toArray⟩ else none
theorem plainL_length (l : List UInt8) : (plainL l).length = l.length := by simp [plainL]
theorem plain_at_ (l : List UInt8) (k : Nat) (hk : k < l.length) : (((plainL (l.take k)) ++ l.drop k).map fun c => (c.toNat : Int)).getD k 0 = ((l[k]'hk).toNat : Int) := by
  have h1 : (plainL (l.take k)).length = k := by rw [plainL_length, List.length_take]; omega
  rw [List.getD_eq_getElem?_getD, List.getElem?_map, List.getElem?_append_right (by omega), h1]
  simp [hk]
theorem plain_len_ (l : List UInt8) (k : Nat) (hk : k ≤ l.length) : (((plainL (l.take k)) ++ l.drop k).map fun c => (c.toNat : Int)).length = l.length := by
  simp [plainL_length]
  omega
theorem plain_snoc_ (l : List UInt8) (c : UInt8) : plainL (l ++ [c]) = plainL l ++ [if c = 42 ∨ c = 63 then 97 else c] := by unfold plainL; rw [List.map_append]; rfl
theorem plain_keep_ (l : List UInt8) (k : Nat) (hk : k < l.length) (hc : ¬ (l[k]'hk = 42 ∨ l[k]'hk = 63)) : plainL (l.take k) ++ l.drop k = plainL (l.take (k + 1)) ++ l.drop (k + 1) := by
  rw [List.take_succ_eq_append_getElem hk, plain_snoc_, List.append_assoc, if_neg hc]
  rw [List.drop_eq_getElem_cons hk]
  rfl
theorem plain_set_ (l : List UInt8) (k : Nat) (hk : k < l.length) (hc : l[k]'hk = 42 ∨ l[k]'hk = 63) : ((plainL (l.take k) ++ l.drop k).map fun c => (c.toNat : Int)).set k 97 = (plainL (l.take (k + 1)) ++ l.drop (k + 1)).map fun c => (c.toNat : Int) := by
  have h1 : (plainL (l.take k)).length = k := by rw [plainL_length, List.length_take]; omega
  rw [List.take_succ_eq_append_getElem hk, plain_snoc_, List.append_assoc, if_pos hc]
  rw [List.drop_eq_getElem_cons hk, List.map_append, List.map_append]
  rw [List.set_append_right _ _ (by rw [List.length_map, h1]; exact Nat.le_refl _), List.length_map, h1, Nat.sub_self]
  rfl
theorem strOf_plain_ (l : List UInt8) : strOfNums ((plainL (l.take l.length) ++ l.drop l.length).map fun c => (c.toNat : Int)) = ⟨(plainL l).toArray⟩ := by
  simp [strOfNums, List.map_map, Function.comp_def]
set_option maxHeartbeats 2000000 in
set_option maxRecDepth 100000 in
theorem tree_plain.calls (a0 : ByteArray) (r : ByteArray) (w : World) (h : tree_plain.f a0 = some r) :
    Calls Tryd.prog 51 #[.string a0] w fun e w' => e = .returned (.string r) ∧ Below w.heap.size w w' := by
  unfold tree_plain.f at h
  by_cases hs : a0.size ≤ 140737488351232
  case neg => rw [if_neg hs] at h; exact absurd h (by simp)
  rw [if_pos hs] at h
  have hcv := fun w => Lib.run_convert_string_bytes (P := Tryd.prog) w 9 66 5 a0 Tryd.underlying9 Tryd.underlying66 Tryd.underlying5
  go_enter Tryd.func51, Tryd.ntmps51
  go_wp2
  have hr := Option.some.inj h
  have HS := Aside0.mk hr
  clear h hr hcv
  obtain ⟨wb, hwb⟩ : ∃ wb, wb = Lib.bytesWorld w 5 a0 := ⟨_, rfl⟩
  have HB0 := Aside0.mk (show Below w.heap.size w wb by rw [hwb]; exact bytesWorld_below_ _ _ _)
  have HR0 := Aside0.mk (show RowB 5 wb w.heap.size (a0.data.toList.map fun c => (c.toNat : Int)) by rw [hwb]; exact RowB.new _ _ _)
  rw [← hwb]
  clear hwb
  go_loopw [4, 5, 10] (fun v4 v5 v10 wr => ∃ (k : Nat) (xs : List Int), v10 = .int .i64 k ∧ Aside0 (k ≤ a0.size) ∧ Aside0 (xs = ((plainL (a0.data.toList.take k)) ++ a0.data.toList.drop k).map fun c => (c.toNat : Int)) ∧ Aside0 (RowB 5 wr w.heap.size xs) ∧ Aside0 (Below w.heap.size w wr)) (fun _ _ v10 _ => a0.size - (intOf v10).toNat)
  case atStart => exact ⟨0, _, rfl, ⟨Nat.zero_le _⟩, ⟨rfl⟩, HR0, HB0⟩
  case round =>
    clear HR0 HB0
    obtain ⟨k, xs, rfl, HK, HX, HR, HB⟩ := hrel
    have hsz : a0.data.toList.length = a0.size := by simp
    have HL := Aside0.mk (show xs.length = a0.size by rw [HX.out, plain_len_ _ _ (by rw [hsz]; exact HK.out), hsz])
    have HSZ := Aside0.mk hsz
    clear hsz
    by_cases hk : k < a0.size
    · have hc := HR.out.cell k (by rw [HL.out]; exact hk)
      have hfz := HR.out.frozen k (by rw [HL.out]; exact hk)
      have hkl : k < a0.data.toList.length := by rw [HSZ.out]; exact hk
      rw [HX.out, plain_at_ _ _ hkl] at hc
      obtain ⟨c, hcc⟩ : ∃ c : UInt8, a0.data.toList[k]'hkl = c := ⟨_, rfl⟩
      rw [hcc] at hc
      have HC := Aside0.mk hcc
      obtain ⟨n, hn⟩ : ∃ n : Nat, c.toNat = n := ⟨_, rfl⟩
      rw [hn] at hc
      have HN := Aside0.mk hn
      clear hcc hn
      by_cases t1 : n = 42
      · have t1b : ((n : Int) == 42) = true := by subst t1; rfl
        have HT : Aside0 (c = 42 ∨ c = 63) := ⟨.inl (by apply UInt8.toNat_inj.1; rw [HN.out, t1]; rfl)⟩
        clear t1
        go_wp2
        go_roundw
        case rel => exact ⟨k + 1, _, by go_num, ⟨hk⟩, ⟨by rw [HX.out]; exact plain_set_ _ _ hkl (by rw [HC.out]; exact HT.out)⟩, ⟨HR.out.set k 97⟩, ⟨Below.setCell HB.out (Nat.le_refl _) _⟩⟩
        case measure => simp [intOf]; omega
      · have t1b : ((n : Int) == 42) = false := by simp; omega
        by_cases t2 : n = 63
        · have t2b : ((n : Int) == 63) = true := by subst t2; rfl
          have HT : Aside0 (c = 42 ∨ c = 63) := ⟨.inr (by apply UInt8.toNat_inj.1; rw [HN.out, t2]; rfl)⟩
          clear t1 t2
          go_wp2
          go_roundw
          case rel => exact ⟨k + 1, _, by go_num, ⟨hk⟩, ⟨by rw [HX.out]; exact plain_set_ _ _ hkl (by rw [HC.out]; exact HT.out)⟩, ⟨HR.out.set k 97⟩, ⟨Below.setCell HB.out (Nat.le_refl _) _⟩⟩
          case measure => simp [intOf]; omega
        · have t2b : ((n : Int) == 63) = false := by simp; omega
          have HT : Aside0 (¬ (c = 42 ∨ c = 63)) := ⟨fun z => z.elim (fun z => t1 (by rw [← HN.out, z]; rfl)) (fun z => t2 (by rw [← HN.out, z]; rfl))⟩
          clear t1 t2
          go_wp2
          go_roundw
          case rel => exact ⟨k + 1, _, by go_num, ⟨hk⟩, ⟨by rw [HX.out, plain_keep_ _ _ hkl (by rw [HC.out]; exact HT.out)]⟩, HR, HB⟩
          case measure => simp [intOf]; omega
    · have hcv := run_convert_bytes_arg (P := Tryd.prog) wr 66 5 Tryd.underlying66 Tryd.underlying5 w.heap.size 0 a0.size (grownCap w a0.size 0 5) xs HL.out (fun i hi => by rw [Nat.zero_add]; exact HR.out.cell i (by rw [HL.out]; exact hi)) 9 Tryd.underlying9
      have hout : strOfNums xs = r := by
        have hkk : k = a0.data.toList.length := by rw [HSZ.out]; have := HK.out; omega
        rw [HX.out, hkk, strOf_plain_, HS.out]
      rw [hout] at hcv
      clear hout
      go_wp2
      go_ret
      exact ⟨rfl, HB.out⟩

end Go.Proofs.YtafjlibcdlihcaaDoor.G
