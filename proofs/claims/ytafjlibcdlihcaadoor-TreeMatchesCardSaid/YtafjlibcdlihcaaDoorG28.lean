/- Walks of functions of the program: what each call answers. Written by a program of this session out of the translation. No condition. -/
import Derived.Test.YtafjlibcdlihcaaDoorG0
import Derived.Test.YtafjlibcdlihcaaDoorG7
import Derived.Test.YtafjlibcdlihcaaDoorG8
import Derived.Test.YtafjlibcdlihcaaDoorG15
namespace Go.Proofs.YtafjlibcdlihcaaDoor.G
open Go.RowKit Go.Proofs.YtafjlibcdlihcaaDoorW.PrintWords Go.Proofs.YtafjlibcdlihcaaDoorW.PrintLast Go.Proofs.YtafjlibcdlihcaaDoorW.PrintMore
attribute [local go_sem] max2_int min2_int max_two min_two max_three min_three max_four min_four   -- for this text's walks alone
set_option linter.unusedVariables false
set_option linter.unusedSimpArgs false

/-! ### barqueref09_Pattern: function 22 -/
/-- What the names of a pattern come to. -/
def patLoop (k : Nat) : List ByteArray → Option Int
  | [] => some 0
  | n :: l => if n.data.toList = [42, 42] then patLoop k l else if 140737488351232 < n.size then none else (barqueref09_name.f k ⟨(plainL n.data.toList).toArray⟩).bind fun t => if t = true then patLoop k l else some 10
def barqueref09_Pattern.f (k : Nat) (a0 : ByteArray) : Option Int := if (a0.size : Int) > 200 then some 4 else (barqueref09_Names.f k a0).bind fun l => patLoop k l
theorem patLoop_mono : ∀ (l : List ByteArray) k, LeO (patLoop k l) (patLoop (k + 1) l)
  | [], _ => LeO.refl _
  | n :: l, k => by
    unfold patLoop
    refine LeO.ite (patLoop_mono l k) (LeO.ite (LeO.refl _) (LeO.bind (barqueref09_name.mono _ _) (fun _ => LeO.ite (patLoop_mono l k) (LeO.refl _))))
theorem barqueref09_Pattern.mono : ∀ a0 k, LeO (barqueref09_Pattern.f k a0) (barqueref09_Pattern.f (k + 1) a0) := by
  intro a0 k
  unfold barqueref09_Pattern.f
  exact LeO.ite (LeO.refl _) (LeO.bind (barqueref09_Names.mono _ _) (fun _ => patLoop_mono _ _))
set_option maxHeartbeats 4000000 in
set_option maxRecDepth 100000 in
theorem barqueref09_Pattern.calls (k : Nat) (a0 : ByteArray) (r : Int) (w : World) (h : barqueref09_Pattern.f k a0 = some r) :
    Calls Tryd.prog 22 #[.string a0] w fun e w' => e = .returned (.int .i64 r) ∧ Below w.heap.size w w' := by
  have HB := Aside0.mk (Below.refl w.heap.size w)
  unfold barqueref09_Pattern.f at h
  by_cases c2 : (a0.size : Int) > 200
  · rw [if_pos c2] at h
    have c2b0 : decide (200 < (a0.size : Int)) = true := decide_eq_true c2
    have c2b1 : decide (200 < a0.size) = true := decide_eq_true (by omega)
    clear c2
    obtain rfl := Option.some.inj h
    go_enter Tryd.func22, Tryd.ntmps22
    go_wp2
    go_ret
    exact ⟨rfl, HB.out⟩
  · rw [if_neg c2] at h
    have c2b0 : decide (200 < (a0.size : Int)) = false := decide_eq_false c2
    have c2b1 : decide (200 < a0.size) = false := decide_eq_false (by omega)
    clear c2
    obtain ⟨l, A3, H⟩ := Option.bind_eq_some_iff.mp h
    have A3 := Aside0.mk A3
    have H' := Aside0.mk H
    clear H h
    go_enter Tryd.func22, Tryd.ntmps22
    go_wp2_with (first | (go_at_call 46; refine (barqueref09_Names.calls k a0 l _ A3.out).mono ?_; rintro e w4 ⟨v102, rfl, ho0, hb⟩; have HO := Aside0.mk ho0; have HB := Aside0.mk hb; clear ho0 hb; obtain ⟨Ao, co, eo⟩ := Kd.R_slice HO.out; subst eo))
    go_loopg [4] (l.length + 1) (fun kq v4 w' => ∃ i : Nat, v4 = .int .i64 i ∧ Aside0 (i ≤ l.length ∧ kq = l.length + 1 - i) ∧ Aside0 (patLoop k (l.drop i) = some r) ∧ Aside0 (Kd.R Kd.string 9 w' w.heap.size (fun _ => True) (.slice Ao l.length co) l) ∧ Aside0 (Below w.heap.size w w'))
    case atStart => exact ⟨0, rfl, ⟨⟨Nat.zero_le _, rfl⟩⟩, H', HO, HB⟩
    case round =>
      clear H' HO HB
      obtain ⟨i, rfl, HI, HA, HO, HB⟩ := hrel
      by_cases hi : i < l.length
      · have H := HA.out
        rw [List.drop_eq_getElem_cons hi] at H
        obtain ⟨n, hn⟩ : ∃ n, l[i]'hi = n := ⟨_, rfl⟩
        rw [hn] at H
        have hrd : rdOf ByteArray.empty l (i : Int) = n := by simp [rdOf, List.getD_eq_getElem?_getD, hi, hn]
        obtain ⟨ad, e, hx⟩ := Kd.at_string (Kd.R_reads' HO.out).2.2 (i : Int) (by omega) (by omega)
        cases e
        rw [hrd] at hx
        simp only [Int.toNat_natCast] at hx
        clear hrd hn HA
        have q1 : ((i : Int) < (l.length : Int)) := by omega
        unfold patLoop at H
        by_cases c1 : n.data.toList = [42, 42]
        · rw [if_pos c1] at H
          have H' := Aside0.mk H
          have c1b : (n.toList == [42, 42]) = true := by rw [toList_data_, c1]; rfl
          clear H c1
          go_wp2
          go_roundg (l.length + 1 - (i + 1))
          case measure => have := HI.out.2; omega
          case rel => exact ⟨i + 1, by rw [wrap_succ_ i l.length hi (Kd.C_len_ (Kd.R_reads' HO.out).2.2)], ⟨⟨hi, rfl⟩⟩, H', HO, HB⟩
        · rw [if_neg c1] at H
          have c1b : (n.toList == [42, 42]) = false := by rw [toList_data_]; simpa using c1
          clear c1
          by_cases c3 : 140737488351232 < n.size
          · rw [if_pos c3] at H
            cases H
          rw [if_neg c3] at H
          have HN3 := Aside0.mk c3
          obtain ⟨t, A4, H⟩ := Option.bind_eq_some_iff.mp H
          have A4 := Aside0.mk A4
          have H' := Aside0.mk H
          clear H c3
          have hcv := fun w => Lib.run_convert_string_bytes (P := Tryd.prog) w 9 66 5 n Tryd.underlying9 Tryd.underlying66 Tryd.underlying5
          go_wp2
          clear hcv hx
          obtain ⟨g, hg⟩ : ∃ g, wr.heap.size = g := ⟨_, rfl⟩
          obtain ⟨cp, hcp⟩ : ∃ cp, grownCap wr n.size 0 5 = cp := ⟨_, rfl⟩
          obtain ⟨wb, hwb⟩ : ∃ wb, Lib.bytesWorld wr 5 n = wb := ⟨_, rfl⟩
          have HG := Aside0.mk (show w.heap.size ≤ g by rw [← hg]; exact HB.out.size)
          have HOb := Aside0.mk (show Kd.R Kd.string 9 wb w.heap.size (fun k_ => k_ < g) (.slice (some ad) l.length co) l by rw [← hwb, ← hg]; exact Kd.R_mono (Kd.R_below (Kd.R_bound HO.out) (bytesWorld_below_ _ _ _)) (fun _ hk => hk.2.2.1))
          have HBb := Aside0.mk (show Below w.heap.size w wb by rw [← hwb]; exact below_step HB.out (bytesWorld_below_ _ _ _))
          have HRb := Aside0.mk (show RowB 5 wb g (((plainL (n.data.toList.take 0)) ++ n.data.toList.drop 0).map fun c => (c.toNat : Int)) by rw [← hwb, ← hg]; exact RowB.new _ _ _)
          simp only [hg, hcp, hwb]
          clear hwb hcp hg HO HB
          go_loopg [6] (n.size + 1) (fun kq v6 w' => ∃ (j : Nat) (xs : List Int), v6 = .int .i64 j ∧ Aside0 (j ≤ n.size ∧ kq = n.size + 1 - j) ∧ Aside0 (xs = ((plainL (n.data.toList.take j)) ++ n.data.toList.drop j).map fun c => (c.toNat : Int)) ∧ Aside0 (RowB 5 w' g xs) ∧ Aside0 (Kd.R Kd.string 9 w' w.heap.size (fun k_ => k_ < g) (.slice (some ad) l.length co) l) ∧ Aside0 (Below w.heap.size w w'))
          case atStart => exact ⟨0, _, rfl, ⟨⟨Nat.zero_le _, rfl⟩⟩, ⟨rfl⟩, HRb, HOb, HBb⟩
          case round =>
            clear HRb HOb HBb
            obtain ⟨j, xs, rfl, HJ, HX, HR, HO, HB⟩ := hrel
            have hsz : n.data.toList.length = n.size := by simp
            have HL := Aside0.mk (show xs.length = n.size by rw [HX.out, plain_len_ _ _ (by rw [hsz]; exact HJ.out.1), hsz])
            have HSZ := Aside0.mk hsz
            clear hsz
            by_cases hj : j < n.size
            · have hc := HR.out.cell j (by rw [HL.out]; exact hj)
              have hfz := HR.out.frozen j (by rw [HL.out]; exact hj)
              have hjl : j < n.data.toList.length := by rw [HSZ.out]; exact hj
              rw [HX.out, plain_at_ _ _ hjl] at hc
              obtain ⟨c, hcc⟩ : ∃ c : UInt8, n.data.toList[j]'hjl = c := ⟨_, rfl⟩
              rw [hcc] at hc
              have HC := Aside0.mk hcc
              obtain ⟨m, hm⟩ : ∃ m : Nat, c.toNat = m := ⟨_, rfl⟩
              rw [hm] at hc
              have HM := Aside0.mk hm
              clear hcc hm
              have hjb : j ≤ 140737488351232 := by have := HN3.out; omega
              by_cases t1 : m = 42
              · have t1b : ((m : Int) == 42) = true := by subst t1; rfl
                have HT : Aside0 (c = 42 ∨ c = 63) := ⟨.inl (by apply UInt8.toNat_inj.1; rw [HM.out, t1]; rfl)⟩
                clear t1
                go_wp2
                go_roundg (n.size + 1 - (j + 1))
                case measure => have := HJ.out.2; omega
                case rel => exact ⟨j + 1, _, by go_num, ⟨⟨hj, rfl⟩⟩, ⟨by rw [HX.out]; exact plain_set_ _ _ hjl (by rw [HC.out]; exact HT.out)⟩, ⟨HR.out.set j 97⟩, ⟨Kd.R_far HO.out (fun k_ hk => Nat.ne_of_lt hk) _⟩, ⟨Below.setCell HB.out HG.out _⟩⟩
              · have t1b : ((m : Int) == 42) = false := by simp; omega
                by_cases t2 : m = 63
                · have t2b : ((m : Int) == 63) = true := by subst t2; rfl
                  have HT : Aside0 (c = 42 ∨ c = 63) := ⟨.inr (by apply UInt8.toNat_inj.1; rw [HM.out, t2]; rfl)⟩
                  clear t1 t2
                  go_wp2
                  go_roundg (n.size + 1 - (j + 1))
                  case measure => have := HJ.out.2; omega
                  case rel => exact ⟨j + 1, _, by go_num, ⟨⟨hj, rfl⟩⟩, ⟨by rw [HX.out]; exact plain_set_ _ _ hjl (by rw [HC.out]; exact HT.out)⟩, ⟨HR.out.set j 97⟩, ⟨Kd.R_far HO.out (fun k_ hk => Nat.ne_of_lt hk) _⟩, ⟨Below.setCell HB.out HG.out _⟩⟩
                · have t2b : ((m : Int) == 63) = false := by simp; omega
                  have HT : Aside0 (¬ (c = 42 ∨ c = 63)) := ⟨fun z => z.elim (fun z => t1 (by rw [← HM.out, z]; rfl)) (fun z => t2 (by rw [← HM.out, z]; rfl))⟩
                  clear t1 t2
                  go_wp2
                  go_roundg (n.size + 1 - (j + 1))
                  case measure => have := HJ.out.2; omega
                  case rel => exact ⟨j + 1, _, by go_num, ⟨⟨hj, rfl⟩⟩, ⟨by rw [HX.out, plain_keep_ _ _ hjl (by rw [HC.out]; exact HT.out)]⟩, HR, HO, HB⟩
            · obtain ⟨wi, hwi⟩ : ∃ wi : World, wi = wr := ⟨_, rfl⟩
              have hcv := run_convert_bytes_arg (P := Tryd.prog) wr 66 5 Tryd.underlying66 Tryd.underlying5 g 0 n.size cp xs HL.out (fun i hi => by rw [Nat.zero_add]; exact HR.out.cell i (by rw [HL.out]; exact hi)) 9 Tryd.underlying9
              have hout : strOfNums xs = ⟨(plainL n.data.toList).toArray⟩ := by
                have hkk : j = n.data.toList.length := by rw [HSZ.out]; have := HJ.out.1; omega
                rw [HX.out, hkk, strOf_plain_]
              rw [hout] at hcv
              clear hout hwi
              cases t with
              | true =>
                go_wp2_with (first | (go_at_call 47; refine (barqueref09_name.calls k _ true _ A4.out).mono ?_; rintro e w5 ⟨rfl, hd⟩; have HD := Aside0.mk hd.below; clear hd))
                go_roundg (l.length + 1 - (i + 1))
                case measure => have := HI.out.2; omega
                case rel => exact ⟨i + 1, by rw [wrap_succ_ i l.length hi (Kd.C_len_ (Kd.R_reads' HO.out).2.2)], ⟨⟨hi, rfl⟩⟩, ⟨by simpa using H'.out⟩, ⟨Kd.R_mono (Kd.R_below HO.out HD.out) (fun _ _ => trivial)⟩, ⟨below_step HB.out HD.out⟩⟩
              | false =>
                go_wp2_with (first | (go_at_call 47; refine (barqueref09_name.calls k _ false _ A4.out).mono ?_; rintro e w5 ⟨rfl, hd⟩; have HD := Aside0.mk hd.below; clear hd))
                have h10 := H'.out
                simp only [Bool.false_eq_true, if_false] at h10
                obtain rfl : 10 = r := Option.some.inj h10
                go_ret
                exact ⟨rfl, below_step HB.out HD.out⟩
      · go_wp2
        have H := HA.out
        rw [List.drop_eq_nil_of_le (by omega)] at H
        obtain rfl : 0 = r := Option.some.inj H
        go_ret
        exact ⟨rfl, HB.out⟩

end Go.Proofs.YtafjlibcdlihcaaDoor.G
