/- Texts of this session's claim of TreeReads, less what its theorem does not reach. No condition. -/
import Derived.Test.YtafjlibcdlihcaaDoorTR12
import Derived.Test.YtafjlibcdlihcaaDoorTR13
import Derived.Test.YtafjlibcdlihcaaDoorTR14
import Derived.Test.YtafjlibcdlihcaaDoorTR15
section
namespace Go.Proofs.YtafjlibcdlihcaaDoor.G
open Go.RowKit Go.Proofs.YtafjlibcdlihcaaDoorW.PrintWords Go.Proofs.YtafjlibcdlihcaaDoorW.PrintLast Go.Proofs.YtafjlibcdlihcaaDoorW.PrintMore
attribute [local go_sem] max2_int min2_int max_two min_two max_three min_three max_four min_four   -- for this text's walks alone
set_option linter.unusedVariables false
set_option linter.unusedSimpArgs false
set_option maxHeartbeats 2000000 in
set_option maxRecDepth 100000 in
/-- The closure of tree.Bytes: a number's bytes go into the builder. -/
theorem tree_Bytes_num.calls (k : Nat) (n : Int) (s : ByteArray) (e : Int) (B b : Nat) (acc : List UInt8) (w : World) (hn : code_Num.f k n = some (s, e)) (h : Lib.IsBuilder 72 5 B b (Lib.byteCells acc) w) (hlen : acc.length + s.size ≤ 140737488355328) (hB : B ≤ w.heap.size) :
  Calls Tryd.prog 57 #[.int .i64 n, .pointer (some ⟨b, 0, none⟩)] w fun en w' => en = .returned (.tuple #[]) ∧ Lib.IsBuilder 72 5 B b (Lib.byteCells (acc ++ s.data.toList)) w' ∧ Below B w w' ∧ Lib.OthersKept 5 (some b) w w' := by
 go_enter Tryd.func57, Tryd.ntmps57
 go_wp2_with (go_at_call 58; refine (code_Num.calls k n s e _ hn).mono ?_; rintro en w1 ⟨rfl, hb1⟩)
 have h1 := Go.Proofs.YtafjlibcdlihcaaDoor.Bld.isB_below h hb1
 have hl1 : (Lib.byteCells acc).length + s.size ≤ 140737488355328 := by rw [Lib.byteCells_length]; exact hlen
 have hB1 : B ≤ w1.heap.size := by have := hb1.size; omega
 go_wp2_with (go_at_call 59; refine (Go.Proofs.YtafjlibcdlihcaaDoor.Bld.writeString B b _ s _ h1 hl1 hB1).mono ?_; rintro en w2 ⟨rfl, h2, hb2, hk2⟩)
 go_end0
 refine ⟨rfl, .inr ?_, (hb1.mono hB).trans hb2, (Go.Proofs.YtafjlibcdlihcaaDoor.Bld.kept_of_below hb1).trans hk2⟩
 have e2 : Lib.byteCells (acc ++ s.data.toList) = Lib.byteCells acc ++ Lib.strCells s := by simp [Lib.byteCells, Lib.strCells]
 rw [e2]
 exact h2
theorem rdI_nat (l : List S56) (i : Nat) (h : i < l.length) : rd_T56 l (i : Int) = l[i] := by
 unfold rd_T56
 simp [List.getD_eq_getElem?_getD, h]
def bytesItem (k : Nat) (last : ByteArray) (x : S56) (acc : List UInt8) : Option (List UInt8) :=
 (tree_shared.f k last x.f0).bind fun n => if 0 ≤ n ∧ n ≤ (x.f0.size : Int) ∧ x.f0.size ≤ 140737488351232 then
  (code_Num.f k n).bind fun s1 => (code_Num.f k ((x.f0.size : Int) - n)).bind fun s2 => (code_Num.f k x.f1).bind fun s3 => (code_Num.f k x.f2).bind fun s4 =>
   if acc.length + s1.1.size + s2.1.size + x.f0.size + s3.1.size + s4.1.size + x.f3.size ≤ 140737488355328 then
    some (acc ++ s1.1.data.toList ++ s2.1.data.toList ++ (x.f0.extract n.toNat x.f0.size).data.toList ++ s3.1.data.toList ++ s4.1.data.toList ++ x.f3.data.toList)
   else none
  else none
def bytesLoop (k : Nat) : ByteArray → List S56 → List UInt8 → Option (List UInt8)
 | _, [], acc => some acc
 | last, x :: l, acc => (bytesItem k last x acc).bind fun acc' => bytesLoop k x.f0 l acc'
def tree_Bytes.f (k : Nat) (l0 : List S56) : Option (ByteArray × Int) :=
 (tree_Right.f k l0).bind fun t => if t = 0 then (code_Num.f k (l0.length : Int)).bind fun s => if s.1.size ≤ 140737488355328 then (bytesLoop k ⟨#[]⟩ l0 s.1.data.toList).bind fun b => some (⟨b.toArray⟩, 0) else none else some (⟨#[]⟩, t)
theorem bytesItem_mono (last : ByteArray) (x : S56) (acc : List UInt8) (k : Nat) : LeO (bytesItem k last x acc) (bytesItem (k + 1) last x acc) := by
 unfold bytesItem
 refine LeO.bind (tree_shared.mono _ _ _) (fun n => LeO.ite (LeO.bind (code_Num.mono _ _) (fun s1 => LeO.bind (code_Num.mono _ _) (fun s2 => LeO.bind (code_Num.mono _ _) (fun s3 => LeO.bind (code_Num.mono _ _) (fun s4 => LeO.refl _))))) (LeO.refl _))
theorem bytesLoop_mono : ∀ (l : List S56) (last : ByteArray) (acc : List UInt8) (k : Nat), LeO (bytesLoop k last l acc) (bytesLoop (k + 1) last l acc)
 | [], _, _, _ => LeO.refl _
 | x :: l, last, acc, k => by
  unfold bytesLoop
  exact LeO.bind (bytesItem_mono _ _ _ _) (fun _ => bytesLoop_mono l _ _ k)
theorem tree_Bytes.mono : ∀ a0 k, LeO (tree_Bytes.f k a0) (tree_Bytes.f (k + 1) a0) := by
 intro a0 k
 unfold tree_Bytes.f
 exact LeO.bind (tree_Right.mono _ _) (fun t => LeO.ite (LeO.bind (code_Num.mono _ _) (fun s => LeO.ite (LeO.bind (bytesLoop_mono _ _ _ _) (fun _ => LeO.refl _)) (LeO.refl _))) (LeO.refl _))
set_option maxHeartbeats 4000000 in
set_option maxRecDepth 100000 in
theorem tree_Bytes.calls (k : Nat) (A0 : Option Addr) (c0 : Nat) (l0 : List S56) (r1 : ByteArray) (r2 : Int) (w : World) (hr0 : Kd.C k56 w A0 l0.length l0) (hc0 : l0.length ≤ c0) (h : tree_Bytes.f k l0 = some (r1, r2)) :
  Calls Tryd.prog 32 #[.slice A0 l0.length c0] w fun e w' => e = .returned (.tuple #[.string r1, .int .i64 r2]) ∧ Below w.heap.size w w' := by
 have HR0 := Aside0.mk hr0
 have HC0 := Aside0.mk hc0
 clear hr0 hc0
 unfold tree_Bytes.f at h
 obtain ⟨t, A1, H⟩ := Option.bind_eq_some_iff.mp h
 have A1 := Aside0.mk A1
 clear h
 by_cases c1 : t = 0
 ·rw [if_pos c1] at H
  subst c1
  obtain ⟨⟨s, e⟩, A2, H⟩ := Option.bind_eq_some_iff.mp H
  by_cases c2 : s.size ≤ 140737488355328
  case neg => rw [if_neg c2] at H; cases H
  rw [if_pos c2] at H
  obtain ⟨b, A3, H⟩ := Option.bind_eq_some_iff.mp H
  have H := Option.some.inj H
  obtain ⟨rfl, rfl⟩ := Prod.mk.inj H
  have A2 := Aside0.mk A2
  have A3 := Aside0.mk A3
  have C2 := Aside0.mk c2
  clear H c2
  go_enter Tryd.func32, Tryd.ntmps32
  go_wp2_with (go_at_call 34; refine (tree_Right.calls k A0 c0 l0 0 _ HR0.out HC0.out A1.out).mono ?_; rintro en w1 ⟨rfl, hb1⟩; have HB1 := Aside0.mk hb1; clear hb1)
  have hsz1 : w.heap.size ≤ w1.heap.size := HB1.out.size
  have hB2 : Below w.heap.size w (w1.alloc (.cells #[.pointer none, .slice none 0 0] 72)) := HB1.out.alloc hsz1 _
  have hI : Lib.IsBuilder 72 5 w.heap.size w1.heap.size (Lib.byteCells []) (w1.alloc (.cells #[.pointer none, .slice none 0 0] 72)) := .inl ⟨hsz1, .slice none 0 0, heap_alloc_new w1 _, World.ownsRow_nil _ _ _ _, by simp [Value.ownBlock]⟩
  refine (tree_Bytes_num.calls k _ s e w.heap.size w1.heap.size [] _ A2.out hI (by rw [List.length_nil, Nat.zero_add]; exact C2.out) (by simp; omega)).mono ?_
  rintro en w2 ⟨rfl, hI2, hb2, hk2⟩
  have HI := Aside0.mk hI2
  have HB := Aside0.mk (hB2.trans hb2)
  have HG := Aside0.mk (show w1.heap.size < w2.heap.size from Go.Proofs.YtafjlibcdlihcaaDoor.Bld.isB_lt hI2)
  obtain ⟨g, hg⟩ : ∃ g, w1.heap.size = g := ⟨_, rfl⟩
  rw [hg] at HI HG
  have HSZ := Aside0.mk (hg ▸ hsz1)
  simp only [hg]
  clear hI2 hb2 hk2 hI hB2 hsz1 HB1 hg
  go_wp2
  clear HG
  rw [List.nil_append] at HI
  go_loopg [7, 23] (l0.length + 1) (fun kq v7 v23 w' => ∃ (i : Nat) (last : ByteArray) (acc : List UInt8), v7 = .string last ∧ v23 = .int .i64 i ∧ Aside0 (i ≤ l0.length ∧ kq = l0.length + 1 - i) ∧ Aside0 (bytesLoop k last (l0.drop i) acc = some b) ∧ Aside0 (Lib.IsBuilder 72 5 w.heap.size g (Lib.byteCells acc) w') ∧ Aside0 (Below w.heap.size w w'))
  case atStart => exact ⟨0, ⟨#[]⟩, s.data.toList, rfl, rfl, ⟨⟨Nat.zero_le _, rfl⟩⟩, A3, HI, HB⟩
  case round =>
   clear A3 HI HB
   obtain ⟨i, last, acc, rfl, rfl, HJ, HA, HI, HB⟩ := hrel
   by_cases hi : i < l0.length
   ·have H := HA.out
    rw [List.drop_eq_getElem_cons hi, bytesLoop] at H
    obtain ⟨x, hx⟩ : ∃ x, l0[i]'hi = x := ⟨_, rfl⟩
    rw [hx] at H
    obtain ⟨acc', D1, H⟩ := Option.bind_eq_some_iff.mp H
    have HN := Aside0.mk H
    unfold bytesItem at D1
    obtain ⟨n, N1, D1⟩ := Option.bind_eq_some_iff.mp D1
    by_cases cn : 0 ≤ n ∧ n ≤ (x.f0.size : Int) ∧ x.f0.size ≤ 140737488351232
    case neg => rw [if_neg cn] at D1; cases D1
    rw [if_pos cn] at D1
    obtain ⟨⟨s1, e1⟩, N2, D1⟩ := Option.bind_eq_some_iff.mp D1
    obtain ⟨⟨s2, e2⟩, N3, D1⟩ := Option.bind_eq_some_iff.mp D1
    obtain ⟨⟨s3, e3⟩, N4, D1⟩ := Option.bind_eq_some_iff.mp D1
    obtain ⟨⟨s4, e4⟩, N5, D1⟩ := Option.bind_eq_some_iff.mp D1
    obtain ⟨n1, n2, n3⟩ := cn
    simp only at D1
    by_cases cl : acc.length + s1.size + s2.size + x.f0.size + s3.size + s4.size + x.f3.size ≤ 140737488355328
    case neg => rw [if_neg cl] at D1; cases D1
    rw [if_pos cl] at D1
    have DD := Aside0.mk (Option.some.inj D1)
    have CL := Aside0.mk cl
    have N1 := Aside0.mk N1
    have N2 := Aside0.mk N2
    have N3 := Aside0.mk N3
    have N4 := Aside0.mk N4
    have N5 := Aside0.mk N5
    obtain ⟨ad, ea, hx0, hx1, hx2, hx3⟩ := at_T56 HR0.out (i : Int) (by omega) (by omega)
    cases ea
    rw [rdI_nat l0 i hi, hx] at hx0 hx1 hx2 hx3
    replace hx0 := (HB.out.cell (World.block_lt_of_cell? w _ hx0)).trans hx0
    replace hx1 := (HB.out.cell (World.block_lt_of_cell? w _ hx1)).trans hx1
    replace hx2 := (HB.out.cell (World.block_lt_of_cell? w _ hx2)).trans hx2
    replace hx3 := (HB.out.cell (World.block_lt_of_cell? w _ hx3)).trans hx3
    clear H HA hx cl D1
    simp only [Int.toNat_natCast] at hx0 hx1 hx2 hx3
    go_wp2_with (go_at_call 60; refine (tree_shared.calls k last x.f0 n _ N1.out).mono ?_; rintro en w3 ⟨rfl, hb3⟩; have HX := Aside0.mk (show w3.heap[wr.heap.size]? = some (.cells #[.string x.f0, .int .i64 x.f1, .int .i64 x.f2, .string x.f3] 56 (0, 0)) from (hb3.block _ (by simp)).trans (heap_alloc_new wr _)); have HI3 := Aside0.mk (Go.Proofs.YtafjlibcdlihcaaDoor.Bld.isB_below (Go.Proofs.YtafjlibcdlihcaaDoor.Bld.isB_below HI.out ((Below.refl _ _).alloc (Nat.le_refl _) _)) hb3); have HB3 := Aside0.mk (below_step (HB.out.alloc HB.out.size _) hb3); have HNE := Aside0.mk (show wr.heap.size ≠ g from fun e_ => by have := Go.Proofs.YtafjlibcdlihcaaDoor.Bld.isB_lt HI.out; omega); clear hb3 hx0 hx1 hx2 hx3)
    obtain ⟨gx, hgx⟩ : ∃ gx, wr.heap.size = gx := ⟨_, rfl⟩
    rw [hgx] at HX HNE
    simp only [hgx]
    clear hgx HI HB
    first | (refine (tree_Bytes_num.calls k n s1 e1 w.heap.size g (acc) _ N2.out HI3.out (by have := CL.out; have := Go.Proofs.YtafjlibcdlihcaaDoor.Bld.szx_ x.f0 n.toNat; (try simp only [List.length_append, Go.Proofs.YtafjlibcdlihcaaDoor.Bld.szl_]); omega) HB3.out.size).mono ?_; rintro en w4 ⟨rfl, hI, hb, hk⟩; have HI4 := Aside0.mk hI; have HBn := Aside0.mk (HB3.out.trans hb); have HXn := Aside0.mk (Go.Proofs.YtafjlibcdlihcaaDoor.Bld.keepX hk HX.out HNE.out (by decide)); clear hI hb hk; (try clear hx); have hx : w4.cell? ⟨gx, 0, none⟩ = some (Value.string x.f0) := (blk_cell HXn.out 0).trans rfl) | go_wp2_with (go_at_call 57; refine (tree_Bytes_num.calls k n s1 e1 w.heap.size g (acc) _ N2.out HI3.out (by have := CL.out; have := Go.Proofs.YtafjlibcdlihcaaDoor.Bld.szx_ x.f0 n.toNat; (try simp only [List.length_append, Go.Proofs.YtafjlibcdlihcaaDoor.Bld.szl_]); omega) HB3.out.size).mono ?_; rintro en w4 ⟨rfl, hI, hb, hk⟩; have HI4 := Aside0.mk hI; have HBn := Aside0.mk (HB3.out.trans hb); have HXn := Aside0.mk (Go.Proofs.YtafjlibcdlihcaaDoor.Bld.keepX hk HX.out HNE.out (by decide)); clear hI hb hk; (try clear hx); have hx : w4.cell? ⟨gx, 0, none⟩ = some (Value.string x.f0) := (blk_cell HXn.out 0).trans rfl)
    have HB4 := HBn
    replace HX := HXn
    clear HBn HXn HI3 HB3
    first | (refine (tree_Bytes_num.calls k ((x.f0.size : Int) - n) s2 e2 w.heap.size g (acc ++ s1.data.toList) _ N3.out HI4.out (by have := CL.out; have := Go.Proofs.YtafjlibcdlihcaaDoor.Bld.szx_ x.f0 n.toNat; (try simp only [List.length_append, Go.Proofs.YtafjlibcdlihcaaDoor.Bld.szl_]); omega) HB4.out.size).mono ?_; rintro en w5 ⟨rfl, hI, hb, hk⟩; have HI5 := Aside0.mk hI; have HBn := Aside0.mk (HB4.out.trans hb); have HXn := Aside0.mk (Go.Proofs.YtafjlibcdlihcaaDoor.Bld.keepX hk HX.out HNE.out (by decide)); clear hI hb hk; (try clear hx); have hx : w5.cell? ⟨gx, 0, none⟩ = some (Value.string x.f0) := (blk_cell HXn.out 0).trans rfl) | go_wp2_with (go_at_call 57; refine (tree_Bytes_num.calls k ((x.f0.size : Int) - n) s2 e2 w.heap.size g (acc ++ s1.data.toList) _ N3.out HI4.out (by have := CL.out; have := Go.Proofs.YtafjlibcdlihcaaDoor.Bld.szx_ x.f0 n.toNat; (try simp only [List.length_append, Go.Proofs.YtafjlibcdlihcaaDoor.Bld.szl_]); omega) HB4.out.size).mono ?_; rintro en w5 ⟨rfl, hI, hb, hk⟩; have HI5 := Aside0.mk hI; have HBn := Aside0.mk (HB4.out.trans hb); have HXn := Aside0.mk (Go.Proofs.YtafjlibcdlihcaaDoor.Bld.keepX hk HX.out HNE.out (by decide)); clear hI hb hk; (try clear hx); have hx : w5.cell? ⟨gx, 0, none⟩ = some (Value.string x.f0) := (blk_cell HXn.out 0).trans rfl)
    have HB5 := HBn
    replace HX := HXn
    clear HBn HXn HI4 HB4
    go_wp2_with (go_at_call 59; refine (Go.Proofs.YtafjlibcdlihcaaDoor.Bld.writeString w.heap.size g (Lib.byteCells (acc ++ s1.data.toList ++ s2.data.toList)) (x.f0.extract n.toNat x.f0.size) _ HI5.out (by have := CL.out; have := Go.Proofs.YtafjlibcdlihcaaDoor.Bld.szx_ x.f0 n.toNat; rw [Lib.byteCells_length]; simp only [List.length_append, Go.Proofs.YtafjlibcdlihcaaDoor.Bld.szl_]; omega) HB5.out.size).mono ?_; rintro en w6 ⟨rfl, hI0, hb, hk⟩; have HI6 := Aside0.mk (Go.Proofs.YtafjlibcdlihcaaDoor.Bld.isB_wrote hI0); have HBn := Aside0.mk (HB5.out.trans hb); have HXn := Aside0.mk (Go.Proofs.YtafjlibcdlihcaaDoor.Bld.keepX hk HX.out HNE.out (by decide)); clear hI0 hx hb hk; have hx : w6.cell? ⟨gx, 1, none⟩ = some (Value.int .i64 x.f1) := (blk_cell HXn.out 1).trans rfl)
    have HB6 := HBn
    replace HX := HXn
    clear HBn HXn HI5 HB5
    first | (refine (tree_Bytes_num.calls k x.f1 s3 e3 w.heap.size g (acc ++ s1.data.toList ++ s2.data.toList ++ ((x.f0.extract n.toNat x.f0.size)).data.toList) _ N4.out HI6.out (by have := CL.out; have := Go.Proofs.YtafjlibcdlihcaaDoor.Bld.szx_ x.f0 n.toNat; (try simp only [List.length_append, Go.Proofs.YtafjlibcdlihcaaDoor.Bld.szl_]); omega) HB6.out.size).mono ?_; rintro en w7 ⟨rfl, hI, hb, hk⟩; have HI7 := Aside0.mk hI; have HBn := Aside0.mk (HB6.out.trans hb); have HXn := Aside0.mk (Go.Proofs.YtafjlibcdlihcaaDoor.Bld.keepX hk HX.out HNE.out (by decide)); clear hI hb hk; (try clear hx); have hx : w7.cell? ⟨gx, 2, none⟩ = some (Value.int .i64 x.f2) := (blk_cell HXn.out 2).trans rfl) | go_wp2_with (go_at_call 57; refine (tree_Bytes_num.calls k x.f1 s3 e3 w.heap.size g (acc ++ s1.data.toList ++ s2.data.toList ++ ((x.f0.extract n.toNat x.f0.size)).data.toList) _ N4.out HI6.out (by have := CL.out; have := Go.Proofs.YtafjlibcdlihcaaDoor.Bld.szx_ x.f0 n.toNat; (try simp only [List.length_append, Go.Proofs.YtafjlibcdlihcaaDoor.Bld.szl_]); omega) HB6.out.size).mono ?_; rintro en w7 ⟨rfl, hI, hb, hk⟩; have HI7 := Aside0.mk hI; have HBn := Aside0.mk (HB6.out.trans hb); have HXn := Aside0.mk (Go.Proofs.YtafjlibcdlihcaaDoor.Bld.keepX hk HX.out HNE.out (by decide)); clear hI hb hk; (try clear hx); have hx : w7.cell? ⟨gx, 2, none⟩ = some (Value.int .i64 x.f2) := (blk_cell HXn.out 2).trans rfl)
    have HB7 := HBn
    replace HX := HXn
    clear HBn HXn HI6 HB6
    first | (refine (tree_Bytes_num.calls k x.f2 s4 e4 w.heap.size g (acc ++ s1.data.toList ++ s2.data.toList ++ ((x.f0.extract n.toNat x.f0.size)).data.toList ++ s3.data.toList) _ N5.out HI7.out (by have := CL.out; have := Go.Proofs.YtafjlibcdlihcaaDoor.Bld.szx_ x.f0 n.toNat; (try simp only [List.length_append, Go.Proofs.YtafjlibcdlihcaaDoor.Bld.szl_]); omega) HB7.out.size).mono ?_; rintro en w8 ⟨rfl, hI, hb, hk⟩; have HI8 := Aside0.mk hI; have HBn := Aside0.mk (HB7.out.trans hb); have HXn := Aside0.mk (Go.Proofs.YtafjlibcdlihcaaDoor.Bld.keepX hk HX.out HNE.out (by decide)); clear hI hb hk; (try clear hx); have hx : w8.cell? ⟨gx, 3, none⟩ = some (Value.string x.f3) := (blk_cell HXn.out 3).trans rfl) | go_wp2_with (go_at_call 57; refine (tree_Bytes_num.calls k x.f2 s4 e4 w.heap.size g (acc ++ s1.data.toList ++ s2.data.toList ++ ((x.f0.extract n.toNat x.f0.size)).data.toList ++ s3.data.toList) _ N5.out HI7.out (by have := CL.out; have := Go.Proofs.YtafjlibcdlihcaaDoor.Bld.szx_ x.f0 n.toNat; (try simp only [List.length_append, Go.Proofs.YtafjlibcdlihcaaDoor.Bld.szl_]); omega) HB7.out.size).mono ?_; rintro en w8 ⟨rfl, hI, hb, hk⟩; have HI8 := Aside0.mk hI; have HBn := Aside0.mk (HB7.out.trans hb); have HXn := Aside0.mk (Go.Proofs.YtafjlibcdlihcaaDoor.Bld.keepX hk HX.out HNE.out (by decide)); clear hI hb hk; (try clear hx); have hx : w8.cell? ⟨gx, 3, none⟩ = some (Value.string x.f3) := (blk_cell HXn.out 3).trans rfl)
    have HB8 := HBn
    replace HX := HXn
    clear HBn HXn HI7 HB7
    go_wp2_with (go_at_call 59; refine (Go.Proofs.YtafjlibcdlihcaaDoor.Bld.writeString w.heap.size g (Lib.byteCells (acc ++ s1.data.toList ++ s2.data.toList ++ ((x.f0.extract n.toNat x.f0.size)).data.toList ++ s3.data.toList ++ s4.data.toList)) x.f3 _ HI8.out (by have := CL.out; have := Go.Proofs.YtafjlibcdlihcaaDoor.Bld.szx_ x.f0 n.toNat; rw [Lib.byteCells_length]; simp only [List.length_append, Go.Proofs.YtafjlibcdlihcaaDoor.Bld.szl_]; omega) HB8.out.size).mono ?_; rintro en w9 ⟨rfl, hI0, hb, hk⟩; have HI9 := Aside0.mk (Go.Proofs.YtafjlibcdlihcaaDoor.Bld.isB_wrote hI0); have HBn := Aside0.mk (HB8.out.trans hb); have HXn := Aside0.mk (Go.Proofs.YtafjlibcdlihcaaDoor.Bld.keepX hk HX.out HNE.out (by decide)); clear hI0 hx hb hk; have hx : w9.cell? ⟨gx, 0, none⟩ = some (Value.string x.f0) := (blk_cell HXn.out 0).trans rfl)
    have HB9 := HBn
    replace HX := HXn
    clear HBn HXn HI8 HB8
    go_roundg (l0.length + 1 - (i + 1))
    case measure => have := HJ.out.2; omega
    case rel => exact ⟨i + 1, x.f0, acc', rfl, by first | rfl | go_num | (rw [wrap_succ_ i l0.length hi (Kd.C_len_ HR0.out)]), ⟨⟨hi, rfl⟩⟩, HN, by rw [← DD.out]; exact HI9, HB9⟩
   ·have H := HA.out
    rw [List.drop_eq_nil_of_le (by omega), bytesLoop] at H
    obtain rfl := Option.some.inj H
    go_wp2_with (go_at_call 61; refine (Tryd.Builder_String_any w.heap.size g acc _ HI.out HB.out.size).mono ?_; rintro en w5 ⟨rfl, hb⟩; have HD := Aside0.mk (HB.out.trans hb); clear hb)
    go_ret2
    exact ⟨rfl, HD.out⟩
 ·rw [if_neg c1] at H
  obtain ⟨rfl, rfl⟩ := Prod.mk.inj (Option.some.inj H)
  have c1b0 : (t == 0) = false := beq_eq_false_iff_ne.mpr c1
  have c1b1 : (t != 0) = true := bne_iff_ne.mpr c1
  clear H c1
  go_enter Tryd.func32, Tryd.ntmps32
  go_wp2_with (go_at_call 34; refine (tree_Right.calls k A0 c0 l0 t _ HR0.out HC0.out A1.out).mono ?_; rintro en w1 ⟨rfl, hb1⟩; have HB1 := Aside0.mk hb1; clear hb1)
  go_ret2
  exact ⟨rfl, HB1.out⟩
end Go.Proofs.YtafjlibcdlihcaaDoor.G
end
section
namespace Go.Proofs.YtafjlibcdlihcaaDoor.G
open Go.RowKit Go.Proofs.YtafjlibcdlihcaaDoorW.PrintWords Go.Proofs.YtafjlibcdlihcaaDoorW.PrintLast Go.Proofs.YtafjlibcdlihcaaDoorW.PrintMore
attribute [local go_sem] max2_int min2_int max_two min_two max_three min_three max_four min_four   -- for this text's walks alone
set_option linter.unusedVariables false
set_option linter.unusedSimpArgs false
def barqueref09_shared.l0 : Nat → ByteArray → ByteArray → Int → Option (Int)
 | 0, _, _, _ => none
 | k + 1, x0, x1, x5 => if x5 < (x0.size : Int) then (if x5 < (x1.size : Int) then (if 0 ≤ x5 then (if (bt x0 x5) = (bt x1 x5) then (barqueref09_shared.l0 k x0 x1 (wrap64 (x5 + 1))) else (some x5)) else (none)) else (some x5)) else (some x5)
def barqueref09_shared.f (k : Nat) (a0 : ByteArray) (a1 : ByteArray) : Option (Int) := barqueref09_shared.l0 k a0 a1 0
theorem barqueref09_shared.mono_l : ∀ k, (∀ y0 y1 y2, LeO (barqueref09_shared.l0 k y0 y1 y2) (barqueref09_shared.l0 (k + 1) y0 y1 y2))
 | 0 => fun _ _ _ r h => by simp [barqueref09_shared.l0] at h
 | k + 1 => by
  have ih0 := barqueref09_shared.mono_l k
  ·intro y0 y1 y2
   unfold barqueref09_shared.l0
   repeat' first
   | (with_reducible exact ih0 _ _ _)
   | (with_reducible exact LeO.refl _)
   | (with_reducible exact LeO.none _)
   | (with_reducible refine LeO.ite ?_ ?_)
   | (with_reducible refine LeO.bind ?_ (fun _ => ?_))
   | exact ih0 _ _ _
   | exact LeO.none _
   | refine LeO.ite ?_ ?_
   | refine LeO.bind ?_ (fun _ => ?_)
theorem barqueref09_shared.mono : ∀ a0 a1 k, LeO (barqueref09_shared.f k a0 a1) (barqueref09_shared.f (k + 1) a0 a1) := by
 intro a0 a1 k
 have ih0 := barqueref09_shared.mono_l k
 unfold barqueref09_shared.f
 repeat' first
   | (with_reducible exact ih0 _ _ _)
   | (with_reducible exact LeO.refl _)
   | (with_reducible exact LeO.none _)
   | (with_reducible refine LeO.ite ?_ ?_)
   | (with_reducible refine LeO.bind ?_ (fun _ => ?_))
   | exact ih0 _ _ _
   | exact LeO.none _
   | refine LeO.ite ?_ ?_
   | refine LeO.bind ?_ (fun _ => ?_)
set_option maxHeartbeats 8000000 in
set_option maxRecDepth 100000 in
theorem barqueref09_shared.calls (k : Nat) (a0 : ByteArray) (a1 : ByteArray) (r : Int) (w : World) (h : barqueref09_shared.f k a0 a1 = some r) :
  Calls Tryd.prog 63 #[.string a0, .string a1] w fun e w' => e = .returned (.int .i64 r) ∧ Drawn0 w w' := by
 have H : (barqueref09_shared.l0 k a0 a1 0) = some r := h
 clear h
 have H' := Aside0.mk H
 clear H
 go_enter Tryd.func63, Tryd.ntmps63
 go_wp2
 repeat (go_quiet (fail); try go_wp2)
 go_loopg [5] k (fun kq v5 w' => ∃ (x5_1 : Int), v5 = .int .i64 x5_1 ∧ Aside0 (barqueref09_shared.l0 kq a0 a1 x5_1 = some r) ∧ Aside0 (kq ≤ k) ∧ Drawn0 w w')
 case atStart => exact ⟨(0), (by first | rfl | (simp; done) | (simp [*]; done)), H', ⟨Nat.le_refl _⟩, by repeat (first | exact Drawn0.refl _ | apply Drawn0.step)⟩
 case round =>
  clear H'
  try clear p2
  obtain ⟨x5_1, rfl, HA, HK1, ⟨m1, rfl⟩⟩ := hrel
  cases gk with
  | zero => exact absurd HA.out (by simp [barqueref09_shared.l0])
  | succ k1 =>
   have H := HA.out
   clear HA
   simp only [barqueref09_shared.l0] at H
   by_cases c3 : x5_1 < (a0.size : Int)
   ·rw [if_pos c3] at H
    have c3b0 : decide (x5_1 < (a0.size : Int)) = true := decide_eq_true c3
    clear c3
    by_cases c4 : x5_1 < (a1.size : Int)
    ·rw [if_pos c4] at H
     have c4b0 : decide (x5_1 < (a1.size : Int)) = true := decide_eq_true c4
     clear c4
     by_cases c5 : 0 ≤ x5_1
     ·rw [if_pos c5] at H
      have c5b0 : decide (0 ≤ x5_1) = true := decide_eq_true c5
      clear c5
      by_cases c8 : (bt a0 x5_1) = (bt a1 x5_1)
      ·rw [if_pos c8] at H
       have c8b0 : ((bt a0 x5_1) == (bt a1 x5_1)) = true := beq_iff_eq.mpr c8
       have c8b1 : ((bt a0 x5_1) != (bt a1 x5_1)) = false := bne_eq_false_iff_eq.mpr c8
       clear c8
       have H' := Aside0.mk H
       clear H
       have p6 : 0 ≤ (x5_1 : Int) := of_decide_eq_true (by first | (with_reducible assumption) | assumption)
       have q6 : x5_1 < (a0.size : Int) := of_decide_eq_true (by first | (with_reducible assumption) | assumption)
       have hx6 := bt_at a0 x5_1
       replace p6 := eq_true p6
       replace q6 := eq_true q6
       have p7 : 0 ≤ (x5_1 : Int) := of_decide_eq_true (by first | (with_reducible assumption) | assumption)
       have q7 : x5_1 < (a1.size : Int) := of_decide_eq_true (by first | (with_reducible assumption) | assumption)
       have hx7 := bt_at a1 x5_1
       replace p7 := eq_true p7
       replace q7 := eq_true q7
       go_wp2
       repeat (go_quiet (fail); try go_wp2)
       go_roundg k1
       case measure => have := HK1.out; omega
       case rel => exact ⟨(wrap64 (x5_1 + 1)), (by first | rfl | (simp; done) | (simp [*]; done)), H', ⟨by have := HK1.out; omega⟩, by repeat (first | exact Drawn0.refl _ | apply Drawn0.step)⟩
      ·rw [if_neg c8] at H
       have c8b0 : ((bt a0 x5_1) == (bt a1 x5_1)) = false := beq_eq_false_iff_ne.mpr c8
       have c8b1 : ((bt a0 x5_1) != (bt a1 x5_1)) = true := bne_iff_ne.mpr c8
       obtain rfl := Option.some.inj H
       have p6 : 0 ≤ (x5_1 : Int) := of_decide_eq_true (by first | (with_reducible assumption) | assumption)
       have q6 : x5_1 < (a0.size : Int) := of_decide_eq_true (by first | (with_reducible assumption) | assumption)
       have hx6 := bt_at a0 x5_1
       replace p6 := eq_true p6
       replace q6 := eq_true q6
       have p7 : 0 ≤ (x5_1 : Int) := of_decide_eq_true (by first | (with_reducible assumption) | assumption)
       have q7 : x5_1 < (a1.size : Int) := of_decide_eq_true (by first | (with_reducible assumption) | assumption)
       have hx7 := bt_at a1 x5_1
       replace p7 := eq_true p7
       replace q7 := eq_true q7
       go_wp2
       repeat (go_quiet (fail); try go_wp2)
       go_ret
       exact ⟨by first | rfl | (simp; done) | (simp [*]; done), by repeat (first | exact Drawn0.refl _ | apply Drawn0.step)⟩
     ·rw [if_neg c5] at H
      exact absurd H (by simp)
    ·rw [if_neg c4] at H
     have c4b0 : decide (x5_1 < (a1.size : Int)) = false := decide_eq_false c4
     clear c4
     obtain rfl := Option.some.inj H
     go_wp2
     repeat (go_quiet (fail); try go_wp2)
     go_ret
     exact ⟨by first | rfl | (simp; done) | (simp [*]; done), by repeat (first | exact Drawn0.refl _ | apply Drawn0.step)⟩
   ·rw [if_neg c3] at H
    have c3b0 : decide (x5_1 < (a0.size : Int)) = false := decide_eq_false c3
    clear c3
    obtain rfl := Option.some.inj H
    go_wp2
    repeat (go_quiet (fail); try go_wp2)
    go_ret
    exact ⟨by first | rfl | (simp; done) | (simp [*]; done), by repeat (first | exact Drawn0.refl _ | apply Drawn0.step)⟩
end Go.Proofs.YtafjlibcdlihcaaDoor.G
end
section
namespace Go.Proofs.YtafjlibcdlihcaaDoor.G
open Go.RowKit Go.Proofs.YtafjlibcdlihcaaDoorW.PrintWords Go.Proofs.YtafjlibcdlihcaaDoorW.PrintLast Go.Proofs.YtafjlibcdlihcaaDoorW.PrintMore
set_option linter.unusedVariables false
set_option linter.unusedSimpArgs false
def comL : List UInt8 → List UInt8 → Nat
 | a :: x, b :: y => if a = b then comL x y + 1 else 0
 | _, _ => 0
theorem comL_le : ∀ a b : List UInt8, comL a b ≤ a.length ∧ comL a b ≤ b.length
 | [], b => by simp [comL]
 | a :: x, [] => by simp [comL]
 | a :: x, b :: y => by
  have := comL_le x y
  unfold comL
  split
  ·simp only [List.length_cons]; omega
  ·exact ⟨Nat.zero_le _, Nat.zero_le _⟩
theorem u8_int_ (a b : UInt8) : ((a.toNat : Int) = (b.toNat : Int)) ↔ a = b := ⟨fun e => UInt8.toNat_inj.1 (Int.ofNat.inj e), fun e => by rw [e]⟩
theorem shared_l0 (a b : ByteArray) (ha : a.size ≤ 140737488351232) (hb : b.size ≤ 140737488351232) (m : Nat) (hm : m = min a.size b.size) : ∀ (d i : Nat), m - i = d → i ≤ m →
  Ev (fun k => tree_shared.l0 k a b i) ((i + comL (a.data.toList.drop i) (b.data.toList.drop i) : Nat) : Int) := by
 have hmn : mn (a.size : Int) (b.size : Int) = (m : Int) := by unfold mn; split <;> omega
 intro d
 induction d with
 | zero =>
  intro i hd hi
  apply Ev.step
  ·intro k; rw [tree_shared.l0]
  have c1 : ¬ ((i : Int) < (m : Int)) := by omega
  simp only [hmn, c1, ↓reduceIte]
  have e : comL (a.data.toList.drop i) (b.data.toList.drop i) = 0 := by
   have h := comL_le (a.data.toList.drop i) (b.data.toList.drop i)
   rw [List.length_drop, List.length_drop, sz_, sz_] at h
   omega
  rw [e]
  exact Ev.now _
 | succ d ih =>
  intro i hd hi
  have hd1 : m - (i + 1) = d := by omega
  have hi1 : i + 1 ≤ m := by omega
  have h1 : i < a.size := by omega
  have h2 : i < b.size := by omega
  have hla : i < a.data.toList.length := by rw [sz_]; exact h1
  have hlb : i < b.data.toList.length := by rw [sz_]; exact h2
  apply Ev.step
  ·intro k; rw [tree_shared.l0]
  have c1 : ((i : Int) < (m : Int)) := by omega
  have c2 : (0 : Int) ≤ (i : Int) := by omega
  have c3 : ((i : Int) < (a.size : Int)) := by omega
  have c4 : ((i : Int) < (b.size : Int)) := by omega
  have hw : wrap64 ((i : Int) + 1) = ((i + 1 : Nat) : Int) := by rw [w64_ (by omega) (by omega)]; omega
  simp only [hmn, c1, c2, c3, c4, ↓reduceIte, bt_nat a i h1, bt_nat b i h2, u8_int_, hw]
  have hih := ih (i + 1) hd1 hi1
  rw [List.drop_eq_getElem_cons hla, List.drop_eq_getElem_cons hlb, comL]
  by_cases h : a.data.toList[i]'hla = b.data.toList[i]'hlb
  ·simp only [h, ↓reduceIte]
   have e : i + (comL (a.data.toList.drop (i + 1)) (b.data.toList.drop (i + 1)) + 1) = i + 1 + comL (a.data.toList.drop (i + 1)) (b.data.toList.drop (i + 1)) := by omega
   rw [e]
   exact hih
  ·simp only [h, ↓reduceIte]
   exact Ev.now _
theorem shared_ev (a b : ByteArray) (ha : a.size ≤ 140737488351232) (hb : b.size ≤ 140737488351232) : Ev (fun k => tree_shared.f k a b) ((comL a.data.toList b.data.toList : Nat) : Int) := by
 unfold tree_shared.f
 have h := shared_l0 a b ha hb _ rfl (min a.size b.size) 0 (by omega) (by omega)
 simpa using h
theorem refshared_l0 (a b : ByteArray) (ha : a.size ≤ 140737488351232) (hb : b.size ≤ 140737488351232) : ∀ (d i : Nat), a.size - i = d → i ≤ a.size →
  Ev (fun k => barqueref09_shared.l0 k a b i) ((i + comL (a.data.toList.drop i) (b.data.toList.drop i) : Nat) : Int) := by
 intro d
 induction d with
 | zero =>
  intro i hd hi
  apply Ev.step
  ·intro k; rw [barqueref09_shared.l0]
  have c1 : ¬ ((i : Int) < (a.size : Int)) := by omega
  simp only [c1, ↓reduceIte]
  have e : comL (a.data.toList.drop i) (b.data.toList.drop i) = 0 := by
   have h := comL_le (a.data.toList.drop i) (b.data.toList.drop i)
   rw [List.length_drop, List.length_drop, sz_, sz_] at h
   omega
  rw [e]
  exact Ev.now _
 | succ d ih =>
  intro i hd hi
  have h1 : i < a.size := by omega
  have hla : i < a.data.toList.length := by rw [sz_]; exact h1
  apply Ev.step
  ·intro k; rw [barqueref09_shared.l0]
  have c2 : (0 : Int) ≤ (i : Int) := by omega
  have c3 : ((i : Int) < (a.size : Int)) := by omega
  have hw : wrap64 ((i : Int) + 1) = ((i + 1 : Nat) : Int) := by rw [w64_ (by omega) (by omega)]; omega
  by_cases h2 : i < b.size
  ·have hlb : i < b.data.toList.length := by rw [sz_]; exact h2
   have c4 : ((i : Int) < (b.size : Int)) := by omega
   simp only [c2, c3, c4, ↓reduceIte, bt_nat a i h1, bt_nat b i h2, u8_int_, hw]
   have hih := ih (i + 1) (by omega) (by omega)
   rw [List.drop_eq_getElem_cons hla, List.drop_eq_getElem_cons hlb, comL]
   by_cases h : a.data.toList[i]'hla = b.data.toList[i]'hlb
   ·simp only [h, ↓reduceIte]
    have e : i + (comL (a.data.toList.drop (i + 1)) (b.data.toList.drop (i + 1)) + 1) = i + 1 + comL (a.data.toList.drop (i + 1)) (b.data.toList.drop (i + 1)) := by omega
    rw [e]
    exact hih
   ·simp only [h, ↓reduceIte]
    exact Ev.now _
  ·have c4 : ¬ ((i : Int) < (b.size : Int)) := by omega
   simp only [c3, c4, ↓reduceIte]
   have e : comL (a.data.toList.drop i) (b.data.toList.drop i) = 0 := by
    have h := comL_le (a.data.toList.drop i) (b.data.toList.drop i)
    rw [List.length_drop, List.length_drop, sz_, sz_] at h
    omega
   rw [e]
   exact Ev.now _
theorem refshared_ev (a b : ByteArray) (ha : a.size ≤ 140737488351232) (hb : b.size ≤ 140737488351232) : Ev (fun k => barqueref09_shared.f k a b) ((comL a.data.toList b.data.toList : Nat) : Int) := by
 unfold barqueref09_shared.f
 have h := refshared_l0 a b ha hb a.size 0 (by omega) (by omega)
 simpa using h
end Go.Proofs.YtafjlibcdlihcaaDoor.G
end
section
namespace Go.Proofs.YtafjlibcdlihcaaDoor.G
open Go.RowKit Go.Proofs.YtafjlibcdlihcaaDoorW.PrintWords Go.Proofs.YtafjlibcdlihcaaDoorW.PrintLast Go.Proofs.YtafjlibcdlihcaaDoorW.PrintMore
attribute [local go_sem] max2_int min2_int max_two min_two max_three min_three max_four min_four   -- for this text's walks alone
set_option linter.unusedVariables false
set_option linter.unusedSimpArgs false
def code_Reader_Err.f (s0_0 : ByteArray) (s0_1 : Int) (s0_2 : Int) : Option (Int × ByteArray × Int × Int) := some (s0_2, s0_0, s0_1, s0_2)
set_option maxHeartbeats 8000000 in
set_option maxRecDepth 100000 in
theorem code_Reader_Err.calls (g : Nat) (s0_0 : ByteArray) (s0_1 : Int) (s0_2 : Int) (r1 : Int) (r2 : ByteArray) (r3 : Int) (r4 : Int) (w0 w : World) (hI : IsS105 w0 w g s0_0 s0_1 s0_2) (hB : Below w0.heap.size w0 w) (h : code_Reader_Err.f s0_0 s0_1 s0_2 = some (r1, r2, r3, r4)) :
  Calls Tryd.prog 74 #[.pointer (some ⟨g, 0, none⟩)] w fun e w' => e = .returned (.int .i64 r1) ∧ IsS105 w0 w' g r2 r3 r4 ∧ Below w0.heap.size w0 w' ∧ KeepBut w w' g none := by
 have HI0 := Aside0.mk hI
 have HK := Aside0.mk (KeepBut.refl w g none)
 have HL := Aside0.mk hB.size
 clear hI
 have HW0 := Aside0.mk hB.size
 have HB := Aside0.mk hB
 clear hB
 have H : (some (s0_2, s0_0, s0_1, s0_2)) = some (r1, r2, r3, r4) := h
 clear h
 simp only [Option.some.injEq, Prod.mk.injEq] at H
 obtain ⟨rfl, rfl, rfl, rfl⟩ := H
 obtain ⟨HGz2, hgz2⟩ := HI0.out
 have hcz2_0 := cellS105_0 HGz2
 have hcz2_1 := cellS105_1 HGz2
 have hcz2_2 := cellS105_2 HGz2
 have hfz2_0 := blk_frozen HGz2 0
 have hfz2_1 := blk_frozen HGz2 1
 have hfz2_2 := blk_frozen HGz2 2
 clear HGz2 hgz2
 go_enter Tryd.func74, Tryd.ntmps74
 go_wp2
 go_ret
 exact ⟨by first | rfl | (simp [errW_none, errW_some] <;> rfl) | (simp [*, errW_none, errW_some] <;> rfl), by repeat (first | (with_reducible first | exact HI0.out | apply IsS105.alloc | apply IsS105.drewN | apply IsS105.drew | apply IsS105.set_0 | apply IsS105.set_1 | apply IsS105.set_2) | exact HI0.out), by repeat (first | (with_reducible first | exact HB.out | apply below_alloc | apply pw_below_drewN | apply below_drew1 | refine below_set ?_ (IsS105.ge HI0.out)) | exact HB.out), by repeat (first | (with_reducible first | exact HK.out | apply KeepBut.set_ | apply keep_drewN | apply keep_drew | apply keep_alloc) | exact HK.out)⟩
end Go.Proofs.YtafjlibcdlihcaaDoor.G
end
section
namespace Go.Proofs.YtafjlibcdlihcaaDoor.G
open Go.RowKit Go.Proofs.YtafjlibcdlihcaaDoorW.PrintWords Go.Proofs.YtafjlibcdlihcaaDoorW.PrintLast Go.Proofs.YtafjlibcdlihcaaDoorW.PrintMore
attribute [local go_sem] max2_int min2_int max_two min_two max_three min_three max_four min_four   -- for this text's walks alone
set_option linter.unusedVariables false
set_option linter.unusedSimpArgs false
def code_Reader_End.j0 : Nat → Bool → ByteArray → Int → Int → Option (Int × ByteArray × Int × Int)
 | 0, _, _, _, _ => none
 | k + 1, x10, x1000, x1001, x1002 => if x10 = true then ((code_Reader_fail.f x1000 x1001 x1002 4).bind fun bt636 => ((code_Reader_Err.f bt636.1 bt636.2.1 bt636.2.2).bind fun bt639 => (some (bt639.1, bt639.2.1, bt639.2.2.1, bt639.2.2.2)))) else ((code_Reader_Err.f x1000 x1001 x1002).bind fun bt643 => (some (bt643.1, bt643.2.1, bt643.2.2.1, bt643.2.2.2)))
def code_Reader_End.f (k : Nat) (s0_0 : ByteArray) (s0_1 : Int) (s0_2 : Int) : Option (Int × ByteArray × Int × Int) := (code_Reader_off.f s0_0 s0_1 s0_2).bind fun bt628 => (if bt628.1 = true then (code_Reader_End.j0 k false bt628.2.1 bt628.2.2.1 bt628.2.2.2) else ((code_Reader_Left.f bt628.2.1 bt628.2.2.1 bt628.2.2.2).bind fun bt632 => (code_Reader_End.j0 k (decide (bt632.1 > 0)) bt632.2.1 bt632.2.2.1 bt632.2.2.2)))
theorem code_Reader_End.mono_l : ∀ k, (∀ y0 y1 y2 y3, LeO (code_Reader_End.j0 k y0 y1 y2 y3) (code_Reader_End.j0 (k + 1) y0 y1 y2 y3))
 | 0 => fun _ _ _ _ r h => by simp [code_Reader_End.j0] at h
 | k + 1 => by
  have ih0 := code_Reader_End.mono_l k
  ·intro y0 y1 y2 y3
   unfold code_Reader_End.j0
   repeat' first
   | (with_reducible exact ih0 _ _ _ _)
   | (with_reducible exact LeO.refl _)
   | (with_reducible exact LeO.none _)
   | (with_reducible refine LeO.ite ?_ ?_)
   | (with_reducible refine LeO.bind ?_ (fun _ => ?_))
   | exact ih0 _ _ _ _
   | exact LeO.none _
   | refine LeO.ite ?_ ?_
   | refine LeO.bind ?_ (fun _ => ?_)
theorem code_Reader_End.mono : ∀ a0 a1 a2 k, LeO (code_Reader_End.f k a0 a1 a2) (code_Reader_End.f (k + 1) a0 a1 a2) := by
 intro a0 a1 a2 k
 have ih0 := code_Reader_End.mono_l k
 unfold code_Reader_End.f
 repeat' first
   | (with_reducible exact ih0 _ _ _ _)
   | (with_reducible exact LeO.refl _)
   | (with_reducible exact LeO.none _)
   | (with_reducible refine LeO.ite ?_ ?_)
   | (with_reducible refine LeO.bind ?_ (fun _ => ?_))
   | exact ih0 _ _ _ _
   | exact LeO.none _
   | refine LeO.ite ?_ ?_
   | refine LeO.bind ?_ (fun _ => ?_)
set_option maxHeartbeats 8000000 in
set_option maxRecDepth 100000 in
theorem code_Reader_End.calls (k : Nat) (g : Nat) (s0_0 : ByteArray) (s0_1 : Int) (s0_2 : Int) (r1 : Int) (r2 : ByteArray) (r3 : Int) (r4 : Int) (w0 w : World) (hI : IsS105 w0 w g s0_0 s0_1 s0_2) (hB : Below w0.heap.size w0 w) (h : code_Reader_End.f k s0_0 s0_1 s0_2 = some (r1, r2, r3, r4)) :
  Calls Tryd.prog 75 #[.pointer (some ⟨g, 0, none⟩)] w fun e w' => e = .returned (.int .i64 r1) ∧ IsS105 w0 w' g r2 r3 r4 ∧ Below w0.heap.size w0 w' ∧ KeepBut w w' g none := by
 have HI0 := Aside0.mk hI
 have HK := Aside0.mk (KeepBut.refl w g none)
 have HL := Aside0.mk hB.size
 clear hI
 have HW0 := Aside0.mk hB.size
 have HB := Aside0.mk hB
 clear hB
 have H : ((code_Reader_off.f s0_0 s0_1 s0_2).bind fun bt628 => (if bt628.1 = true then (code_Reader_End.j0 k false bt628.2.1 bt628.2.2.1 bt628.2.2.2) else ((code_Reader_Left.f bt628.2.1 bt628.2.2.1 bt628.2.2.2).bind fun bt632 => (code_Reader_End.j0 k (decide (bt632.1 > 0)) bt632.2.1 bt632.2.2.1 bt632.2.2.2)))) = some (r1, r2, r3, r4) := h
 clear h
 have HC2 := Aside0.mk H
 clear H
 go_enter Tryd.func75, Tryd.ntmps75
 go_upto_region 1 with (fail)
 go_cut [10] (fun v10 wc => ∃ (kq : Nat) (x10_1 : Bool) (x1000_1 : ByteArray) (x1001_1 : Int) (x1002_1 : Int), v10 = .bool x10_1 ∧ Aside0 (code_Reader_End.j0 kq x10_1 x1000_1 x1001_1 x1002_1 = some (r1, r2, r3, r4)) ∧ Aside0 (kq ≤ k) ∧ Aside0 (IsS105 w0 wc g x1000_1 x1001_1 x1002_1) ∧ Aside0 (KeepBut w wc g none) ∧ Aside0 (Below w0.heap.size w0 wc))
 case first =>
  have H := HC2.out
  clear HC2
  replace H := Option.bind_eq_some_iff.mp H
  obtain ⟨⟨t628, t629, t630, t631⟩, A30, H⟩ := H
  replace H : (if t628 = true then (code_Reader_End.j0 k false t629 t630 t631) else ((code_Reader_Left.f t629 t630 t631).bind fun bt632 => (code_Reader_End.j0 k (decide (bt632.1 > 0)) bt632.2.1 bt632.2.2.1 bt632.2.2.2))) = some (r1, r2, r3, r4) := H
  have A3 := Aside0.mk A30
  clear A30
  by_cases c4 : t628 = true
  ·subst c4
   have H1 : (code_Reader_End.j0 k false t629 t630 t631) = some (r1, r2, r3, r4) := by rw [if_pos rfl] at H; exact H
   clear H
   have H := H1
   clear H1
   have H' := Aside0.mk H
   clear H
   go_wp2_with (first | ((with_reducible refine gate_callee (f := 92) rfl ?_); refine goesL_ (some 4) rfl rfl Tryd.func92 (by kernel_rfl) rfl #[.pointer (some ⟨g, 0, none⟩)] rfl (by (try simp only [List.map_toArray, List.map_cons, List.map_nil]); first | done | rfl | (simp only [List.length_drop, List.length_take]; rfl)) ?_; (with_reducible refine (code_Reader_off.calls g s0_0 s0_1 s0_2 true t629 t630 t631 w0 _ ?side1 ?side2 A3.out).mono ?_); (case side1 => repeat (first | (with_reducible first | exact HI0.out | apply IsS105.alloc | apply IsS105.drewN | apply IsS105.drew | apply IsS105.set_0 | apply IsS105.set_1 | apply IsS105.set_2) | exact HI0.out)); (case side2 => repeat (first | (with_reducible first | exact HB.out | apply below_alloc | apply pw_below_drewN | apply below_drew1 | refine below_set ?_ (IsS105.ge HI0.out)) | exact HB.out)); rintro e w5 ⟨rfl, hi, hb, hk⟩; refine ⟨_, rfl, ?_⟩; have n0_ := Aside0.mk (KeepBut.trans (by repeat (first | (with_reducible first | exact HK.out | apply KeepBut.set_ | apply keep_drewN | apply keep_drew | apply keep_alloc) | exact HK.out)) hk (.inl rfl)); have n1_ := Aside0.mk (hb); have n2_ := Aside0.mk (hi); clear HK; clear HB; clear HI0; have HK := n0_; have HB := n1_; have HI0 := n2_; clear n0_ n1_ n2_; (try clear hb); (try clear hb2); (try clear hk); (try clear hi)))
   go_meet
   case rel => exact ⟨_, (false), (t629), (t630), (t631), (by first | rfl | (simp; done) | (simp [*]; done)), H', ⟨by first | omega | exact Nat.le_refl _⟩, ⟨by repeat (first | (with_reducible first | exact HI0.out | apply IsS105.alloc | apply IsS105.drewN | apply IsS105.drew | apply IsS105.set_0 | apply IsS105.set_1 | apply IsS105.set_2) | exact HI0.out)⟩, ⟨by repeat (first | (with_reducible first | exact HK.out | apply KeepBut.set_ | apply keep_drewN | apply keep_drew | apply keep_alloc) | exact HK.out)⟩, ⟨by repeat (first | (with_reducible first | exact HB.out | apply below_alloc | apply pw_below_drewN | apply below_drew1 | refine below_set ?_ (IsS105.ge HI0.out)) | exact HB.out)⟩⟩
  ·replace c4 := Bool.eq_false_iff.mpr c4
   subst c4
   have H1 : ((code_Reader_Left.f t629 t630 t631).bind fun bt632 => (code_Reader_End.j0 k (decide (bt632.1 > 0)) bt632.2.1 bt632.2.2.1 bt632.2.2.2)) = some (r1, r2, r3, r4) := by rw [if_neg (show ¬ (false = true) by decide)] at H; exact H
   clear H
   have H := H1
   clear H1
   replace H := Option.bind_eq_some_iff.mp H
   obtain ⟨⟨t632, t633, t634, t635⟩, A60, H⟩ := H
   replace H : (code_Reader_End.j0 k (decide (t632 > 0)) t633 t634 t635) = some (r1, r2, r3, r4) := H
   have A6 := Aside0.mk A60
   clear A60
   have H' := Aside0.mk H
   clear H
   go_wp2_with (first | ((with_reducible refine gate_callee (f := 92) rfl ?_); refine goesL_ (some 4) rfl rfl Tryd.func92 (by kernel_rfl) rfl #[.pointer (some ⟨g, 0, none⟩)] rfl (by (try simp only [List.map_toArray, List.map_cons, List.map_nil]); first | done | rfl | (simp only [List.length_drop, List.length_take]; rfl)) ?_; (with_reducible refine (code_Reader_off.calls g s0_0 s0_1 s0_2 false t629 t630 t631 w0 _ ?side1 ?side2 A3.out).mono ?_); (case side1 => repeat (first | (with_reducible first | exact HI0.out | apply IsS105.alloc | apply IsS105.drewN | apply IsS105.drew | apply IsS105.set_0 | apply IsS105.set_1 | apply IsS105.set_2) | exact HI0.out)); (case side2 => repeat (first | (with_reducible first | exact HB.out | apply below_alloc | apply pw_below_drewN | apply below_drew1 | refine below_set ?_ (IsS105.ge HI0.out)) | exact HB.out)); rintro e w7 ⟨rfl, hi, hb, hk⟩; refine ⟨_, rfl, ?_⟩; have n0_ := Aside0.mk (KeepBut.trans (by repeat (first | (with_reducible first | exact HK.out | apply KeepBut.set_ | apply keep_drewN | apply keep_drew | apply keep_alloc) | exact HK.out)) hk (.inl rfl)); have n1_ := Aside0.mk (hb); have n2_ := Aside0.mk (hi); clear HK; clear HB; clear HI0; have HK := n0_; have HB := n1_; have HI0 := n2_; clear n0_ n1_ n2_; (try clear hb); (try clear hb2); (try clear hk); (try clear hi)) | (go_at_call 95; (with_reducible refine (code_Reader_Left.calls g t629 t630 t631 t632 t633 t634 t635 w0 _ ?side1 ?side2 A6.out).mono ?_); (case side1 => repeat (first | (with_reducible first | exact HI0.out | apply IsS105.alloc | apply IsS105.drewN | apply IsS105.drew | apply IsS105.set_0 | apply IsS105.set_1 | apply IsS105.set_2) | exact HI0.out)); (case side2 => repeat (first | (with_reducible first | exact HB.out | apply below_alloc | apply pw_below_drewN | apply below_drew1 | refine below_set ?_ (IsS105.ge HI0.out)) | exact HB.out)); rintro e w8 ⟨rfl, hi, hb, hk⟩; have n0_ := Aside0.mk (KeepBut.trans (by repeat (first | (with_reducible first | exact HK.out | apply KeepBut.set_ | apply keep_drewN | apply keep_drew | apply keep_alloc) | exact HK.out)) hk (.inl rfl)); have n1_ := Aside0.mk (hb); have n2_ := Aside0.mk (hi); clear HK; clear HB; clear HI0; have HK := n0_; have HB := n1_; have HI0 := n2_; clear n0_ n1_ n2_; (try clear hb); (try clear hb2); (try clear hk); (try clear hi)))
   go_meet
   case rel => exact ⟨_, (decide (t632 > 0)), (t633), (t634), (t635), (by first | rfl | (simp; done) | (simp [*]; done)), H', ⟨by first | omega | exact Nat.le_refl _⟩, ⟨by repeat (first | (with_reducible first | exact HI0.out | apply IsS105.alloc | apply IsS105.drewN | apply IsS105.drew | apply IsS105.set_0 | apply IsS105.set_1 | apply IsS105.set_2) | exact HI0.out)⟩, ⟨by repeat (first | (with_reducible first | exact HK.out | apply KeepBut.set_ | apply keep_drewN | apply keep_drew | apply keep_alloc) | exact HK.out)⟩, ⟨by repeat (first | (with_reducible first | exact HB.out | apply below_alloc | apply pw_below_drewN | apply below_drew1 | refine below_set ?_ (IsS105.ge HI0.out)) | exact HB.out)⟩⟩
 case rest =>
  clear HC2
  try clear p2
  try clear c4
  try clear c7
  obtain ⟨kq, x10_1, x1000_1, x1001_1, x1002_1, rfl, HA, HJ1, HI0, HK, HB⟩ := hcut
  cases kq with
  | zero => exact absurd HA.out (by simp [code_Reader_End.j0])
  | succ kj1 =>
   have H := HA.out
   clear HA
   simp only [code_Reader_End.j0] at H
   by_cases c9 : x10_1 = true
   ·subst c9
    have H1 : ((code_Reader_fail.f x1000_1 x1001_1 x1002_1 4).bind fun bt636 => ((code_Reader_Err.f bt636.1 bt636.2.1 bt636.2.2).bind fun bt639 => (some (bt639.1, bt639.2.1, bt639.2.2.1, bt639.2.2.2)))) = some (r1, r2, r3, r4) := by rw [if_pos rfl] at H; exact H
    clear H
    have H := H1
    clear H1
    replace H := Option.bind_eq_some_iff.mp H
    obtain ⟨⟨t636, t637, t638⟩, A100, H⟩ := H
    replace H : ((code_Reader_Err.f t636 t637 t638).bind fun bt639 => (some (bt639.1, bt639.2.1, bt639.2.2.1, bt639.2.2.2))) = some (r1, r2, r3, r4) := H
    have A10 := Aside0.mk A100
    clear A100
    replace H := Option.bind_eq_some_iff.mp H
    obtain ⟨⟨t639, t640, t641, t642⟩, A110, H⟩ := H
    replace H : (some (t639, t640, t641, t642)) = some (r1, r2, r3, r4) := H
    have A11 := Aside0.mk A110
    clear A110
    simp only [Option.some.injEq, Prod.mk.injEq] at H
    obtain ⟨rfl, rfl, rfl, rfl⟩ := H
    go_wp2_with (first | ((with_reducible refine gate_callee (f := 93) rfl ?_); refine goesL_ (some 12) rfl rfl Tryd.func93 (by kernel_rfl) rfl #[.pointer (some ⟨g, 0, none⟩), .int .i64 4] rfl (by (try simp only [List.map_toArray, List.map_cons, List.map_nil]); first | done | rfl | (simp only [List.length_drop, List.length_take]; rfl)) ?_; (with_reducible refine (code_Reader_fail.calls g x1000_1 x1001_1 x1002_1 4 t636 t637 t638 w0 _ ?side1 ?side2 A10.out).mono ?_); (case side1 => repeat (first | (with_reducible first | exact HI0.out | apply IsS105.alloc | apply IsS105.drewN | apply IsS105.drew | apply IsS105.set_0 | apply IsS105.set_1 | apply IsS105.set_2) | exact HI0.out)); (case side2 => repeat (first | (with_reducible first | exact HB.out | apply below_alloc | apply pw_below_drewN | apply below_drew1 | refine below_set ?_ (IsS105.ge HI0.out)) | exact HB.out)); rintro e w12 ⟨rfl, hi, hb, hk⟩; refine ⟨_, rfl, ?_⟩; have n0_ := Aside0.mk (KeepBut.trans (by repeat (first | (with_reducible first | exact HK.out | apply KeepBut.set_ | apply keep_drewN | apply keep_drew | apply keep_alloc) | exact HK.out)) hk (.inl rfl)); have n1_ := Aside0.mk (hb); have n2_ := Aside0.mk (hi); clear HK; clear HB; clear HI0; have HK := n0_; have HB := n1_; have HI0 := n2_; clear n0_ n1_ n2_; (try clear hb); (try clear hb2); (try clear hk); (try clear hi)) | ((with_reducible refine gate_callee (f := 74) rfl ?_); refine goesL_ (some 14) rfl rfl Tryd.func74 (by kernel_rfl) rfl #[.pointer (some ⟨g, 0, none⟩)] rfl (by (try simp only [List.map_toArray, List.map_cons, List.map_nil]); first | done | rfl | (simp only [List.length_drop, List.length_take]; rfl)) ?_; (with_reducible refine (code_Reader_Err.calls g t636 t637 t638 t639 t640 t641 t642 w0 _ ?side1 ?side2 A11.out).mono ?_); (case side1 => repeat (first | (with_reducible first | exact HI0.out | apply IsS105.alloc | apply IsS105.drewN | apply IsS105.drew | apply IsS105.set_0 | apply IsS105.set_1 | apply IsS105.set_2) | exact HI0.out)); (case side2 => repeat (first | (with_reducible first | exact HB.out | apply below_alloc | apply pw_below_drewN | apply below_drew1 | refine below_set ?_ (IsS105.ge HI0.out)) | exact HB.out)); rintro e w13 ⟨rfl, hi, hb, hk⟩; refine ⟨_, rfl, ?_⟩; have n0_ := Aside0.mk (KeepBut.trans (by repeat (first | (with_reducible first | exact HK.out | apply KeepBut.set_ | apply keep_drewN | apply keep_drew | apply keep_alloc) | exact HK.out)) hk (.inl rfl)); have n1_ := Aside0.mk (hb); have n2_ := Aside0.mk (hi); clear HK; clear HB; clear HI0; have HK := n0_; have HB := n1_; have HI0 := n2_; clear n0_ n1_ n2_; (try clear hb); (try clear hb2); (try clear hk); (try clear hi)))
    go_ret
    exact ⟨by first | rfl | (simp [errW_none, errW_some] <;> rfl) | (simp [*, errW_none, errW_some] <;> rfl), by repeat (first | (with_reducible first | exact HI0.out | apply IsS105.alloc | apply IsS105.drewN | apply IsS105.drew | apply IsS105.set_0 | apply IsS105.set_1 | apply IsS105.set_2) | exact HI0.out), by repeat (first | (with_reducible first | exact HB.out | apply below_alloc | apply pw_below_drewN | apply below_drew1 | refine below_set ?_ (IsS105.ge HI0.out)) | exact HB.out), by repeat (first | (with_reducible first | exact HK.out | apply KeepBut.set_ | apply keep_drewN | apply keep_drew | apply keep_alloc) | exact HK.out)⟩
   ·replace c9 := Bool.eq_false_iff.mpr c9
    subst c9
    have H1 : ((code_Reader_Err.f x1000_1 x1001_1 x1002_1).bind fun bt643 => (some (bt643.1, bt643.2.1, bt643.2.2.1, bt643.2.2.2))) = some (r1, r2, r3, r4) := by rw [if_neg (show ¬ (false = true) by decide)] at H; exact H
    clear H
    have H := H1
    clear H1
    replace H := Option.bind_eq_some_iff.mp H
    obtain ⟨⟨t643, t644, t645, t646⟩, A140, H⟩ := H
    replace H : (some (t643, t644, t645, t646)) = some (r1, r2, r3, r4) := H
    have A14 := Aside0.mk A140
    clear A140
    simp only [Option.some.injEq, Prod.mk.injEq] at H
    obtain ⟨rfl, rfl, rfl, rfl⟩ := H
    go_wp2_with (first | ((with_reducible refine gate_callee (f := 74) rfl ?_); refine goesL_ (some 14) rfl rfl Tryd.func74 (by kernel_rfl) rfl #[.pointer (some ⟨g, 0, none⟩)] rfl (by (try simp only [List.map_toArray, List.map_cons, List.map_nil]); first | done | rfl | (simp only [List.length_drop, List.length_take]; rfl)) ?_; (with_reducible refine (code_Reader_Err.calls g x1000_1 x1001_1 x1002_1 t643 t644 t645 t646 w0 _ ?side1 ?side2 A14.out).mono ?_); (case side1 => repeat (first | (with_reducible first | exact HI0.out | apply IsS105.alloc | apply IsS105.drewN | apply IsS105.drew | apply IsS105.set_0 | apply IsS105.set_1 | apply IsS105.set_2) | exact HI0.out)); (case side2 => repeat (first | (with_reducible first | exact HB.out | apply below_alloc | apply pw_below_drewN | apply below_drew1 | refine below_set ?_ (IsS105.ge HI0.out)) | exact HB.out)); rintro e w15 ⟨rfl, hi, hb, hk⟩; refine ⟨_, rfl, ?_⟩; have n0_ := Aside0.mk (KeepBut.trans (by repeat (first | (with_reducible first | exact HK.out | apply KeepBut.set_ | apply keep_drewN | apply keep_drew | apply keep_alloc) | exact HK.out)) hk (.inl rfl)); have n1_ := Aside0.mk (hb); have n2_ := Aside0.mk (hi); clear HK; clear HB; clear HI0; have HK := n0_; have HB := n1_; have HI0 := n2_; clear n0_ n1_ n2_; (try clear hb); (try clear hb2); (try clear hk); (try clear hi)))
    go_ret
    exact ⟨by first | rfl | (simp [errW_none, errW_some] <;> rfl) | (simp [*, errW_none, errW_some] <;> rfl), by repeat (first | (with_reducible first | exact HI0.out | apply IsS105.alloc | apply IsS105.drewN | apply IsS105.drew | apply IsS105.set_0 | apply IsS105.set_1 | apply IsS105.set_2) | exact HI0.out), by repeat (first | (with_reducible first | exact HB.out | apply below_alloc | apply pw_below_drewN | apply below_drew1 | refine below_set ?_ (IsS105.ge HI0.out)) | exact HB.out), by repeat (first | (with_reducible first | exact HK.out | apply KeepBut.set_ | apply keep_drewN | apply keep_drew | apply keep_alloc) | exact HK.out)⟩
end Go.Proofs.YtafjlibcdlihcaaDoor.G
end
