import Derived.Test.YtafjlibcdlihcaaDoorPt2
import Derived.Test.YtafjlibcdlihcaaDoorG0
import Derived.Test.YtafjlibcdlihcaaDoorG19
import Derived.Test.YtafjlibcdlihcaaDoorG21
import Derived.Test.YtafjlibcdlihcaaDoorG22
namespace Go.Proofs.YtafjlibcdlihcaaDoor.G
open Go.RowKit Go.Proofs.YtafjlibcdlihcaaDoorW.PrintWords Go.Proofs.YtafjlibcdlihcaaDoorW.PrintLast Go.Proofs.YtafjlibcdlihcaaDoorW.PrintMore
set_option linter.unusedSimpArgs false
theorem awake_ev_o : Ev (fun k => barquelaw09_awake.f k) true := Ev.of (fun k => barquelaw09_awake.mono k) (k := 60) (by kernel_rfl)
theorem sign_f (x y : List UInt8) : barquelaw09_sign.f (ordV x y) = some (cmpL x y) := by
  obtain ⟨h1, h2, h3⟩ := ordV_cmp x y
  unfold barquelaw09_sign.f
  rcases cmpL_range x y with h | h | h
  · rw [if_pos (h1.2 (by omega)), h]
  · have := h2.2 h
    rw [if_neg (by omega), if_neg (by omega), h]
  · have := h3.2 (by omega)
    rw [if_neg (by omega), if_pos (by omega), h]
theorem TreeOrderly_pure (a b c : ByteArray) (ha : a.size ≤ 140737488351232) (hb : b.size ≤ 140737488351232) (hc : c.size ≤ 140737488351232) : ∃ k, barquelaw09_TreeOrderly.f k a b c = some true := by
  refine Ev.rounds ?_
  unfold barquelaw09_TreeOrderly.f
  refine Ev.bind (order_ev a b ha hb) ?_
  simp only [sign_f, Option.bind_some]
  refine Ev.bind (order_ev b c hb hc) ?_
  simp only [sign_f, Option.bind_some]
  refine Ev.bind (order_ev a c ha hc) ?_
  simp only [sign_f, Option.bind_some]
  refine Ev.bind (order_ev b a hb ha) ?_
  simp only [sign_f, Option.bind_some]
  have hneg := cmpL_neg a.data.toList b.data.toList
  have hr := cmpL_range a.data.toList b.data.toList
  have hr2 := cmpL_range b.data.toList c.data.toList
  have hr3 := cmpL_range a.data.toList c.data.toList
  have htr := cmpL_trans a.data.toList b.data.toList c.data.toList
  have heq : ((cmpL a.data.toList b.data.toList == 0) != (a.toList == b.toList)) = false := by
    rw [toList_data_, toList_data_]
    by_cases h : a.data.toList = b.data.toList
    · rw [beq_iff_eq.2 ((cmpL_eq _ _).2 h), beq_iff_eq.2 h]; rfl
    · rw [beq_eq_false_iff_ne.2 (fun e => h ((cmpL_eq _ _).1 e)), beq_eq_false_iff_ne.2 h]; rfl
  have hxz : cmpL a.data.toList b.data.toList = 0 → cmpL a.data.toList c.data.toList = cmpL b.data.toList c.data.toList := fun e => by rw [(cmpL_eq _ _).1 e]
  have c1 : cmpL b.data.toList a.data.toList = wrap64 (-(cmpL a.data.toList b.data.toList)) := by rw [hneg, w64_ (by omega) (by omega)]
  simp only [heq, Bool.false_eq_true, ↓reduceIte]
  simp only [c1, ↓reduceIte]
  have fin : Ev (fun n => (barquelaw09_awake.f n).bind fun t => some t) true := Ev.bind awake_ev_o (Ev.now _)
  clear heq hneg c1
  generalize cmpL a.data.toList b.data.toList = x at *
  generalize cmpL b.data.toList c.data.toList = y at *
  generalize cmpL a.data.toList c.data.toList = z at *
  by_cases h1 : x > 0
  · simp only [h1, ↓reduceIte]; exact fin
  by_cases h2 : y > 0
  · simp only [h1, h2, ↓reduceIte]; exact fin
  obtain ⟨h3, h4⟩ := htr (by omega) (by omega)
  by_cases h5 : z < 0
  · simp only [h1, h2, h3, h5, ↓reduceIte]; exact fin
  obtain ⟨h6, h7⟩ := h4 (by omega)
  simp only [h1, h2, h3, h5, h6, h7, ↓reduceIte]
  exact fin
end Go.Proofs.YtafjlibcdlihcaaDoor.G
