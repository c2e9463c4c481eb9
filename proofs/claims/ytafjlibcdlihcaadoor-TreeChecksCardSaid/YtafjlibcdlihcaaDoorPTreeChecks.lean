import Derived.Test.YtafjlibcdlihcaaDoorPt5
import Derived.Test.YtafjlibcdlihcaaDoorG0
import Derived.Test.YtafjlibcdlihcaaDoorG19
import Derived.Test.YtafjlibcdlihcaaDoorG27
namespace Go.Proofs.YtafjlibcdlihcaaDoor.G
open Go.RowKit Go.Proofs.YtafjlibcdlihcaaDoorW.PrintWords Go.Proofs.YtafjlibcdlihcaaDoorW.PrintLast Go.Proofs.YtafjlibcdlihcaaDoorW.PrintMore
theorem awake_ev : Ev (fun k => barquelaw09_awake.f k) true := Ev.of (fun k => barquelaw09_awake.mono k) (k := 60) (by kernel_rfl)
theorem TreeChecks_pure (l : List S58) (hl : l.length ≤ 9223372036854775807) : ∃ k, barquelaw09_TreeChecks.f k l = some true := by
  refine Ev.rounds ?_
  unfold barquelaw09_TreeChecks.f
  by_cases h : (l.length : Int) > 300
  · have h2 : (300 : Int) ≤ (l.length : Int) := by omega
    have hle : (l.take 300).length ≤ 4294967296 := by rw [List.length_take]; omega
    simp only [h, h2, ↓reduceIte, Option.bind_some]
    refine Ev.bind (check_ev _ hle) (Ev.bind (refcheck_ev _ hle) ?_)
    simp only [↓reduceIte]
    exact Ev.bind awake_ev (Ev.now _)
  · have hle : l.length ≤ 4294967296 := by omega
    simp only [h, ↓reduceIte]
    refine Ev.bind (check_ev _ hle) (Ev.bind (refcheck_ev _ hle) ?_)
    simp only [↓reduceIte]
    exact Ev.bind awake_ev (Ev.now _)
end Go.Proofs.YtafjlibcdlihcaaDoor.G
