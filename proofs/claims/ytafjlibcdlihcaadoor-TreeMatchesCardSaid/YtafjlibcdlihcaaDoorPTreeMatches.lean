import Derived.Test.YtafjlibcdlihcaaDoorPm5
import Derived.Test.YtafjlibcdlihcaaDoorPm4
import Derived.Test.YtafjlibcdlihcaaDoorG0
import Derived.Test.YtafjlibcdlihcaaDoorG19
import Derived.Test.YtafjlibcdlihcaaDoorG31
namespace Go.Proofs.YtafjlibcdlihcaaDoor.G
open Go.RowKit Go.Proofs.YtafjlibcdlihcaaDoorW.PrintWords Go.Proofs.YtafjlibcdlihcaaDoorW.PrintLast Go.Proofs.YtafjlibcdlihcaaDoorW.PrintMore
theorem awakeM_ev : Ev (fun k => barquelaw09_awake.f k) true := Ev.of (fun k => barquelaw09_awake.mono k) (k := 60) (by kernel_rfl)
set_option linter.unusedVariables false in
theorem TreeMatches_pure (p s : ByteArray) (hp : p.size ≤ 140737488351232) (hs : s.size ≤ 140737488351232) : ∃ k, barquelaw09_TreeMatches.f k p s = some true := by
  refine Ev.rounds ?_
  unfold barquelaw09_TreeMatches.f
  refine Ev.bind (pat_ev _) (Ev.bind (refpat_ev _) ?_)
  simp only [↓reduceIte]
  refine Ev.bind (match_ev _ _) (Ev.bind (refmatch_ev _ _) ?_)
  simp only [beq_self_eq_true, ↓reduceIte]
  exact Ev.bind awakeM_ev (Ev.now _)
end Go.Proofs.YtafjlibcdlihcaaDoor.G
