/- The plain law of PrioTurns: what the walk asks of the arguments holds of all. -/
import Derived.Test.YtbndichleiameaaDoorQ0
import Derived.Test.YtbndichleiameaaDoorRowT
import Derived.Test.YtbndichleiameaaDoorPPxEostlerlaw10PrioTurns
namespace Go.Proofs.YtbndichleiameaaDoor.Q
set_option linter.unusedVariables false
open PP
theorem PrioTurns (l0 : List Int) (a1 a2 : Int) (h1 : (Lit.int .i64 a1).wf = true) (h2 : (Lit.int .i64 a2).wf = true) (g0 : ∀ x ∈ l0, PR.good3 x) (hb : (l0.map PR.bulk3).sum ≤ 1048576) : ∃ k, ostlerlaw10_PrioTurns.f k l0 a1 a2 = some true := by
  refine ⟨0, ?_⟩
  unfold ostlerlaw10_PrioTurns.f
  rw [if_pos]
  rw [List.all_eq_true]
  exact g0
end Go.Proofs.YtbndichleiameaaDoor.Q
