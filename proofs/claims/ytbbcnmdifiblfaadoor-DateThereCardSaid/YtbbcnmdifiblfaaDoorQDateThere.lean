/- The plain law of DateThere: what is read is written as it was. -/
import Derived.Test.YtbbcnmdifiblfaaDoorQDateA
import Derived.Test.YtbbcnmdifiblfaaDoorPPx17
namespace Go.Proofs.YtbbcnmdifiblfaaDoor.Q
set_option linter.unusedVariables false
open Go.RowKit Go.Proofs.YtbbcnmdifiblfaaDoorW.PrintWords Go.Proofs.YtbbcnmdifiblfaaDoorW.PrintLast Go.Proofs.YtbbcnmdifiblfaaDoorW.PrintMore
open PP
theorem DateThere : ostlerlaw02_DateThere.Pure := by
  intro s hs
  refine ⟨9000, ?_⟩
  unfold ostlerlaw02_DateThere.f
  obtain ⟨x, hx, rfl | ⟨N, y, m, d, r, rfl, hp, rfl⟩⟩ := Parse_any s (k := 9000) (by decide)
  · rw [hx, Option.bind_some, if_neg (by decide), awake02 (by decide), Option.bind_some]; rfl
  · rw [hx, Option.bind_some, if_pos rfl, Format_is hp (by decide), Option.bind_some, awake02 (by decide), Option.bind_some, if_pos rfl, if_pos rfl, beq_self_eq_true]
end Go.Proofs.YtbbcnmdifiblfaaDoor.Q
