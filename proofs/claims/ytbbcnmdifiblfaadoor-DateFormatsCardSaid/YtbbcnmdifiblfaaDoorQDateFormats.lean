/- The plain law of DateFormats: both Formats write the same text of a second. -/
import Derived.Test.YtbbcnmdifiblfaaDoorQDateA
import Derived.Test.YtbbcnmdifiblfaaDoorPPx14
namespace Go.Proofs.YtbbcnmdifiblfaaDoor.Q
set_option linter.unusedVariables false
open Go.RowKit Go.Proofs.YtbbcnmdifiblfaaDoorW.PrintWords Go.Proofs.YtbbcnmdifiblfaaDoorW.PrintLast Go.Proofs.YtbbcnmdifiblfaaDoorW.PrintMore
open PP
theorem DateFormats : ostlerlaw02_DateFormats.Pure := by
  intro a ha
  refine ⟨9000, ?_⟩
  unfold ostlerlaw02_DateFormats.f
  by_cases h : 0 ≤ a ∧ a ≤ 253402300799
  · obtain ⟨N, y, m, d, r, rfl, hp⟩ := pt_exist a h.1 h.2
    rw [Format_is hp (Nat.le_refl _), ref_Format_is hp (Nat.le_refl _), awake02 (Nat.le_refl _), Option.bind_some, Option.bind_some, Option.bind_some, if_pos rfl, if_pos rfl]; rfl
  · rw [Format_out a (by omega) (by decide), ref_Format_out a (by omega) (by decide), awake02 (Nat.le_refl _), Option.bind_some, Option.bind_some, Option.bind_some, if_pos rfl, if_pos rfl]; rfl
end Go.Proofs.YtbbcnmdifiblfaaDoor.Q
