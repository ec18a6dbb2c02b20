/- The plain law of DateParses: both Parses read the same second of a text. -/
import Derived.Test.YtbbcnmdifiblfaaDoorQDateA
import Derived.Test.YtbbcnmdifiblfaaDoorPPx15
namespace Go.Proofs.YtbbcnmdifiblfaaDoor.Q
set_option linter.unusedVariables false
open Go.RowKit Go.Proofs.YtbbcnmdifiblfaaDoorW.PrintWords Go.Proofs.YtbbcnmdifiblfaaDoorW.PrintLast Go.Proofs.YtbbcnmdifiblfaaDoorW.PrintMore
open PP
theorem DateParses : ostlerlaw02_DateParses.Pure := by
  intro s hs
  refine ⟨21000, ?_⟩
  unfold ostlerlaw02_DateParses.f
  obtain ⟨x, hx, h1⟩ := Parse_any s (k := 21000) (by decide)
  obtain ⟨z, hz, h2⟩ := ref_Parse_any s (k := 21000) (by decide)
  have e : x = z := by
    rcases h1 with rfl | ⟨N, y, m, d, r, rfl, hp, rfl⟩
    · rcases h2 with rfl | ⟨N, y, m, d, r, rfl, hp, rfl⟩
      · rfl
      · rw [Parse_fmt hp (by decide)] at hx; exact (Option.some.inj hx).symm
    · rw [ref_Parse_fmt hp (by decide)] at hz; exact Option.some.inj hz
  subst e
  rw [hx, hz, awake02 (by decide), Option.bind_some, Option.bind_some, Option.bind_some, if_pos rfl, if_pos rfl, beq_self_eq_true]
end Go.Proofs.YtbbcnmdifiblfaaDoor.Q
