/- The plain law of DateBack: what is written is read as the same. -/
import Derived.Test.YtbbcnmdifiblfaaDoorQDateA
import Derived.Test.YtbbcnmdifiblfaaDoorPPx16
namespace Go.Proofs.YtbbcnmdifiblfaaDoor.Q
set_option linter.unusedVariables false
open Go.RowKit Go.Proofs.YtbbcnmdifiblfaaDoorW.PrintWords Go.Proofs.YtbbcnmdifiblfaaDoorW.PrintLast Go.Proofs.YtbbcnmdifiblfaaDoorW.PrintMore
open PP
theorem DateBack : ostlerlaw02_DateBack.Pure := by
  intro a ha
  refine ⟨9001, ?_⟩
  unfold ostlerlaw02_DateBack.f
  by_cases h : 0 ≤ a ∧ a ≤ 253402300799
  · obtain ⟨N, y, m, d, r, rfl, hp⟩ := pt_exist a h.1 h.2
    obtain ⟨b0, b1, b2, b3, b4, b5⟩ := pt_bd hp
    obtain ⟨f0, f1, f2, f3, f4, f5, f6, f7, f8, f9⟩ := fmt_shape (wkOf (N / 86400)) (wkOf_len _) y m d r b2
    rw [Format_is hp (by decide), Option.bind_some, Parse_fmt hp (by decide), Option.bind_some, if_neg (by omega), show decide ((N : Int) > 253402300799) = false from decide_eq_false (by omega)]
    rw [ostlerlaw02_DateBack.j0, if_neg (by decide), awake02 (by decide), Option.bind_some, if_pos rfl, if_pos rfl, if_pos rfl, if_pos rfl, B_size, f0]; rfl
  · have hp : date_Parse.f 9001 (B []) = some (0, 20) := by unfold date_Parse.f; rw [if_neg (by decide)]
    rw [Format_out a (by omega) (by decide), Option.bind_some, hp, Option.bind_some]
    have hj : ostlerlaw02_DateBack.j0 9001 a (B []) 5 0 20 true = some true := by
      rw [ostlerlaw02_DateBack.j0, if_pos rfl, awake02 (by decide), Option.bind_some, if_pos rfl, if_pos rfl, B_toL, if_pos rfl, if_pos rfl]; rfl
    by_cases h0 : a < 0
    · rw [if_pos h0]; exact hj
    · rw [if_neg h0, show decide (a > 253402300799) = true from decide_eq_true (by omega)]; exact hj
end Go.Proofs.YtbbcnmdifiblfaaDoor.Q
