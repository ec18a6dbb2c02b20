/- The plain law of PrioUrgent: what the walk asks of the arguments holds of small ones. -/
import Derived.Test.YtbndichleiameaaDoorQ0
import Derived.Test.YtbndichleiameaaDoorRowT
import Derived.Test.YtbndichleiameaaDoorPPxEostlerlaw10PrioUrgent
namespace Go.Proofs.YtbndichleiameaaDoor.Q
set_option linter.unusedVariables false
open PP
theorem bulk_ge {α : Type} (f : α → Nat) (h : ∀ x, 1 ≤ f x) : ∀ l : List α, l.length ≤ (l.map f).sum
  | [] => Nat.le_refl _
  | x :: l => by
    have := h x
    have := bulk_ge f h l
    simp only [List.length_cons, List.map_cons, List.sum_cons]; omega
theorem PrioUrgent (l0 : List S38) (l1 : List Int) (g0 : ∀ x ∈ l0, PR.good38 x) (g1 : ∀ x ∈ l1, PR.good3 x) (hb : (l0.map PR.bulk38).sum + (l1.map PR.bulk3).sum ≤ 1048576) : ∃ k, ostlerlaw10_PrioUrgent.f k l0 l1 = some true := by
  have h0 := bulk_ge PR.bulk38 (fun x => by unfold PR.bulk38; omega) l0
  have h1 := bulk_ge PR.bulk3 (fun x => by unfold PR.bulk3; omega) l1
  refine ⟨0, ?_⟩
  unfold ostlerlaw10_PrioUrgent.f
  rw [if_pos]
  simp only [Bool.and_eq_true, List.all_eq_true, decide_eq_true_eq]
  exact ⟨fun x hx => ⟨(g0 x hx).2.1, (g0 x hx).2.2.1⟩, g1, by omega, by omega⟩
end Go.Proofs.YtbndichleiameaaDoor.Q
