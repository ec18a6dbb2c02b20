-- Written by a program of this session (a changed copy of the kit's print) out of the translation. Not trusted: Lean checks it.
import Derived.Test.YtlbnnmdjmikedaaGreatDoorPPx0
namespace Go.Proofs.YtlbnnmdjmikedaaGreatDoor.PP
open Go.RowKit Go.Proofs.YtlbnnmdjmikedaaGreatDoorW.PrintWords Go.Proofs.YtlbnnmdjmikedaaGreatDoorW.PrintLast Go.Proofs.YtlbnnmdjmikedaaGreatDoorW.PrintMore
attribute [local go_sem] max2_int min2_int max_two min_two max_three min_three max_four min_four   -- for this text's walks alone
set_option linter.unusedVariables false
set_option linter.unusedSimpArgs false

/-! ### date_ahead: function 47 (an extern) -/
def aheadTab : List Int := [0, 31, 59, 90, 120, 151, 181, 212, 243, 273, 304, 334, 365]
def date_ahead.f (a0 : Int) (a1 : Bool) : Option Int := if 0 ≤ a0 then (if a0 ≤ 12 then some (aheadTab.getD a0.toNat 0 + (if a1 = true ∧ a0 > 1 then 1 else 0)) else none) else none
set_option maxHeartbeats 8000000 in
theorem date_ahead.calls (a0 : Int) (a1 : Bool) (r : Int) (w : World) (h : date_ahead.f a0 a1 = some r) :
    Calls Tryz.prog 47 #[.int .i64 a0, .bool a1] w fun e w' => e = .returned (.int .i64 r) ∧ Below w.heap.size w w' := by
  unfold date_ahead.f at h
  by_cases h0 : 0 ≤ a0
  · rw [if_pos h0] at h
    by_cases h1 : a0 ≤ 12
    · rw [if_pos h1] at h
      have hr : r = aheadTab.getD a0.toNat 0 + (if a1 = true ∧ a0 > 1 then 1 else 0) := (Option.some.inj h).symm
      clear h
      have key : a0 = 0 ∨ a0 = 1 ∨ a0 = 2 ∨ a0 = 3 ∨ a0 = 4 ∨ a0 = 5 ∨ a0 = 6 ∨ a0 = 7 ∨ a0 = 8 ∨ a0 = 9 ∨ a0 = 10 ∨ a0 = 11 ∨ a0 = 12 := by omega
      clear h0 h1
      rcases key with rfl | rfl | rfl | rfl | rfl | rfl | rfl | rfl | rfl | rfl | rfl | rfl | rfl <;> cases a1 <;> (simp [aheadTab] at hr; subst hr; go_enter Tryz.func47, Tryz.ntmps47; go_wp2; go_ret; exact ⟨rfl, (Below.refl _ _).alloc (Nat.le_refl _) _⟩)
    · rw [if_neg h1] at h; cases h
  · rw [if_neg h0] at h; cases h

end Go.Proofs.YtlbnnmdjmikedaaGreatDoor.PP
