-- Written by a program of this session (a changed copy of the kit's print) out of the translation. Not trusted: Lean checks it.
import Derived.Test.YtlbnnmdjmikedaaGreatDoorPPx0
namespace Go.Proofs.YtlbnnmdjmikedaaGreatDoor.PP
open Go.RowKit Go.Proofs.YtlbnnmdjmikedaaGreatDoorW.PrintWords Go.Proofs.YtlbnnmdjmikedaaGreatDoorW.PrintLast Go.Proofs.YtlbnnmdjmikedaaGreatDoorW.PrintMore
attribute [local go_sem] max2_int min2_int max_two min_two max_three min_three max_four min_four   -- for this text's walks alone
set_option linter.unusedVariables false
set_option linter.unusedSimpArgs false

/-! ### strings_Join: function 43 (an extern) -/
/- Of no string, or of one: no more is asked here. -/
def strings_Join.f (l : List ByteArray) (a1 : ByteArray) : Option ByteArray := match l with
  | [] => some ⟨#[]⟩
  | [x] => some x
  | _ => none
set_option maxHeartbeats 8000000 in
set_option maxRecDepth 100000 in
theorem strings_Join.calls (A0 : Option Addr) (c0 : Nat) (l0 : List ByteArray) (a1 : ByteArray) (r : ByteArray) (w : World) (hr0 : Kd.C Kd.string w A0 l0.length l0) (hc0 : l0.length ≤ c0) (h : strings_Join.f l0 a1 = some r) :
    Calls Tryz.prog 43 #[.slice A0 l0.length c0, .string a1] w fun e w' => e = .returned (.string r) ∧ Below w.heap.size w w' := by
  match l0, hr0, hc0, h with
  | [], hr0, hc0, h =>
    obtain rfl := Option.some.inj h
    clear h hr0 hc0
    go_enter Tryz.func43, Tryz.ntmps43
    go_wp2
    go_ret
    exact ⟨rfl, Below.refl _ _⟩
  | [x], hr0, hc0, h =>
    obtain rfl := Option.some.inj h
    obtain ⟨⟨b, o, q⟩, rfl, hx⟩ := ReadsOf.at_ (d := (⟨#[]⟩ : ByteArray)) (Kd.reads_of_C (h1 := fun _ => rfl) hr0) 0 (by decide) (by simp)
    have hx0 : w.cell? ⟨b, o, q⟩ = some (.string x) := hx
    clear h hr0 hx
    go_enter Tryz.func43, Tryz.ntmps43
    go_wp2
    go_ret
    exact ⟨rfl, Below.refl _ _⟩
  | _ :: _ :: _, _, _, h => cases h

end Go.Proofs.YtlbnnmdjmikedaaGreatDoor.PP
