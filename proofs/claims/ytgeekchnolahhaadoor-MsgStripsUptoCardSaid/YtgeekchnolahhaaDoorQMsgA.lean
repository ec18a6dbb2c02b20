/- msg: what the program's functions come to, field by field; the chapter's example holds. -/
import Derived.Test.YtgeekchnolahhaaDoorQTok
import Derived.KernelRfl
import Derived.Test.YtgeekchnolahhaaDoorPPx9
import Derived.Test.YtgeekchnolahhaaDoorPPx22
namespace Go.Proofs.YtgeekchnolahhaaDoor.Q
set_option linter.unusedVariables false
set_option linter.unusedSimpArgs false
open Go.RowKit Go.Proofs.YtgeekchnolahhaaDoorW.PrintWords Go.Proofs.YtgeekchnolahhaaDoorW.PrintLast Go.Proofs.YtgeekchnolahhaaDoorW.PrintMore
open PP
abbrev Fd := S30
theorem awake14_80 : ostlerlaw14_awake.f 80 = some true := by kernel_rfl
theorem awake14 {k : Nat} (hk : 80 ≤ k) : ostlerlaw14_awake.f k = some true := at_rounds ostlerlaw14_awake.mono hk awake14_80
theorem w1' {i : Nat} (h : i < 9223372036854775807) : wrap64 ((i : Int) + 1) = ((i + 1 : Nat) : Int) := by rw [wrap64_of_fits (by omega) (by omega)]; omega
theorem pseudo_some (s : ByteArray) : ∃ b, msg_pseudo.f s = some b := by
  unfold msg_pseudo.f strings_HasPrefix.f stringslite_HasPrefix.f
  by_cases h : (s.size : Int) ≥ ((⟨#[58]⟩ : ByteArray).size : Int)
  · rw [if_pos h, if_pos (by omega), if_pos h]; exact ⟨_, rfl⟩
  · rw [if_neg h]; exact ⟨_, rfl⟩
theorem Bound_some (s : ByteArray) (hs : s.size ≤ 140737488355328) : ∃ b, msg_Bound.f s = some b := by
  unfold msg_Bound.f text_Lower.f
  rw [if_pos hs, Option.bind_some]
  repeat' (first | exact ⟨_, rfl⟩ | split)
theorem plain_some (a b : ByteArray) (ha : a.size ≤ 140737488355328) (hb : b.size ≤ 140737488355328) : ∃ r, ∀ k, a.size < k → b.size < k → msg_plain.f k a b = some r := by
  obtain ⟨c, hc⟩ := Bound_some a ha
  refine ⟨if (a.data.toList.all tokB && decide (0 < a.size)) = true then (if (lowerS a).toList = a.toList then (if (b.data.toList.all valB && trimmed b) = true then !c else false) else false) else false, fun k h1 h2 => ?_⟩
  unfold msg_plain.f text_Lower.f
  rw [text_Token_is a ha h1, Option.bind_some, if_pos ha, Option.bind_some, text_Value_is b hb h2, Option.bind_some, hc, Option.bind_some]
  split
  · split
    · split <;> rfl
    · rfl
  · rfl
def small (l : List Fd) : Prop := ∀ f ∈ l, f.f0.size ≤ 1048576 ∧ f.f1.size ≤ 1048576
end Go.Proofs.YtgeekchnolahhaaDoor.Q
