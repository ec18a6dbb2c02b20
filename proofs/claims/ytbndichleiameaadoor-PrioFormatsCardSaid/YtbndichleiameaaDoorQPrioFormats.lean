/- The plain law of PrioFormats: there are eight urgencies, with parts and without. -/
import Derived.Test.YtbndichleiameaaDoorQ0
import Derived.Test.YtbndichleiameaaDoorPPx12
namespace Go.Proofs.YtbndichleiameaaDoor.Q
set_option linter.unusedVariables false
set_option linter.unusedSimpArgs false
open Go.RowKit Go.Proofs.YtbndichleiameaaDoorW.PrintWords Go.Proofs.YtbndichleiameaaDoorW.PrintLast Go.Proofs.YtbndichleiameaaDoorW.PrintMore
open PP

def formatsAt (u : Int) (a1 : Bool) : Option Bool :=
  ((text_Decimal.f u).bind fun t118 => (if 2 + t118.size ≤ 9223372036854775807 then (if a1 = true then (if ((⟨#[117, 61]⟩ : ByteArray) ++ t118).size + 3 ≤ 9223372036854775807 then (some (((⟨#[117, 61]⟩ : ByteArray) ++ t118) ++ (⟨#[44, 32, 105]⟩ : ByteArray))) else (none)) else (some ((⟨#[117, 61]⟩ : ByteArray) ++ t118))) else (none))).bind fun t156 =>
  ((ostlerref01_Decimal.f 40 u).bind fun t154 => (if 2 + t154.size ≤ 9223372036854775807 then (if a1 = true then (if ((⟨#[117, 61]⟩ : ByteArray) ++ t154).size + 3 ≤ 9223372036854775807 then (some (((⟨#[117, 61]⟩ : ByteArray) ++ t154) ++ (⟨#[44, 32, 105]⟩ : ByteArray))) else (none)) else (some ((⟨#[117, 61]⟩ : ByteArray) ++ t154))) else (none))).bind fun t159 =>
  if t156.toList = t159.toList then ((prio_Parse.f 40 t156).bind fun bt160 => (some (bt160.1 == u && (bt160.2 == a1)))) else some false
theorem formatsAt_all : ∀ (n : Fin 8) (a1 : Bool), formatsAt (n.val : Int) a1 = some true := by decide +kernel
theorem PrioFormats : ostlerlaw10_PrioFormats.Pure := by
  intro a0 a1 h
  refine ⟨40, ?_⟩
  have e : mn (mx a0 0) 7 = mx 0 (mn 7 a0) := by unfold mn mx; (repeat' split) <;> omega
  have hr : 0 ≤ mx 0 (mn 7 a0) ∧ mx 0 (mn 7 a0) ≤ 7 := by unfold mn mx; (repeat' split) <;> omega
  unfold ostlerlaw10_PrioFormats.f prio_Format.f ostlerref10_Format.f prio_kept.f ostlerref10_Kept.f ostlerlaw10_awake.f
  rw [e]
  obtain ⟨n, hn⟩ : ∃ n : Fin 8, mx 0 (mn 7 a0) = (n.val : Int) := ⟨⟨(mx 0 (mn 7 a0)).toNat, by omega⟩, by show _ = (((mx 0 (mn 7 a0)).toNat : Nat) : Int); omega⟩
  rw [hn]
  exact formatsAt_all n a1
end Go.Proofs.YtbndichleiameaaDoor.Q
