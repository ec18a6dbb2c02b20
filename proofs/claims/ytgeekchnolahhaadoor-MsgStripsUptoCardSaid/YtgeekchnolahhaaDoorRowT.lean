/- Parameters that are rows of structs: the structs of this seat. -/
import Derived.Test.YtgeekchnolahhaaDoorRowK
namespace Go.Proofs.YtgeekchnolahhaaDoor.PR
set_option linter.unusedVariables false
open Go.Proofs.YtgeekchnolahhaaDoorW.PrintWords
def bulkStr (l : List ByteArray) : Nat := (l.map fun x_ => (x_.size + 1)).sum
def bulk30 (x : PP.S30) : Nat := (x.f0.size + 1) + (x.f1.size + 1) + 1
def good30 (x : PP.S30) : Prop := True ∧ True
theorem opens_k30 : Opens 30 PP.k30 good30 bulk30 := by
  have h := opens_iso (opens_struct Tryd.underlying30 (by kernel_rfl) (opensF_cons rfl (opens_string Tryd.underlying9 (by kernel_rfl)) (opensF_one rfl (opens_string Tryd.underlying9 (by kernel_rfl))))) (fun x : PP.S30 => (x.f0, x.f1)) (fun x => ⟨x.1, x.2⟩) (fun _ => rfl)
  exact h
end Go.Proofs.YtgeekchnolahhaaDoor.PR
