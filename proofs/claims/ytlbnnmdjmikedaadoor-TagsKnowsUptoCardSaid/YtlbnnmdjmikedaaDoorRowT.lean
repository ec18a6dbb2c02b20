/- Parameters that are rows of structs: the structs of this seat. -/
import Derived.Test.YtlbnnmdjmikedaaDoorRowK
import Derived.Test.YtlbnnmdjmikedaaDoorRowU
namespace Go.Proofs.YtlbnnmdjmikedaaDoor.PR
set_option linter.unusedVariables false
open Go.Proofs.YtlbnnmdjmikedaaDoorW.PrintWords
def bulkStr (l : List ByteArray) : Nat := (l.map fun x_ => (x_.size + 1)).sum
def bulk23 (x : PP.S23) : Nat := (x.f0.size + 1) + 1 + 1 + 1
def good23 (x : PP.S23) : Prop := True ∧ (Lit.int .i64 x.f1).wf = true ∧ (Lit.int .i64 x.f2).wf = true
theorem opens_k23 : Opens 23 PP.k23 good23 bulk23 := by
  have h := opens_iso (opens_struct Tryd.underlying23 (by kernel_rfl) (opensF_cons rfl (opens_string Tryd.underlying9 (by kernel_rfl)) (opensF_cons rfl (opens_int (q := .i64) Tryd.underlying3 (by kernel_rfl)) (opensF_one rfl (opens_int (q := .i64) Tryd.underlying3 (by kernel_rfl)))))) (fun x : PP.S23 => (x.f0, x.f1, x.f2)) (fun x => ⟨x.1, x.2.1, x.2.2⟩) (fun _ => rfl)
  exact h
end Go.Proofs.YtlbnnmdjmikedaaDoor.PR
