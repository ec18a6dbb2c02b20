/- Parameters that are rows of structs: the structs of this seat. -/
import Derived.Test.YtciibddoejhmlaaDoorRowK
namespace Go.Proofs.YtciibddoejhmlaaDoor.PR
set_option linter.unusedVariables false
open Go.Proofs.YtciibddoejhmlaaDoorW.PrintWords
def bulkStr (l : List ByteArray) : Nat := (l.map fun x_ => (x_.size + 1)).sum
def bulk25 (x : PP.S25) : Nat := 1 + 1 + 1
def good25 (x : PP.S25) : Prop := (Lit.int .i64 x.f0).wf = true ∧ (Lit.int .i64 x.f1).wf = true
theorem opens_k25 : Opens 25 PP.k25 good25 bulk25 := by
  have h := opens_iso (opens_struct Tryd.underlying25 (by kernel_rfl) (opensF_cons rfl (opens_int (q := .i64) Tryd.underlying3 (by kernel_rfl)) (opensF_one rfl (opens_int (q := .i64) Tryd.underlying3 (by kernel_rfl))))) (fun x : PP.S25 => (x.f0, x.f1)) (fun x => ⟨x.1, x.2⟩) (fun _ => rfl)
  exact h
end Go.Proofs.YtciibddoejhmlaaDoor.PR
