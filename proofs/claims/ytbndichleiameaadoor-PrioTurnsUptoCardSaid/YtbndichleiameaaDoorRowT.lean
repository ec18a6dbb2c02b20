/- Parameters that are rows of structs: the structs of this seat. -/
import Derived.Test.YtbndichleiameaaDoorRowK
namespace Go.Proofs.YtbndichleiameaaDoor.PR
set_option linter.unusedVariables false
open Go.Proofs.YtbndichleiameaaDoorW.PrintWords
def bulkStr (l : List ByteArray) : Nat := (l.map fun x_ => (x_.size + 1)).sum
def bulk3 (x : Int) : Nat := 1
def good3 (x : Int) : Prop := (Lit.int .i64 x).wf = true
theorem opens_k3 : Opens 3 (Kd.int .i64) good3 bulk3 := opens_int (q := .i64) Tryd.underlying3 (by kernel_rfl)
def bulk38 (x : PP.S38) : Nat := 1 + (1 + (1 + (1 + (((x.f4.map fun x_ => 1).sum + 1))))) + 1
def good38 (x : PP.S38) : Prop := (Lit.int .u8 x.f0).wf = true ∧ (Lit.int .i64 x.f1).wf = true ∧ (Lit.int .i64 x.f2).wf = true ∧ True ∧ (∀ x_ ∈ x.f4, (Lit.int .i64 x_).wf = true)
theorem opens_k38 : Opens 38 PP.k38 good38 bulk38 := by
  have h := opens_iso (opens_struct Tryd.underlying38 (by kernel_rfl) (opensF_cons rfl (opens_int (q := .u8) Tryd.underlying5 (by kernel_rfl)) (opensF_cons rfl (opens_int (q := .i64) Tryd.underlying3 (by kernel_rfl)) (opensF_cons rfl (opens_int (q := .i64) Tryd.underlying3 (by kernel_rfl)) (opensF_cons rfl (opens_bool Tryd.underlying4 (by kernel_rfl)) (opensF_one rfl (opens_slice Tryd.underlying29 (by kernel_rfl) (opens_int (q := .i64) Tryd.underlying3 (by kernel_rfl))))))))) (fun x : PP.S38 => (x.f0, x.f1, x.f2, x.f3, x.f4)) (fun x => ⟨x.1, x.2.1, x.2.2.1, x.2.2.2.1, x.2.2.2.2⟩) (fun _ => rfl)
  exact h
end Go.Proofs.YtbndichleiameaaDoor.PR
