/- Parameters that are rows of structs: the structs of this seat. -/
import Derived.Test.YtlbnnmdjmikedaaGreatDoorRowK
import Derived.Test.YtlbnnmdjmikedaaGreatDoorRowU
namespace Go.Proofs.YtlbnnmdjmikedaaGreatDoor.PR
set_option linter.unusedVariables false
open Go.Proofs.YtlbnnmdjmikedaaGreatDoorW.PrintWords
def bulkStr (l : List ByteArray) : Nat := (l.map fun x_ => (x_.size + 1)).sum
def bulk31 (x : PP.S31) : Nat := 1 + (x.f1.size + 1) + 1
def good31 (x : PP.S31) : Prop := True ∧ True
theorem opens_k31 : Opens 31 PP.k31 good31 bulk31 := by
  have h := opens_iso (opens_struct Tryz.underlying31 (by kernel_rfl) (opensF_cons rfl (opens_bool Tryz.underlying4 (by kernel_rfl)) (opensF_one rfl (opens_string Tryz.underlying9 (by kernel_rfl))))) (fun x : PP.S31 => (x.f0, x.f1)) (fun x => ⟨x.1, x.2⟩) (fun _ => rfl)
  exact h
def bulk35 (x : PP.S35) : Nat := (x.f0.size + 1) + 1 + 1 + 1
def good35 (x : PP.S35) : Prop := True ∧ (Lit.int .i64 x.f1).wf = true ∧ (Lit.int .i64 x.f2).wf = true
theorem opens_k35 : Opens 35 PP.k35 good35 bulk35 := by
  have h := opens_iso (opens_struct Tryz.underlying35 (by kernel_rfl) (opensF_cons rfl (opens_string Tryz.underlying9 (by kernel_rfl)) (opensF_cons rfl (opens_int (q := .i64) Tryz.underlying3 (by kernel_rfl)) (opensF_one rfl (opens_int (q := .i64) Tryz.underlying3 (by kernel_rfl)))))) (fun x : PP.S35 => (x.f0, x.f1, x.f2)) (fun x => ⟨x.1, x.2.1, x.2.2⟩) (fun _ => rfl)
  exact h
end Go.Proofs.YtlbnnmdjmikedaaGreatDoor.PR
