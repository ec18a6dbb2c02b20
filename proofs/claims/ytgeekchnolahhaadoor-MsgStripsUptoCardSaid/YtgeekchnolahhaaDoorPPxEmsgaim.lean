-- Written by a program of this session (a changed copy of the kit's print) out of the translation. Not trusted: Lean checks it.
import Derived.Test.YtgeekchnolahhaaDoorPPx0
import Derived.Test.YtgeekchnolahhaaDoorPPx19
namespace Go.Proofs.YtgeekchnolahhaaDoor.PP
open Go.RowKit Go.Proofs.YtgeekchnolahhaaDoorW.PrintWords Go.Proofs.YtgeekchnolahhaaDoorW.PrintLast Go.Proofs.YtgeekchnolahhaaDoorW.PrintMore
attribute [local go_sem] max2_int min2_int max_two min_two max_three min_three max_four min_four   -- for this text's walks alone
set_option linter.unusedVariables false
set_option linter.unusedSimpArgs false

/-! ### msg_aim: function 33 (an extern) -/
/- A target without a scheme; of another nothing is told here. -/
def msg_aim.f (a0 : ByteArray) : Option (ByteArray × ByteArray × ByteArray) :=
  (strings_CutPrefix.f a0 ((⟨#[104, 116, 116, 112]⟩ : ByteArray) ++ (⟨#[58, 47, 47]⟩ : ByteArray))).bind fun c0 => if c0.2 = true then none else
    ((strings_CutPrefix.f a0 ((⟨#[104, 116, 116, 112, 115]⟩ : ByteArray) ++ (⟨#[58, 47, 47]⟩ : ByteArray))).bind fun c1 => if c1.2 = true then none else some (⟨#[]⟩, ⟨#[]⟩, a0))
set_option maxHeartbeats 8000000 in
set_option maxRecDepth 100000 in
theorem msg_aim.calls (a0 : ByteArray) (r1 : ByteArray) (r2 : ByteArray) (r3 : ByteArray) (w : World) (h : msg_aim.f a0 = some (r1, r2, r3)) :
    Calls Tryd.prog 33 #[.string a0] w fun e w' => e = .returned (.tuple #[.string r1, .string r2, .string r3]) ∧ Below w.heap.size w w' := by
  unfold msg_aim.f at h
  obtain ⟨⟨p0, q0⟩, h0, h⟩ := Option.bind_eq_some_iff.mp h
  dsimp only at h
  by_cases e0 : q0 = true
  case pos => rw [if_pos e0] at h; cases h
  rw [if_neg e0] at h
  obtain ⟨⟨p1, q1⟩, h1, h⟩ := Option.bind_eq_some_iff.mp h
  dsimp only at h
  by_cases e1 : q1 = true
  case pos => rw [if_pos e1] at h; cases h
  rw [if_neg e1] at h
  replace e0 := Bool.eq_false_iff.2 e0
  replace e1 := Bool.eq_false_iff.2 e1
  subst e0
  subst e1
  simp only [Option.some.injEq, Prod.mk.injEq] at h
  obtain ⟨rfl, rfl, rfl⟩ := h
  have A0 := zM h0; have A1 := zM h1
  clear h0 h1
  have HB := zM (Below.refl w.heap.size w)
  go_enter Tryd.func33, Tryd.ntmps33
  go_wp2_with fail
  refine wp_loop_rounds 3 ?_
  rw [rounds_succ]
  have hi : ∀ w, (Instr.index 65 (.agg #[.string (⟨#[104, 116, 116, 112]⟩ : ByteArray), .string (⟨#[104, 116, 116, 112, 115]⟩ : ByteArray)]) (.int .i64 0)).run Tryd.prog w = .ok (.string (⟨#[104, 116, 116, 112]⟩ : ByteArray)) w := fun _ => by kernel_rfl
  go_wp2_with (go_at_call 40; refine (strings_CutPrefix.calls _ _ _ _ _ A0.out).mono ?_; rintro e w' ⟨rfl, ⟨nd, rfl⟩⟩)
  clear hi
  rw [rounds_succ]
  have hi : ∀ w, (Instr.index 65 (.agg #[.string (⟨#[104, 116, 116, 112]⟩ : ByteArray), .string (⟨#[104, 116, 116, 112, 115]⟩ : ByteArray)]) (.int .i64 1)).run Tryd.prog w = .ok (.string (⟨#[104, 116, 116, 112, 115]⟩ : ByteArray)) w := fun _ => by kernel_rfl
  go_wp2_with (go_at_call 40; refine (strings_CutPrefix.calls _ _ _ _ _ A1.out).mono ?_; rintro e w' ⟨rfl, ⟨nd, rfl⟩⟩)
  clear hi
  rw [rounds_succ]
  go_wp2
  go_ret3
  exact ⟨rfl, by repeat (first | (with_reducible first | exact HB.out | apply zG|apply zH|apply zI) | exact HB.out)⟩

end Go.Proofs.YtgeekchnolahhaaDoor.PP
