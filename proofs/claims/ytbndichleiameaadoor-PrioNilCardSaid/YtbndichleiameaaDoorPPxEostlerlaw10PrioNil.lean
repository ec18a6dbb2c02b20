-- Written by a program of this session (a changed copy of the kit's print) out of the translation. Not trusted: Lean checks it.
import Derived.Test.YtbndichleiameaaDoorPPx0
import Derived.Test.YtbndichleiameaaDoorPPxEostlerlaw10awake
import Derived.Test.YtbndichleiameaaDoorPPxEprioNew
import Derived.Test.YtbndichleiameaaDoorPPxEprioNew
namespace Go.Proofs.YtbndichleiameaaDoor.PP
open Go.RowKit Go.Proofs.YtbndichleiameaaDoorW.PrintWords Go.Proofs.YtbndichleiameaaDoorW.PrintLast Go.Proofs.YtbndichleiameaaDoorW.PrintMore
attribute [local go_sem] max2_int min2_int max_two min_two max_three min_three max_four min_four   -- for this text's walks alone
set_option linter.unusedVariables false
set_option linter.unusedSimpArgs false

/-! ### ostlerlaw10_PrioNil: function 8 (an extern) -/
def ostlerlaw10_PrioNil.f (k : Nat) (a0 : Int) : Option Bool := some true
theorem ostlerlaw10_PrioNil.mono : ∀ a0 k, LeO (ostlerlaw10_PrioNil.f k a0) (ostlerlaw10_PrioNil.f (k + 1) a0) := fun _ _ r h => h
def ostlerlaw10_PrioNil.Pure : Prop := ∀ (a0 : Int), (Lit.int .i64 a0).wf = true → ∃ k, ostlerlaw10_PrioNil.f k a0 = some true
set_option maxHeartbeats 8000000 in
set_option maxRecDepth 100000 in
theorem ostlerlaw10_PrioNil.calls (k : Nat) (a0 : Int) (r : Bool) (w : World) (hG : GI w) (h : ostlerlaw10_PrioNil.f k a0 = some r) :
    Calls Tryd.prog 8 #[.int .i64 a0] w fun e w' => e = .returned (.bool r) ∧ Below w.heap.size w w' := by
  obtain rfl := Option.some.inj h
  have HG := Aside0.mk hG
  clear h hG
  go_enter Tryd.func8, Tryd.ntmps8
  go_wp2_with fail
  refine (prio_Set_nil _ _ _ _).mono ?_
  rintro e w1 ⟨rfl, hb⟩
  have HB := Aside0.mk hb
  clear hb
  go_wp2_with fail
  refine (prio_Remove_nil _ _).mono ?_
  rintro e w2 ⟨rfl, rfl⟩
  go_wp2_with fail
  refine (ostlerlaw10_awake.calls true _ (HG.out.below HB.out) rfl).mono ?_
  rintro e w2 ⟨rfl, hb⟩
  have HB2 := Aside0.mk (HB.out.trans (hb.mono HB.out.size))
  clear HB hb
  go_wp2_with fail
  refine (prio_Next_nil _ _).mono ?_
  rintro e w3 ⟨rfl, rfl⟩
  go_wp2_with fail
  refine (prio_Len_nil _).mono ?_
  rintro e w4 ⟨rfl, rfl⟩
  go_wp2
  go_ret
  exact ⟨rfl, HB2.out.alloc HB2.out.size _⟩
theorem ostlerlaw10_PrioNil.walk (P : ostlerlaw10_PrioNil.Pure) (a0 : Int) (w : World) (hG : GI w) (w0 : (Lit.int .i64 a0).wf = true) :
    Calls Tryd.prog 8 #[.int .i64 a0] w fun e w' => e = .returned (.bool true) ∧ Below w.heap.size w w' := by
  obtain ⟨k, h⟩ := P a0 w0
  refine (ostlerlaw10_PrioNil.calls k a0 true w hG h).mono ?_
  rintro e w' ⟨rfl, hd⟩
  exact ⟨rfl, hd⟩

end Go.Proofs.YtbndichleiameaaDoor.PP
