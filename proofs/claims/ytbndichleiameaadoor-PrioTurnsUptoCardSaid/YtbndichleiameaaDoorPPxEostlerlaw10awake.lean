-- Written by a program of this session (a changed copy of the kit's print) out of the translation. Not trusted: Lean checks it.
import Derived.Test.YtbndichleiameaaDoorPPx0
import Derived.Test.YtbndichleiameaaDoorPPx6
import Derived.Test.YtbndichleiameaaDoorPPx8
import Derived.Test.YtbndichleiameaaDoorPPxEprioNew
import Derived.Test.YtbndichleiameaaDoorPPxEprioNew
namespace Go.Proofs.YtbndichleiameaaDoor.PP
open Go.RowKit Go.Proofs.YtbndichleiameaaDoorW.PrintWords Go.Proofs.YtbndichleiameaaDoorW.PrintLast Go.Proofs.YtbndichleiameaaDoorW.PrintMore
attribute [local go_sem] max2_int min2_int max_two min_two max_three min_three max_four min_four   -- for this text's walks alone
set_option linter.unusedVariables false
set_option linter.unusedSimpArgs false

/-! ### ostlerlaw10_awake: function 9 (an extern) -/
theorem alloc_le (w : World) (o : Obj) : w.heap.size ≤ (w.alloc o).heap.size := by simp
def ostlerlaw10_awake.f : Option Bool := some true
theorem awakeS3 : prio_kept.f 3 true = some (3, true) := by kernel_rfl
theorem awakeS5 : prio_kept.f 3 false = some (3, false) := by kernel_rfl
abbrev aK (a : Int) : Lit := .int .i64 a
def aD : DataW Unit := (((DataW.map []).put (aK 1) (priD 3 true)).put (aK 3) (priD 3 true)).put (aK 5) (priD 3 false)
theorem aN1 : nextR aD (.map []) [1, 3, 5] = 5 := by kernel_rfl
theorem aE1 : nextE aD (.map []) [1, 3, 5] = .map [] := by kernel_rfl
theorem aN2 : nextR aD (.map []) [1, 3] = 1 := by kernel_rfl
def aE : DataW Unit := nextE aD (.map []) [1, 3]
theorem aN3 : nextR aD aE [1, 3] = 3 := by kernel_rfl
def aE' : DataW Unit := nextE aD aE [1, 3]
theorem aN4 : nextR aD aE' [9] = -1 := by kernel_rfl
theorem aE4 : nextE aD aE' [9] = aE' := by kernel_rfl
theorem aLen : Maps.size aD = 3 := by kernel_rfl
theorem aParse : prio_Parse.f 40 ⟨#[117, 61, 50, 59, 113, 61, 49, 32, 44, 32, 117, 61, 52, 59, 105]⟩ = some (4, false) := by kernel_rfl
theorem aFormat : prio_Format.f 0 true = some ⟨#[117, 61, 48, 44, 32, 105]⟩ := by kernel_rfl
set_option maxHeartbeats 8000000 in
set_option maxRecDepth 100000 in
theorem ostlerlaw10_awake.calls  (r : Bool) (w : World) (hG : GI w) (h : ostlerlaw10_awake.f  = some r) :
    Calls Tryd.prog 9 #[] w fun e w' => e = .returned (.bool r) ∧ Below w.heap.size w w' := by
  obtain rfl := Option.some.inj h
  have HG := Aside0.mk hG
  clear h hG
  go_enter Tryd.func9, Tryd.ntmps9
  go_wp2_with fail
  refine (prio_New_calls _).mono ?_
  rintro e w1 ⟨b, m1, m2, rfl, hL, hb⟩
  have HL := Aside0.mk hL; have HB := Aside0.mk hb; have HS := Aside0.mk hb.size
  clear hL hb
  go_wp2_with fail
  (with_reducible refine (prio_Set_calls HL.out HS.out (by decide) 1 3 3 true true (by decide) (by decide) (fun W => prio_kept.calls 3 true 3 true W awakeS3)).mono ?_)
  rintro e w2 ⟨rfl, hL, hb⟩
  have HL2 := Aside0.mk hL; have HB2 := Aside0.mk (HB.out.trans hb); have HS2 := Aside0.mk (Nat.le_trans HS.out hb.size)
  clear HL HB HS hL hb
  have HL := HL2; have HB := HB2; have HS := HS2
  clear HL2 HB2 HS2
  go_wp2_with fail
  (with_reducible refine (prio_Set_calls HL.out HS.out (by decide) 3 3 3 true true (by decide) (by decide) (fun W => prio_kept.calls 3 true 3 true W awakeS3)).mono ?_)
  rintro e w3 ⟨rfl, hL, hb⟩
  have HL2 := Aside0.mk hL; have HB2 := Aside0.mk (HB.out.trans hb); have HS2 := Aside0.mk (Nat.le_trans HS.out hb.size)
  clear HL HB HS hL hb
  have HL := HL2; have HB := HB2; have HS := HS2
  clear HL2 HB2 HS2
  go_wp2_with fail
  (with_reducible refine (prio_Set_calls HL.out HS.out (by decide) 5 3 3 false false (by decide) (by decide) (fun W => prio_kept.calls 3 false 3 false W awakeS5)).mono ?_)
  rintro e w4 ⟨rfl, hL, hb⟩
  have HL2 := Aside0.mk hL; have HB2 := Aside0.mk (HB.out.trans hb); have HS2 := Aside0.mk (Nat.le_trans HS.out hb.size)
  clear HL HB HS hL hb
  have HL := HL2; have HB := HB2; have HS := HS2
  clear HL2 HB2 HS2
  have hL1 := HL.out.alloc (.cells #[.int .i64 1, .int .i64 3, .int .i64 5] 3)
  have hN := prio_Next_calls (D := aD) (E := (.map [])) hL1 (Nat.le_trans HS.out (alloc_le _ _)) (by decide) (some ⟨w4.heap.size, 0, none⟩) 3 [1, 3, 5] (C_lit [1, 3, 5] (by decide) (blk_new w4 (.cells #[.int .i64 1, .int .i64 3, .int .i64 5] 3))) (by decide) (by decide)
  rw [aN1, aE1] at hN
  go_wp2_with fail
  refine hN.mono ?_
  clear hN hL1
  rintro e w5 ⟨rfl, hL, hb⟩
  have HL2 := Aside0.mk hL; have HB2 := Aside0.mk ((below_alloc HB.out _).trans hb); have HS2 := Aside0.mk (Nat.le_trans HS.out (Nat.le_trans (alloc_le _ _) hb.size))
  clear HL HB HS hL hb
  have HL := HL2; have HB := HB2; have HS := HS2
  clear HL2 HB2 HS2
  have hL1 := HL.out.alloc (.cells #[.int .i64 1, .int .i64 3] 3)
  have hN := prio_Next_calls (D := aD) (E := (.map [])) hL1 (Nat.le_trans HS.out (alloc_le _ _)) (by decide) (some ⟨w5.heap.size, 0, none⟩) 2 [1, 3] (C_lit [1, 3] (by decide) (blk_new w5 (.cells #[.int .i64 1, .int .i64 3] 3))) (by decide) (by decide)
  rw [aN2, show nextE aD (.map []) [1, 3] = aE from rfl] at hN
  go_wp2_with fail
  refine hN.mono ?_
  clear hN hL1
  rintro e w6 ⟨rfl, hL, hb⟩
  have HL2 := Aside0.mk hL; have HB2 := Aside0.mk ((below_alloc HB.out _).trans hb); have HS2 := Aside0.mk (Nat.le_trans HS.out (Nat.le_trans (alloc_le _ _) hb.size))
  clear HL HB HS hL hb
  have HL := HL2; have HB := HB2; have HS := HS2
  clear HL2 HB2 HS2
  have hL1 := HL.out.alloc (.cells #[.int .i64 1, .int .i64 3] 3)
  have hN := prio_Next_calls (D := aD) (E := aE) hL1 (Nat.le_trans HS.out (alloc_le _ _)) (by decide) (some ⟨w6.heap.size, 0, none⟩) 2 [1, 3] (C_lit [1, 3] (by decide) (blk_new w6 (.cells #[.int .i64 1, .int .i64 3] 3))) (by decide) (by decide)
  rw [aN3, show nextE aD aE [1, 3] = aE' from rfl] at hN
  go_wp2_with fail
  refine hN.mono ?_
  clear hN hL1
  rintro e w7 ⟨rfl, hL, hb⟩
  have HL2 := Aside0.mk hL; have HB2 := Aside0.mk ((below_alloc HB.out _).trans hb); have HS2 := Aside0.mk (Nat.le_trans HS.out (Nat.le_trans (alloc_le _ _) hb.size))
  clear HL HB HS hL hb
  have HL := HL2; have HB := HB2; have HS := HS2
  clear HL2 HB2 HS2
  have hL1 := HL.out.alloc (.cells #[.int .i64 9] 3)
  have hN := prio_Next_calls (D := aD) (E := aE') hL1 (Nat.le_trans HS.out (alloc_le _ _)) (by decide) (some ⟨w7.heap.size, 0, none⟩) 1 [9] (C_lit [9] (by decide) (blk_new w7 (.cells #[.int .i64 9] 3))) (by decide) (by decide)
  rw [aN4, aE4] at hN
  go_wp2_with fail
  refine hN.mono ?_
  clear hN hL1
  rintro e w8 ⟨rfl, hL, hb⟩
  have HL2 := Aside0.mk hL; have HB2 := Aside0.mk ((below_alloc HB.out _).trans hb); have HS2 := Aside0.mk (Nat.le_trans HS.out (Nat.le_trans (alloc_le _ _) hb.size))
  clear HL HB HS hL hb
  have HL := HL2; have HB := HB2; have HS := HS2
  clear HL2 HB2 HS2
  have hN := prio_Len_calls HL.out
  rw [aLen] at hN
  go_wp2_with fail
  refine hN.mono ?_
  clear hN
  rintro e w9 ⟨rfl, rfl⟩
  go_wp2_with fail
  refine (prio_Parse.calls 40 _ _ _ _ (HG.out.below HB.out) aParse).mono ?_
  rintro e w10 ⟨rfl, hb⟩
  have HB2 := Aside0.mk (HB.out.trans (hb.mono HS.out))
  clear HB HL HS hb
  have HB := HB2
  clear HB2
  go_wp2_with fail
  refine (prio_Format.calls 0 true _ _ (HG.out.below HB.out) aFormat).mono ?_
  rintro e w11 ⟨rfl, hb⟩
  have HB2 := Aside0.mk (HB.out.trans (hb.mono HB.out.size))
  clear HB hb
  go_wp2
  go_ret
  exact ⟨rfl, HB2.out⟩

end Go.Proofs.YtbndichleiameaaDoor.PP
