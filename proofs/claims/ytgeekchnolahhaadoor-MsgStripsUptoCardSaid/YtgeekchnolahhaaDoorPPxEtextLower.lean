-- Written by a program of this session (a changed copy of the kit's print) out of the translation. Not trusted: Lean checks it.
import Derived.Test.YtgeekchnolahhaaDoorPPx0
namespace Go.Proofs.YtgeekchnolahhaaDoor.PP
open Go.RowKit Go.Proofs.YtgeekchnolahhaaDoorW.PrintWords Go.Proofs.YtgeekchnolahhaaDoorW.PrintLast Go.Proofs.YtgeekchnolahhaaDoorW.PrintMore
attribute [local go_sem] max2_int min2_int max_two min_two max_three min_three max_four min_four   -- for this text's walks alone
set_option linter.unusedVariables false
set_option linter.unusedSimpArgs false

/-! ### text_Lower: function 23 (an extern) -/
def text_Lower.f (a0 : ByteArray) : Option ByteArray := if a0.size ≤ 140737488355328 then some (lowerS a0) else none
set_option maxHeartbeats 4000000 in
set_option maxRecDepth 100000 in
theorem text_Lower.calls (a0 : ByteArray) (r : ByteArray) (w : World) (h : text_Lower.f a0 = some r) :
    Calls Tryd.prog 23 #[.string a0] w fun e w' => e = .returned (.string r) ∧ Below w.heap.size w w' := by
  unfold text_Lower.f at h
  by_cases hs : a0.size ≤ 140737488355328
  case neg => rw [if_neg hs] at h; cases h
  rw [if_pos hs] at h
  obtain rfl := Option.some.inj h
  clear h
  have hcv := Lib.run_convert_string_bytes (P := Tryd.prog) w 9 51 5 a0 Tryd.underlying9 Tryd.underlying51 Tryd.underlying5
  have hb0 : Below w.heap.size w (Lib.bytesWorld w 5 a0) := ⟨rfl, rfl, rfl, by rw [Lib.bytesWorld_size]; omega, fun j hj => Lib.bytesWorld_at_old w _ a0 j hj⟩
  have hz0 : w.heap.size < (Lib.bytesWorld w 5 a0).heap.size := by rw [Lib.bytesWorld_size]; omega
  have hc0 : ∀ j, j < a0.size → (Lib.bytesWorld w 5 a0).cell? ⟨w.heap.size, j, none⟩ = some (.int .u8 (lowAt a0 0 j)) := fun j hj => by
    rw [Lib.bytesWorld_cell w _ a0 j hj]; simp [lowAt]
  have hf0 : ∀ j, j < a0.size → (Lib.bytesWorld w 5 a0).frozen? ⟨w.heap.size, j, none⟩ = false := fun j hj => by
    simp [World.frozen?, Lib.bytesWorld_at_new, Lib.bytesCells]
    omega
  obtain ⟨W1, hW1⟩ : ∃ W1, W1 = Lib.bytesWorld w 5 a0 := ⟨_, rfl⟩
  rw [← hW1] at hcv hb0 hz0 hc0 hf0
  clear hW1
  generalize grownCap w a0.size 0 5 = cp at hcv
  go_enter Tryd.func23, Tryd.ntmps23
  go_wp2
  go_loopw [10] (fun i wr => ∃ k : Nat, k ≤ a0.size ∧ i = .int .i64 k ∧ Below w.heap.size w wr ∧ Hid (∀ j, j < a0.size → wr.cell? ⟨w.heap.size, j, none⟩ = some (.int .u8 (lowAt a0 k j))) ∧ Hid (∀ j, j < a0.size → wr.frozen? ⟨w.heap.size, j, none⟩ = false)) (fun i _ => a0.size - (intOf i).toNat)
  case atStart => exact ⟨0, Nat.zero_le _, rfl, hb0, hc0, hf0⟩
  case round =>
    obtain ⟨k, hk, rfl, hb, hc, hf⟩ := hrel; by_cases hlt : k < a0.size
    · have g1 := hc.out k hlt
      have g2 := hf.out k hlt; generalize hcc : a0.data.toList.getD k 0 = c at *
      have e0 : lowAt a0 k k = (c.toNat : Int) := by unfold lowAt; rw [if_neg (by omega), hcc]
      rw [e0] at g1; have E1 : Hid (∀ j, lowAt a0 (k + 1) j = if j = k then ((lowB c).toNat : Int) else lowAt a0 k j) := fun j => by
        rw [lowAt_succ]; by_cases hj : j = k
        · rw [if_pos hj, if_pos hj, hj, hcc]
        · rw [if_neg hj, if_neg hj]
      have hc256 : c.toNat < 256 := c.toNat_lt; clear e0 hcc hc0 hf0; by_cases hup : 65 ≤ c.toNat ∧ c.toNat ≤ 90
      · obtain ⟨u0, u1⟩ := hup
        have E2 := Lib.hid (lowB_or c u0 u1); have hsz := hb.size; go_wp2; go_roundw
        case rel =>
          refine ⟨k + 1, by omega, by go_num, hb.setCell (Nat.le_refl _) _, fun j hj => ?_, fun j hj => ?_⟩
          · rw [E1.out]
            by_cases hjk : j = k
            · subst hjk
              rw [if_pos rfl, E2.out]; exact World.cell?_setCell_same' wr _ _ (by rw [g1]; rfl)
            · rw [if_neg hjk, World.cell?_setCell_other _ _ _ _ (by intro he; injection he with _ he; omega)]
              exact hc.out j hj
          · rw [World.frozen?_setCell]
            exact hf.out j hj
        case measure => simp [intOf]; omega
      · have E2 := Lib.hid (lowB_keep c hup)
        have hup2 : (c.toNat : Int) < 65 ∨ 90 < (c.toNat : Int) := by omega
        clear hup; rcases hup2 with hup2 | hup2
        all_goals
          go_wp2; go_roundw
          case rel =>
            refine ⟨k + 1, by omega, by go_num, hb, fun j hj => ?_, hf⟩; rw [E1.out]; by_cases hjk : j = k
            · rw [if_pos hjk, E2.out, hjk]
              exact g1
            · rw [if_neg hjk]
              exact hc.out j hj
          case measure => simp [intOf]; omega
    · have hkk : k = a0.size := by omega
      subst hkk; have hcv2 := string_of_reads (P := Tryd.prog) (src := 51) (dst := 9) (c := cp) Tryd.underlying51 Tryd.underlying5 Tryd.underlying9 (lower_reads a0 wr w.heap.size (by omega) hc.out); rw [strOfNums_bytesOf] at hcv2; go_wp2; go_ret
      exact ⟨rfl, hb⟩

end Go.Proofs.YtgeekchnolahhaaDoor.PP
