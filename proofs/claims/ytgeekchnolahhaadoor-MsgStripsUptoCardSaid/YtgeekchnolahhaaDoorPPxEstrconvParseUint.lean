-- Written by a program of this session (a changed copy of the kit's print) out of the translation. Not trusted: Lean checks it.
import Derived.Test.YtgeekchnolahhaaDoorPPx0
import Derived.Test.YtgeekchnolahhaaDoorShelf
import Derived.BigCall
import Derived.BigGuard
import Derived.Laws.Strings3
import Derived.Laws.Closers25
import Derived.Laws.Closers25b
import Derived.Lib.AtoiAllMem
namespace Go.Proofs.YtgeekchnolahhaaDoor.PP
open Go.RowKit Go.Proofs.YtgeekchnolahhaaDoorW.PrintWords Go.Proofs.YtgeekchnolahhaaDoorW.PrintLast Go.Proofs.YtgeekchnolahhaaDoorW.PrintMore
attribute [local go_sem] max2_int min2_int max_two min_two max_three min_three max_four min_four   -- for this text's walks alone
set_option linter.unusedVariables false
set_option linter.unusedSimpArgs false

/-! ### strconv_ParseUint: function 61 (an extern) -/
/-- What a byte is as a digit of a base (10 or 16). -/
def digOf (b : Nat) (c : UInt8) : Option Nat :=
  if 48 ≤ c.toNat ∧ c.toNat ≤ 57 then some (c.toNat - 48) else if b = 16 ∧ 97 ≤ c.toNat ∧ c.toNat ≤ 102 then some (c.toNat - 87) else if b = 16 ∧ 65 ≤ c.toNat ∧ c.toNat ≤ 70 then some (c.toNat - 55) else none
/-- The number that digits spell, acc standing ahead. -/
def numOf (b : Nat) : Nat → List UInt8 → Nat
  | acc, [] => acc
  | acc, c :: l => numOf b (acc * b + (digOf b c).getD 0) l
def hexEnd (M : Nat) : Nat → List UInt8 → Lib.NumEnd Nat
  | acc, [] => .ok acc
  | acc, c :: l => match digOf 16 c with
    | none => Lib.NumEnd.syntax
    | some d => if 1152921504606846976 ≤ acc then .range else if M < acc * 16 + d then .range else hexEnd M (acc * 16 + d) l
def hexTuple (T : TypeId) (M : Nat) : Lib.NumEnd Nat → Value
  | .ok n => .tuple #[.int .u64 n, .nilIface]
  | Lib.NumEnd.syntax => .tuple #[.int .u64 0, .iface T (.int .i64 2)]
  | .range => .tuple #[.int .u64 M, .iface T (.int .i64 1)]
theorem digOf_cases {c : UInt8} {d : Nat} (h : digOf 16 c = some d) : (48 ≤ c.toNat ∧ c.toNat ≤ 57 ∧ c.toNat - 48 = d) ∨ (97 ≤ c.toNat ∧ c.toNat ≤ 102 ∧ c.toNat - 87 = d) ∨ (65 ≤ c.toNat ∧ c.toNat ≤ 70 ∧ c.toNat - 55 = d) := by
  unfold digOf at h
  split at h
  · rename_i h1
    exact .inl ⟨h1.1, h1.2, Option.some.inj h⟩
  · split at h
    · rename_i h1
      exact .inr (.inl ⟨h1.2.1, h1.2.2, Option.some.inj h⟩)
    · split at h
      · rename_i h1
        exact .inr (.inr ⟨h1.2.1, h1.2.2, Option.some.inj h⟩)
      · cases h
theorem dig10 {c : UInt8} (h : (digOf 10 c).isSome = true) : 48 ≤ c.toNat ∧ c.toNat ≤ 57 := by
  unfold digOf at h
  split at h
  · assumption
  · simp at h
theorem digOf_lt {c : UInt8} {d : Nat} (h : digOf 16 c = some d) : d < 16 := by
  have := digOf_cases h
  omega
theorem hex_bits : ∀ n : Fin 256, ((97 ≤ n.val ∧ n.val ≤ 102) → Go.bits .or .u8 (n.val : Int) 32 = n.val) ∧ ((65 ≤ n.val ∧ n.val ≤ 70) → Go.bits .or .u8 (n.val : Int) 32 = n.val + 32) ∧ (¬ (48 ≤ n.val ∧ n.val ≤ 57) → ¬ (97 ≤ n.val ∧ n.val ≤ 102) → ¬ (65 ≤ n.val ∧ n.val ≤ 70) → Go.bits .or .u8 (n.val : Int) 32 < 97 ∨ 122 < Go.bits .or .u8 (n.val : Int) 32 ∨ (103 ≤ Go.bits .or .u8 (n.val : Int) 32 ∧ Go.bits .or .u8 (n.val : Int) 32 ≤ 122)) := by decide +kernel
set_option maxHeartbeats 32000000 in
set_option maxRecDepth 100000 in
theorem hex_uint8 (t : ByteArray) (hne : t.size ≠ 0) (hmax : t.size ≤ 140737488355328) (w : World) :
    Calls Tryd.prog 61 #[.string t, .int .i64 16, .int .i64 8] w fun e w' => e = .returned (hexTuple 99 255 (hexEnd 255 0 t.data.toList)) ∧ w' = Lib.bytesWorld w 5 t := by
  have hemp : t.toList.isEmpty = false := by
    rw [← decide_eq_emptyBytes]; exact decide_eq_false (fun h => hne (by rw [h]; rfl))
  have hcv := Lib.run_convert_string_bytes (P := Tryd.prog) w 9 51 5 t Tryd.underlying9 Tryd.underlying51 Tryd.underlying5
  have hB : ∀ j, j < t.size → (Lib.bytesWorld w 5 t).cell? ⟨w.heap.size, j, none⟩ = some (.int .u8 (t.data.toList.getD j 0).toNat) := fun j hj => Lib.bytesWorld_cell w 5 t j hj
  obtain ⟨W1, hW1⟩ : ∃ W1, W1 = Lib.bytesWorld w 5 t := ⟨_, rfl⟩
  rw [← hW1] at hcv hB ⊢
  clear hW1
  obtain ⟨bs, hL⟩ : ∃ bs, bs = t.data.toList := ⟨_, rfl⟩
  have hLn : bs.length = t.size := by rw [hL, Lib.size_eq]
  rw [← hL] at hB ⊢
  clear hL
  have hmv : IntKind.u64.wrap (IntKind.u64.wrap 18446744073709551616 - 1) = 18446744073709551615 := by
    rw [IntKind.wrap_u64, IntKind.wrap_u64]; decide
  go_enter Tryd.func61, Tryd.ntmps61
  go_wp2
  go_loop [12, 13, 101] (fun vu vn vi => ∃ (k acc : Nat) (a : Int), vu = .bool false ∧ vn = .int .u64 a ∧ vi = .int .i64 k ∧ k ≤ t.size ∧ Hid (a = (acc : Int) ∧ acc ≤ 255 ∧ hexEnd 255 0 bs = hexEnd 255 acc (bs.drop k)))
    (fun _ _ vi => t.size - (intOf vi).toNat)
  case atStart => exact ⟨0, 0, 0, rfl, rfl, rfl, by omega, rfl, by omega, rfl⟩
  case round =>
    obtain ⟨k, acc, a, rfl, rfl, rfl, hk, hh⟩ := hrel; obtain ⟨ha, hacc, hdec⟩ := hh.out; clear hh; have a0 : 0 ≤ a := by omega
    have a1 : a ≤ 255 := by omega
    by_cases hkn : k < t.size
    · have hc := hB k hkn
      have hdrop : bs.drop k = bs[k]'(by omega) :: bs.drop (k + 1) := List.drop_eq_getElem_cons (by omega); have hget : bs.getD k 0 = bs[k]'(by omega) := by simp [List.getD, List.getElem?_eq_getElem (show k < bs.length by omega)]
      rw [hdrop] at hdec; rw [hget] at hc; generalize bs[k]'(by omega) = c at hc hdec
      have hc256 : c.toNat < 256 := c.toNat_lt; have hbits := hex_bits ⟨c.toNat, hc256⟩; simp only at hbits; clear hB hdrop hget; by_cases hnone : digOf 16 c = none
      · -- no digit
        have hF : hexEnd 255 acc (c :: bs.drop (k + 1)) = Lib.NumEnd.syntax := by simp [hexEnd, hnone]
        have hd3 : ¬ (48 ≤ c.toNat ∧ c.toNat ≤ 57) ∧ ¬ (97 ≤ c.toNat ∧ c.toNat ≤ 102) ∧ ¬ (65 ≤ c.toNat ∧ c.toNat ≤ 70) := by
          unfold digOf at hnone
          refine ⟨fun h => ?_, fun h => ?_, fun h => ?_⟩
          · rw [if_pos h] at hnone; cases hnone
          · rw [if_neg (by omega), if_pos ⟨rfl, h⟩] at hnone; cases hnone
          · rw [if_neg (by omega), if_neg (by omega), if_pos ⟨rfl, h⟩] at hnone; cases hnone
        have hb3 := hbits.2.2 hd3.1 hd3.2.1 hd3.2.2; have hnd : (c.toNat : Int) < 48 ∨ 57 < (c.toNat : Int) := by omega
        rw [hF] at hdec; clear hbits hnone hF hd3 hacc ha; have hu0 : Go.bits .or .u8 95 32 = 127 := by decide
        have HD := Lib.hid hdec; clear hdec; rcases hb3 with hb3 | hb3 | ⟨hb3, hb4⟩
        all_goals rcases hnd with hnd | hnd
        all_goals go_wp2_with (go_at_call 77; refine (Any.internal_strconv_lower Tryd.lays321 _ _).mono ?_; rintro e w' ⟨rfl, rfl⟩)
        all_goals go_ret2
        all_goals exact ⟨by rw [HD.out]; rfl, rfl⟩
      · obtain ⟨d, hd⟩ := Option.ne_none_iff_exists'.mp hnone
        clear hnone; have hd16 := digOf_lt hd; have hcl := digOf_cases hd; have hE : hexEnd 255 acc (c :: bs.drop (k + 1)) = if 1152921504606846976 ≤ acc then .range else if 255 < acc * 16 + d then .range else hexEnd 255 (acc * 16 + d) (bs.drop (k + 1)) := by simp only [hexEnd, hd]
        rw [hE] at hdec; clear hE hd; by_cases hcut : 1152921504606846976 ≤ acc
        · exact absurd hcut (by omega)
        · rw [if_neg hcut] at hdec
          have icut : a < 1152921504606846976 := by omega
          by_cases hov : 255 < acc * 16 + d
          · skip
            rw [if_pos hov] at hdec; have HD := Lib.hid hdec; have iov : 255 < a * 16 + (d : Int) := by omega
            clear hdec hcut hacc ha hov; rcases hcl with ⟨hl0, hl1, hl2⟩ | ⟨hl0, hl1, hl2⟩ | ⟨hl0, hl1, hl2⟩
            · have iov2 : 255 < a * 16 + ((c.toNat : Int) - 48) := by omega
              clear iov; go_wp2; go_ret2
              exact ⟨by rw [HD.out]; rfl, rfl⟩
            · have hb := hbits.1 ⟨hl0, hl1⟩
              have iov2 : 255 < a * 16 + ((c.toNat : Int) - 97 + 10) := by omega
              clear hbits iov; go_wp2_with (go_at_call 77; refine (Any.internal_strconv_lower Tryd.lays321 _ _).mono ?_; rintro e w' ⟨rfl, rfl⟩)
              go_ret2
              exact ⟨by rw [HD.out]; rfl, rfl⟩
            · have hb := hbits.2.1 ⟨hl0, hl1⟩
              have iov2 : 255 < a * 16 + ((c.toNat : Int) + 32 - 97 + 10) := by omega
              clear hbits iov; go_wp2_with (go_at_call 77; refine (Any.internal_strconv_lower Tryd.lays321 _ _).mono ?_; rintro e w' ⟨rfl, rfl⟩)
              go_ret2
              exact ⟨by rw [HD.out]; rfl, rfl⟩
          · rw [if_neg hov] at hdec
            have HN : Hid (a * 16 + (d : Int) = ((acc * 16 + d : Nat) : Int) ∧ acc * 16 + d ≤ 255 ∧ hexEnd 255 0 bs = hexEnd 255 (acc * 16 + d) (bs.drop (k + 1))) := Lib.hid ⟨by omega, by omega, hdec⟩; have iov : a * 16 + (d : Int) ≤ 255 := by omega
            clear hdec hcut hacc ha hov; rcases hcl with ⟨hl0, hl1, hl2⟩ | ⟨hl0, hl1, hl2⟩ | ⟨hl0, hl1, hl2⟩
            · have iov2 : a * 16 + ((c.toNat : Int) - 48) ≤ 255 := by omega
              have HL := Lib.hid (show (d : Int) = (c.toNat : Int) - 48 by omega); clear iov hl2; go_wp2; refine ⟨⟨k + 1, acc * 16 + d, a * 16 + (d : Int), rfl, (by rw [HL.out]), (by first | rfl | (congr 1; omega)), by omega, HN⟩, by simp [intOf]; omega⟩
            · have hb := hbits.1 ⟨hl0, hl1⟩
              have iov2 : a * 16 + ((c.toNat : Int) - 97 + 10) ≤ 255 := by omega
              have HL := Lib.hid (show (d : Int) = (c.toNat : Int) - 97 + 10 by omega); clear hbits iov hl2; go_wp2_with (go_at_call 77; refine (Any.internal_strconv_lower Tryd.lays321 _ _).mono ?_; rintro e w' ⟨rfl, rfl⟩)
              refine ⟨⟨k + 1, acc * 16 + d, a * 16 + (d : Int), rfl, (by rw [HL.out]), (by first | rfl | (congr 1; omega)), by omega, HN⟩, by simp [intOf]; omega⟩
            · have hb := hbits.2.1 ⟨hl0, hl1⟩
              have iov2 : a * 16 + ((c.toNat : Int) + 32 - 97 + 10) ≤ 255 := by omega
              have HL := Lib.hid (show (d : Int) = (c.toNat : Int) + 32 - 97 + 10 by omega); clear hbits iov hl2; go_wp2_with (go_at_call 77; refine (Any.internal_strconv_lower Tryd.lays321 _ _).mono ?_; rintro e w' ⟨rfl, rfl⟩)
              refine ⟨⟨k + 1, acc * 16 + d, a * 16 + (d : Int), rfl, (by rw [HL.out]), (by first | rfl | (congr 1; omega)), by omega, HN⟩, by simp [intOf]; omega⟩
    · -- the bytes are at an end
      have hkk : k = t.size := by omega
      subst hkk; have hF : hexEnd 255 acc (bs.drop t.size) = .ok acc := by rw [List.drop_eq_nil_of_le (by omega)]; rfl
      rw [hF] at hdec; subst ha; have HD := Lib.hid hdec; clear hacc hF a0 a1 hdec; go_wp2; go_ret2
      exact ⟨by rw [HD.out]; rfl, rfl⟩
set_option maxHeartbeats 32000000 in
set_option maxRecDepth 100000 in
theorem hex_uint64 (t : ByteArray) (hne : t.size ≠ 0) (hmax : t.size ≤ 140737488355328) (w : World) :
    Calls Tryd.prog 61 #[.string t, .int .i64 16, .int .i64 64] w fun e w' => e = .returned (hexTuple 99 18446744073709551615 (hexEnd 18446744073709551615 0 t.data.toList)) ∧ w' = Lib.bytesWorld w 5 t := by
  have hemp : t.toList.isEmpty = false := by
    rw [← decide_eq_emptyBytes]; exact decide_eq_false (fun h => hne (by rw [h]; rfl))
  have hcv := Lib.run_convert_string_bytes (P := Tryd.prog) w 9 51 5 t Tryd.underlying9 Tryd.underlying51 Tryd.underlying5
  have hB : ∀ j, j < t.size → (Lib.bytesWorld w 5 t).cell? ⟨w.heap.size, j, none⟩ = some (.int .u8 (t.data.toList.getD j 0).toNat) := fun j hj => Lib.bytesWorld_cell w 5 t j hj
  obtain ⟨W1, hW1⟩ : ∃ W1, W1 = Lib.bytesWorld w 5 t := ⟨_, rfl⟩
  rw [← hW1] at hcv hB ⊢
  clear hW1
  obtain ⟨bs, hL⟩ : ∃ bs, bs = t.data.toList := ⟨_, rfl⟩
  have hLn : bs.length = t.size := by rw [hL, Lib.size_eq]
  rw [← hL] at hB ⊢
  clear hL
  have hmv : IntKind.u64.wrap (IntKind.u64.wrap 18446744073709551616 - 1) = 18446744073709551615 := by
    rw [IntKind.wrap_u64, IntKind.wrap_u64]; decide
  go_enter Tryd.func61, Tryd.ntmps61
  go_wp2
  go_loop [12, 13, 101] (fun vu vn vi => ∃ (k acc : Nat) (a : Int), vu = .bool false ∧ vn = .int .u64 a ∧ vi = .int .i64 k ∧ k ≤ t.size ∧ Hid (a = (acc : Int) ∧ acc ≤ 18446744073709551615 ∧ hexEnd 18446744073709551615 0 bs = hexEnd 18446744073709551615 acc (bs.drop k)))
    (fun _ _ vi => t.size - (intOf vi).toNat)
  case atStart => exact ⟨0, 0, 0, rfl, rfl, rfl, by omega, rfl, by omega, rfl⟩
  case round =>
    obtain ⟨k, acc, a, rfl, rfl, rfl, hk, hh⟩ := hrel; obtain ⟨ha, hacc, hdec⟩ := hh.out; clear hh; have a0 : 0 ≤ a := by omega
    have a1 : a ≤ 18446744073709551615 := by omega
    by_cases hkn : k < t.size
    · have hc := hB k hkn
      have hdrop : bs.drop k = bs[k]'(by omega) :: bs.drop (k + 1) := List.drop_eq_getElem_cons (by omega); have hget : bs.getD k 0 = bs[k]'(by omega) := by simp [List.getD, List.getElem?_eq_getElem (show k < bs.length by omega)]
      rw [hdrop] at hdec; rw [hget] at hc; generalize bs[k]'(by omega) = c at hc hdec
      have hc256 : c.toNat < 256 := c.toNat_lt; have hbits := hex_bits ⟨c.toNat, hc256⟩; simp only at hbits; clear hB hdrop hget; by_cases hnone : digOf 16 c = none
      · -- no digit
        have hF : hexEnd 18446744073709551615 acc (c :: bs.drop (k + 1)) = Lib.NumEnd.syntax := by simp [hexEnd, hnone]
        have hd3 : ¬ (48 ≤ c.toNat ∧ c.toNat ≤ 57) ∧ ¬ (97 ≤ c.toNat ∧ c.toNat ≤ 102) ∧ ¬ (65 ≤ c.toNat ∧ c.toNat ≤ 70) := by
          unfold digOf at hnone
          refine ⟨fun h => ?_, fun h => ?_, fun h => ?_⟩
          · rw [if_pos h] at hnone; cases hnone
          · rw [if_neg (by omega), if_pos ⟨rfl, h⟩] at hnone; cases hnone
          · rw [if_neg (by omega), if_neg (by omega), if_pos ⟨rfl, h⟩] at hnone; cases hnone
        have hb3 := hbits.2.2 hd3.1 hd3.2.1 hd3.2.2; have hnd : (c.toNat : Int) < 48 ∨ 57 < (c.toNat : Int) := by omega
        rw [hF] at hdec; clear hbits hnone hF hd3 hacc ha; have hu0 : Go.bits .or .u8 95 32 = 127 := by decide
        have HD := Lib.hid hdec; clear hdec; rcases hb3 with hb3 | hb3 | ⟨hb3, hb4⟩
        all_goals rcases hnd with hnd | hnd
        all_goals go_wp2_with (go_at_call 77; refine (Any.internal_strconv_lower Tryd.lays321 _ _).mono ?_; rintro e w' ⟨rfl, rfl⟩)
        all_goals go_ret2
        all_goals exact ⟨by rw [HD.out]; rfl, rfl⟩
      · obtain ⟨d, hd⟩ := Option.ne_none_iff_exists'.mp hnone
        clear hnone; have hd16 := digOf_lt hd; have hcl := digOf_cases hd; have hE : hexEnd 18446744073709551615 acc (c :: bs.drop (k + 1)) = if 1152921504606846976 ≤ acc then .range else if 18446744073709551615 < acc * 16 + d then .range else hexEnd 18446744073709551615 (acc * 16 + d) (bs.drop (k + 1)) := by simp only [hexEnd, hd]
        rw [hE] at hdec; clear hE hd; by_cases hcut : 1152921504606846976 ≤ acc
        · skip
          rw [if_pos hcut] at hdec; have icut : 1152921504606846976 ≤ a := by omega
          have HD := Lib.hid hdec; clear hdec hcut hacc ha; rcases hcl with ⟨hl0, hl1, hl2⟩ | ⟨hl0, hl1, hl2⟩ | ⟨hl0, hl1, hl2⟩
          · go_wp2
            go_ret2
            exact ⟨by rw [HD.out]; rfl, rfl⟩
          · have hb := hbits.1 ⟨hl0, hl1⟩
            clear hbits; go_wp2_with (go_at_call 77; refine (Any.internal_strconv_lower Tryd.lays321 _ _).mono ?_; rintro e w' ⟨rfl, rfl⟩)
            go_ret2
            exact ⟨by rw [HD.out]; rfl, rfl⟩
          · have hb := hbits.2.1 ⟨hl0, hl1⟩
            clear hbits; go_wp2_with (go_at_call 77; refine (Any.internal_strconv_lower Tryd.lays321 _ _).mono ?_; rintro e w' ⟨rfl, rfl⟩)
            go_ret2
            exact ⟨by rw [HD.out]; rfl, rfl⟩
        · rw [if_neg hcut] at hdec
          have icut : a < 1152921504606846976 := by omega
          by_cases hov : 18446744073709551615 < acc * 16 + d
          · exact absurd hov (by omega)
          · rw [if_neg hov] at hdec
            have HN : Hid (a * 16 + (d : Int) = ((acc * 16 + d : Nat) : Int) ∧ acc * 16 + d ≤ 18446744073709551615 ∧ hexEnd 18446744073709551615 0 bs = hexEnd 18446744073709551615 (acc * 16 + d) (bs.drop (k + 1))) := Lib.hid ⟨by omega, by omega, hdec⟩; have iov : a * 16 + (d : Int) ≤ 18446744073709551615 := by omega
            clear hdec hcut hacc ha hov; rcases hcl with ⟨hl0, hl1, hl2⟩ | ⟨hl0, hl1, hl2⟩ | ⟨hl0, hl1, hl2⟩
            · have iov2 : a * 16 + ((c.toNat : Int) - 48) ≤ 18446744073709551615 := by omega
              have HL := Lib.hid (show (d : Int) = (c.toNat : Int) - 48 by omega); clear iov hl2; go_wp2; refine ⟨⟨k + 1, acc * 16 + d, a * 16 + (d : Int), rfl, (by rw [HL.out]), (by first | rfl | (congr 1; omega)), by omega, HN⟩, by simp [intOf]; omega⟩
            · have hb := hbits.1 ⟨hl0, hl1⟩
              have iov2 : a * 16 + ((c.toNat : Int) - 97 + 10) ≤ 18446744073709551615 := by omega
              have HL := Lib.hid (show (d : Int) = (c.toNat : Int) - 97 + 10 by omega); clear hbits iov hl2; go_wp2_with (go_at_call 77; refine (Any.internal_strconv_lower Tryd.lays321 _ _).mono ?_; rintro e w' ⟨rfl, rfl⟩)
              refine ⟨⟨k + 1, acc * 16 + d, a * 16 + (d : Int), rfl, (by rw [HL.out]), (by first | rfl | (congr 1; omega)), by omega, HN⟩, by simp [intOf]; omega⟩
            · have hb := hbits.2.1 ⟨hl0, hl1⟩
              have iov2 : a * 16 + ((c.toNat : Int) + 32 - 97 + 10) ≤ 18446744073709551615 := by omega
              have HL := Lib.hid (show (d : Int) = (c.toNat : Int) + 32 - 97 + 10 by omega); clear hbits iov hl2; go_wp2_with (go_at_call 77; refine (Any.internal_strconv_lower Tryd.lays321 _ _).mono ?_; rintro e w' ⟨rfl, rfl⟩)
              refine ⟨⟨k + 1, acc * 16 + d, a * 16 + (d : Int), rfl, (by rw [HL.out]), (by first | rfl | (congr 1; omega)), by omega, HN⟩, by simp [intOf]; omega⟩
    · -- the bytes are at an end
      have hkk : k = t.size := by omega
      subst hkk; have hF : hexEnd 18446744073709551615 acc (bs.drop t.size) = .ok acc := by rw [List.drop_eq_nil_of_le (by omega)]; rfl
      rw [hF] at hdec; subst ha; have HD := Lib.hid hdec; clear hacc hF a0 a1 hdec; go_wp2; go_ret2
      exact ⟨by rw [HD.out]; rfl, rfl⟩

end Go.Proofs.YtgeekchnolahhaaDoor.PP
