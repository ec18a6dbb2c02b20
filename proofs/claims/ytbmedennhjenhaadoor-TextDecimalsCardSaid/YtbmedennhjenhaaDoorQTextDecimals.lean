/- The plain law of TextDecimals: a number's numeral, and back again, zeros ahead or none. -/
import Derived.Test.YtbmedennhjenhaaDoorQTextTokens
import Derived.Lib.ItoaLen
import Derived.Lib.Bytes
import Derived.Test.YtbmedennhjenhaaDoorPPx24
namespace Go.Proofs.YtbmedennhjenhaaDoor.Q
open Go.RowKit Go.Proofs.YtbmedennhjenhaaDoorW.PrintWords Go.Proofs.YtbmedennhjenhaaDoorW.PrintLast Go.Proofs.YtbmedennhjenhaaDoorW.PrintMore
open PP

theorem dec_len (u : Nat) (h : u < 18446744073709551616) : (Lib.decDigits u).length ≤ 20 := by
  rw [Lib.decDigits_length]; exact Lib.nDigits_le20 u h
theorem strOne (n : Nat) (h : n < 10) : strOfNums [(48 + (n : Int)) % 256] = ⟨#[UInt8.ofNat (48 + n)]⟩ := by
  have key : ∀ m : Fin 10, strOfNums [(48 + (m.val : Int)) % 256] = ⟨#[UInt8.ofNat (48 + m.val)]⟩ := by decide +kernel
  exact key ⟨n, h⟩
theorem sizeOf_list (l : List UInt8) : (⟨l.toArray⟩ : ByteArray).size = l.length := by rw [← sz]
theorem dec_pos : ∀ (k u : Nat), u < 10 ^ (k + 1) → u < 18446744073709551616 → ostlerref01_Decimal.f (k + 1) (u : Int) = some ⟨(Lib.decDigits u).toArray⟩
  | k, u, h, hb => by
    rw [ostlerref01_Decimal.f, if_neg (by omega)]
    by_cases h10 : u < 10
    · rw [if_pos (by omega), wrap64_of_fits (by omega) (by omega), strOne u h10, Lib.decDigits, dif_pos h10]
    · rw [if_neg (by omega)]
      cases k with
      | zero => rw [Nat.zero_add, Nat.pow_one] at h; exact absurd h h10
      | succ k =>
        have hk : u / 10 < 10 ^ (k + 1) := by rw [Nat.pow_succ] at h; omega
        have ih := dec_pos k (u / 10) hk (by omega)
        have e1 : wrap64 (Int.tdiv (u : Int) 10) = ((u / 10 : Nat) : Int) := by
          rw [Int.tdiv_eq_ediv_of_nonneg (by omega), wrap64_of_fits (by omega) (by omega)]; omega
        have e2 : wrap64 (48 + Int.tmod (u : Int) 10) = 48 + ((u % 10 : Nat) : Int) := by
          rw [Int.tmod_eq_emod_of_nonneg (by omega), wrap64_of_fits (by omega) (by omega)]; omega
        have hl := dec_len (u / 10) (by omega)
        rw [e1, ih, e2, Option.bind_some, Option.bind_some, strOne (u % 10) (by omega), if_pos (by rw [sizeOf_list]; show (Lib.decDigits (u / 10)).length + 1 ≤ _; omega)]
        congr 1
        apply ba_ext
        rw [Lib.decDigits.eq_def u, dif_neg h10]
        simp [ByteArray.data_append]
theorem dec_neg : ∀ (k u : Nat), 1 ≤ u → u < 10 ^ (k + 1) → u ≤ 9223372036854775808 → ostlerref01_Decimal.f (k + 2) (-(u : Int)) = some ⟨(45 :: Lib.decDigits u).toArray⟩
  | k, u, h1, h, hb => by
    rw [ostlerref01_Decimal.f, if_pos (by omega)]
    by_cases h10 : u < 10
    · have e0 : wrap64 (-(-(u : Int))) = (u : Int) := by rw [wrap64_of_fits (by omega) (by omega)]; omega
      have hl := dec_len u (by omega)
      rw [if_pos (by omega), e0, dec_pos k u h (by omega), Option.bind_some, if_pos (by rw [sizeOf_list]; omega)]
      congr 1
    · rw [if_neg (by omega)]
      cases k with
      | zero => rw [Nat.zero_add, Nat.pow_one] at h; exact absurd h h10
      | succ k =>
        have hk : u / 10 < 10 ^ (k + 1) := by rw [Nat.pow_succ] at h; omega
        have ih := dec_neg k (u / 10) (by omega) hk (by omega)
        have e1 : wrap64 (Int.tdiv (-(u : Int)) 10) = -((u / 10 : Nat) : Int) := by
          rw [Int.neg_tdiv, Int.tdiv_eq_ediv_of_nonneg (by omega), wrap64_of_fits (by omega) (by omega)]; omega
        have e2 : wrap64 (48 - Int.tmod (-(u : Int)) 10) = 48 + ((u % 10 : Nat) : Int) := by
          rw [Int.neg_tmod, Int.tmod_eq_emod_of_nonneg (by omega), wrap64_of_fits (by omega) (by omega)]; omega
        have hl := dec_len (u / 10) (by omega)
        rw [e1, ih, e2, Option.bind_some, Option.bind_some, strOne (u % 10) (by omega), if_pos (by rw [sizeOf_list]; show (45 :: Lib.decDigits (u / 10)).length + 1 ≤ _; rw [List.length_cons]; omega)]
        congr 1
        apply ba_ext
        rw [Lib.decDigits.eq_def u, dif_neg h10]
        simp [ByteArray.data_append]
theorem ref_Decimal_is (a : Int) (h0 : -9223372036854775808 ≤ a) (h1 : a ≤ 9223372036854775807) {k : Nat} (hk : 30 < k) : ostlerref01_Decimal.f k a = some ⟨(Lib.itoa a).toArray⟩ := by
  obtain ⟨k, rfl⟩ : ∃ m, k = m + 2 := ⟨k - 2, by omega⟩
  have hp : 10 ^ 20 ≤ 10 ^ (k + 1) := Nat.pow_le_pow_right (by omega) (by omega)
  have hp2 : 10 ^ (k + 1) ≤ 10 ^ (k + 1 + 1) := Nat.pow_le_pow_right (by omega) (by omega)
  by_cases hn : a < 0
  · obtain ⟨u, rfl⟩ : ∃ u : Nat, a = -(u : Int) := ⟨a.natAbs, by omega⟩
    rw [Lib.itoa_neg u (by omega)]
    exact dec_neg k u (by omega) (by omega) (by omega)
  · obtain ⟨u, rfl⟩ : ∃ u : Nat, a = u := ⟨a.toNat, by omega⟩
    rw [Lib.itoa_nonneg]
    exact dec_pos (k + 1) u (by omega) (by omega)

theorem numOf_append (b acc : Nat) (l m : List UInt8) : numOf b acc (l ++ m) = numOf b (numOf b acc l) m := by
  induction l generalizing acc with
  | nil => rfl
  | cons c l ih => exact ih _
theorem numOf_zeros (m : Nat) : numOf 10 0 (List.replicate m 48) = 0 := by
  induction m with
  | zero => rfl
  | succ m ih => rw [List.replicate_succ]; exact ih
theorem dig_at (n : Nat) (h : n < 10) : digOf 10 (UInt8.ofNat (48 + n)) = some n := by
  have key : ∀ m : Fin 10, digOf 10 (UInt8.ofNat (48 + m.val)) = some m.val := by decide +kernel
  exact key ⟨n, h⟩
theorem dec_num (u : Nat) : numOf 10 0 (Lib.decDigits u) = u ∧ (Lib.decDigits u).all (fun c => (digOf 10 c).isSome) = true ∧ Lib.decDigits u ≠ [] := by
  induction u using Nat.strongRecOn with
  | _ u ih =>
    rw [Lib.decDigits]
    by_cases h : u < 10
    · rw [dif_pos h]
      refine ⟨?_, by rw [List.all_cons, dig_at u h]; rfl, by simp⟩
      show 0 * 10 + (digOf 10 (UInt8.ofNat (48 + u))).getD 0 = u
      rw [dig_at u h]; simp
    · rw [dif_neg h]
      obtain ⟨i1, i2, _⟩ := ih (u / 10) (by omega)
      refine ⟨?_, ?_, by simp⟩
      · rw [numOf_append, i1]
        show u / 10 * 10 + (digOf 10 (UInt8.ofNat (48 + u % 10))).getD 0 = u
        rw [dig_at _ (by omega), Option.getD_some]; omega
      · rw [List.all_append, i2, List.all_cons, dig_at (u % 10) (by omega)]; rfl
theorem zeros_list (m : Nat) : (strOfNums (List.replicate m 48)).data.toList = List.replicate m 48 := by
  rw [← Lib.toList_data, Lib.strOfNums_toList]
  simp [Lib.bytesOf]
theorem decimals_j1 (a : Int) (h0 : -9223372036854775808 ≤ a) (h1 : a ≤ 9223372036854775807) (m : Nat) (hm : m ≤ 1000) {k : Nat} (hk : 62 < k) :
    ostlerlaw01_TextDecimals.j1 k a ⟨(Lib.itoa a).toArray⟩ (List.replicate m 48) = some true := by
  obtain ⟨k, rfl⟩ : ∃ m, k = m + 1 := ⟨k - 1, by omega⟩
  have hl := Lib.itoa_length_le a h0 h1
  have hz : (strOfNums (List.replicate m 48)).size = m := by rw [← sz, zeros_list, List.length_replicate]
  have ha : (strOfNums (List.replicate m 48) ++ (⟨(Lib.itoa a).toArray⟩ : ByteArray)).data.toList = List.replicate m 48 ++ Lib.itoa a := by
    rw [ByteArray.data_append, Array.toList_append, zeros_list]
  have hs : (strOfNums (List.replicate m 48) ++ (⟨(Lib.itoa a).toArray⟩ : ByteArray)).size ≤ 140737488355328 := by
    rw [← sz, ha, List.length_append, List.length_replicate]; omega
  have hpar : text_Number.f (strOfNums (List.replicate m 48) ++ (⟨(Lib.itoa a).toArray⟩ : ByteArray)) = some (if a < 0 then (0, 10) else (a, 0)) := by
    unfold text_Number.f text_parse.f
    rw [if_pos hs, if_pos (.inl rfl), ha]
    by_cases hn : a < 0
    · obtain ⟨u, rfl⟩ : ∃ u : Nat, a = -(u : Int) := ⟨a.natAbs, by omega⟩
      have hf : (List.replicate m (48 : UInt8) ++ Lib.itoa (-(u : Int))).all (fun c => (digOf (10 : Int).toNat c).isSome) = false := by
        rw [Lib.itoa_neg u (by omega), List.all_append, List.all_cons]
        rw [show (digOf (10 : Int).toNat 45).isSome = false by decide]; simp
      rw [if_neg (by rw [Lib.itoa_neg u (by omega)]; simp), hf, if_neg (by decide), if_pos hn]; rfl
    · obtain ⟨u, rfl⟩ : ∃ u : Nat, a = u := ⟨a.toNat, by omega⟩
      obtain ⟨d1, d2, d3⟩ := dec_num u
      have hall : (List.replicate m (48 : UInt8) ++ Lib.itoa (u : Int)).all (fun c => (digOf (10 : Int).toNat c).isSome) = true := by
        rw [Lib.itoa_nonneg, List.all_append]
        rw [show (Lib.decDigits u).all (fun c => (digOf (10 : Int).toNat c).isSome) = true from d2, List.all_replicate]
        rw [show (digOf (10 : Int).toNat 48).isSome = true by decide]; simp
      have hnum : numOf (10 : Int).toNat 0 (List.replicate m (48 : UInt8) ++ Lib.itoa (u : Int)) = u := by
        rw [Lib.itoa_nonneg]
        show numOf 10 0 _ = u
        rw [numOf_append, numOf_zeros, d1]
      rw [if_neg (by rw [Lib.itoa_nonneg]; simp [d3]), if_pos hall, hnum, if_pos (by omega), if_neg hn]; rfl
  rw [ostlerlaw01_TextDecimals.j1, if_pos (by rw [hz, sizeOf_list]; omega), hpar, Option.bind_some, Ev_awake01 (by omega)]
  by_cases hn : a < 0
  · rw [if_pos hn, if_pos hn]; rfl
  · rw [if_neg hn, if_neg hn]; simp
theorem decimals_l0 (a b : Int) (h0 : -9223372036854775808 ≤ a) (h1 : a ≤ 9223372036854775807) : ∀ (n m k : Nat), m + n = 1000 → n + 63 < k →
    ostlerlaw01_TextDecimals.l0 k a b ⟨(Lib.itoa a).toArray⟩ (List.replicate m 48) (m : Int) = some true
  | n, m, k, hmn, hk => by
    obtain ⟨k, rfl⟩ : ∃ m, k = m + 1 := ⟨k - 1, by omega⟩
    rw [ostlerlaw01_TextDecimals.l0]
    by_cases hb : (m : Int) < b
    · rw [if_pos hb]
      cases n with
      | zero => rw [if_neg (by omega)]; exact decimals_j1 a h0 h1 m (by omega) (by omega)
      | succ n =>
        rw [if_pos (by omega), if_pos (by rw [List.length_replicate]; omega), w1 (by omega), ← List.replicate_succ']
        exact decimals_l0 a b h0 h1 n (m + 1) k (by omega) (by omega)
    · rw [if_neg hb]; exact decimals_j1 a h0 h1 m (by omega) (by omega)
theorem TextDecimals : ostlerlaw01_TextDecimals.Pure := by
  intro a b ha hb
  have hw : -9223372036854775808 ≤ a ∧ a ≤ 9223372036854775807 := by
    have h1 : IntKind.i64.min = -9223372036854775808 := rfl
    have h2 : IntKind.i64.max = 9223372036854775807 := rfl
    simp [Lit.wf] at ha; omega
  refine ⟨1100, ?_⟩
  have hd : text_Decimal.f a = some ⟨(Lib.itoa a).toArray⟩ := by
    unfold text_Decimal.f strconv_Itoa.f
    rw [if_pos hw.1, if_pos hw.2]; rfl
  unfold ostlerlaw01_TextDecimals.f
  rw [hd, ref_Decimal_is a hw.1 hw.2 (by omega), Option.bind_some, Option.bind_some, if_pos rfl]
  exact decimals_l0 a b hw.1 hw.2 1000 0 1100 (by omega) (by omega)
end Go.Proofs.YtbmedennhjenhaaDoor.Q
