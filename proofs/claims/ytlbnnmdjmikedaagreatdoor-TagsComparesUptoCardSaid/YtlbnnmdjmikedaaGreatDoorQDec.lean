/- Numerals: what the reference's Decimal writes, and that digits spell the number again. -/
import Derived.Test.YtlbnnmdjmikedaaGreatDoorQ0
import Derived.Lib.ItoaLen
import Derived.Lib.Bytes
import Derived.Test.YtlbnnmdjmikedaaGreatDoorPPx26
import Derived.Test.YtlbnnmdjmikedaaGreatDoorPPx11
import Derived.Test.YtlbnnmdjmikedaaGreatDoorPPx6
namespace Go.Proofs.YtlbnnmdjmikedaaGreatDoor.Q
set_option linter.unusedVariables false
set_option linter.unusedSimpArgs false
open Go.RowKit Go.Proofs.YtlbnnmdjmikedaaGreatDoorW.PrintWords Go.Proofs.YtlbnnmdjmikedaaGreatDoorW.PrintLast Go.Proofs.YtlbnnmdjmikedaaGreatDoorW.PrintMore
open PP

theorem dec_len (u : Nat) (h : u < 18446744073709551616) : (Lib.decDigits u).length ≤ 20 := by
  rw [Lib.decDigits_length]; exact Lib.nDigits_le20 u h
theorem strOne (n : Nat) (h : n < 10) : strOfNums [(48 + (n : Int)) % 256] = ⟨#[UInt8.ofNat (48 + n)]⟩ := by
  have key : ∀ m : Fin 10, strOfNums [(48 + (m.val : Int)) % 256] = ⟨#[UInt8.ofNat (48 + m.val)]⟩ := by decide +kernel
  exact key ⟨n, h⟩
theorem sizeOf_list (l : List UInt8) : (⟨l.toArray⟩ : ByteArray).size = l.length := by rw [← sz]
theorem dec_pos : ∀ (k u : Nat), u < 10 ^ (k + 1) → u < 18446744073709551616 → ostlerref01_Decimal.f (k + 1) (u : Int) = some ⟨(Lib.decDigits u).toArray⟩
  | k, u, h, hb => by
    rw [ostlerref01_Decimal.f, if_neg (by omega)]
    by_cases h10 : u < 10
    · rw [if_pos (by omega), wrap64_of_fits (by omega) (by omega), strOne u h10, Lib.decDigits, dif_pos h10]
    · rw [if_neg (by omega)]
      cases k with
      | zero => rw [Nat.zero_add, Nat.pow_one] at h; exact absurd h h10
      | succ k =>
        have hk : u / 10 < 10 ^ (k + 1) := by rw [Nat.pow_succ] at h; omega
        have ih := dec_pos k (u / 10) hk (by omega)
        have e1 : wrap64 (Int.tdiv (u : Int) 10) = ((u / 10 : Nat) : Int) := by
          rw [Int.tdiv_eq_ediv_of_nonneg (by omega), wrap64_of_fits (by omega) (by omega)]; omega
        have e2 : wrap64 (48 + Int.tmod (u : Int) 10) = 48 + ((u % 10 : Nat) : Int) := by
          rw [Int.tmod_eq_emod_of_nonneg (by omega), wrap64_of_fits (by omega) (by omega)]; omega
        have hl := dec_len (u / 10) (by omega)
        rw [e1, ih, e2, Option.bind_some, Option.bind_some, strOne (u % 10) (by omega), if_pos (by rw [sizeOf_list]; show (Lib.decDigits (u / 10)).length + 1 ≤ _; omega)]
        congr 1
        apply ba_ext
        rw [Lib.decDigits.eq_def u, dif_neg h10]
        simp [ByteArray.data_append]
theorem dec_neg : ∀ (k u : Nat), 1 ≤ u → u < 10 ^ (k + 1) → u ≤ 9223372036854775808 → ostlerref01_Decimal.f (k + 2) (-(u : Int)) = some ⟨(45 :: Lib.decDigits u).toArray⟩
  | k, u, h1, h, hb => by
    rw [ostlerref01_Decimal.f, if_pos (by omega)]
    by_cases h10 : u < 10
    · have e0 : wrap64 (-(-(u : Int))) = (u : Int) := by rw [wrap64_of_fits (by omega) (by omega)]; omega
      have hl := dec_len u (by omega)
      rw [if_pos (by omega), e0, dec_pos k u h (by omega), Option.bind_some, if_pos (by rw [sizeOf_list]; omega)]
      congr 1
    · rw [if_neg (by omega)]
      cases k with
      | zero => rw [Nat.zero_add, Nat.pow_one] at h; exact absurd h h10
      | succ k =>
        have hk : u / 10 < 10 ^ (k + 1) := by rw [Nat.pow_succ] at h; omega
        have ih := dec_neg k (u / 10) (by omega) hk (by omega)
        have e1 : wrap64 (Int.tdiv (-(u : Int)) 10) = -((u / 10 : Nat) : Int) := by
          rw [Int.neg_tdiv, Int.tdiv_eq_ediv_of_nonneg (by omega), wrap64_of_fits (by omega) (by omega)]; omega
        have e2 : wrap64 (48 - Int.tmod (-(u : Int)) 10) = 48 + ((u % 10 : Nat) : Int) := by
          rw [Int.neg_tmod, Int.tmod_eq_emod_of_nonneg (by omega), wrap64_of_fits (by omega) (by omega)]; omega
        have hl := dec_len (u / 10) (by omega)
        rw [e1, ih, e2, Option.bind_some, Option.bind_some, strOne (u % 10) (by omega), if_pos (by rw [sizeOf_list]; show (45 :: Lib.decDigits (u / 10)).length + 1 ≤ _; rw [List.length_cons]; omega)]
        congr 1
        apply ba_ext
        rw [Lib.decDigits.eq_def u, dif_neg h10]
        simp [ByteArray.data_append]
theorem ref_Decimal_is (a : Int) (h0 : -9223372036854775808 ≤ a) (h1 : a ≤ 9223372036854775807) {k : Nat} (hk : 30 < k) : ostlerref01_Decimal.f k a = some ⟨(Lib.itoa a).toArray⟩ := by
  obtain ⟨k, rfl⟩ : ∃ m, k = m + 2 := ⟨k - 2, by omega⟩
  have hp : 10 ^ 20 ≤ 10 ^ (k + 1) := Nat.pow_le_pow_right (by omega) (by omega)
  have hp2 : 10 ^ (k + 1) ≤ 10 ^ (k + 1 + 1) := Nat.pow_le_pow_right (by omega) (by omega)
  by_cases hn : a < 0
  · obtain ⟨u, rfl⟩ : ∃ u : Nat, a = -(u : Int) := ⟨a.natAbs, by omega⟩
    rw [Lib.itoa_neg u (by omega)]
    exact dec_neg k u (by omega) (by omega) (by omega)
  · obtain ⟨u, rfl⟩ : ∃ u : Nat, a = u := ⟨a.toNat, by omega⟩
    rw [Lib.itoa_nonneg]
    exact dec_pos (k + 1) u (by omega) (by omega)
theorem numOf_append (b acc : Nat) (l m : List UInt8) : numOf b acc (l ++ m) = numOf b (numOf b acc l) m := by
  induction l generalizing acc with
  | nil => rfl
  | cons c l ih => exact ih _
theorem numOf_zeros (m : Nat) : numOf 10 0 (List.replicate m 48) = 0 := by
  induction m with
  | zero => rfl
  | succ m ih => rw [List.replicate_succ]; exact ih
theorem dig_at (n : Nat) (h : n < 10) : digOf 10 (UInt8.ofNat (48 + n)) = some n := by
  have key : ∀ m : Fin 10, digOf 10 (UInt8.ofNat (48 + m.val)) = some m.val := by decide +kernel
  exact key ⟨n, h⟩
theorem dec_num (u : Nat) : numOf 10 0 (Lib.decDigits u) = u ∧ (Lib.decDigits u).all (fun c => (digOf 10 c).isSome) = true ∧ Lib.decDigits u ≠ [] := by
  induction u using Nat.strongRecOn with
  | _ u ih =>
    rw [Lib.decDigits]
    by_cases h : u < 10
    · rw [dif_pos h]
      refine ⟨?_, by rw [List.all_cons, dig_at u h]; rfl, by simp⟩
      show 0 * 10 + (digOf 10 (UInt8.ofNat (48 + u))).getD 0 = u
      rw [dig_at u h]; simp
    · rw [dif_neg h]
      obtain ⟨i1, i2, _⟩ := ih (u / 10) (by omega)
      refine ⟨?_, ?_, by simp⟩
      · rw [numOf_append, i1]
        show u / 10 * 10 + (digOf 10 (UInt8.ofNat (48 + u % 10))).getD 0 = u
        rw [dig_at _ (by omega), Option.getD_some]; omega
      · rw [List.all_append, i2, List.all_cons, dig_at (u % 10) (by omega)]; rfl

theorem wf64 {n : Int} (h : (Lit.int .i64 n).wf = true) : -9223372036854775808 ≤ n ∧ n ≤ 9223372036854775807 := by
  simp [Lit.wf] at h
  exact h
/-- a string of a list of bytes -/
def B (l : List UInt8) : ByteArray := ⟨l.toArray⟩
theorem B_toList (l : List UInt8) : (B l).data.toList = l := rfl
theorem B_toL (l : List UInt8) : (B l).toList = l := by rw [Lib.toList_data]; rfl
theorem B_size (l : List UInt8) : (B l).size = l.length := by rw [← sz]; rfl
theorem B_app (l m : List UInt8) : B l ++ B m = B (l ++ m) := by apply ba_ext; simp [B, ByteArray.data_append]
theorem B_of (s : ByteArray) : s = B s.data.toList := by apply ba_ext; rfl
theorem B_inj {l m : List UInt8} (h : B l = B m) : l = m := by have := congrArg (fun s : ByteArray => s.data.toList) h; exact this
theorem B_extract (l : List UInt8) (a b : Nat) : (B l).extract a b = B ((l.drop a).take (b - a)) := by
  apply ba_ext
  rw [Lib.extract_data]
  simp [B_toList]
theorem toList_eq {s t : ByteArray} (h : s.toList = t.toList) : s = t := ba_ext (by rw [← Lib.toList_data, ← Lib.toList_data, h])
theorem decimal_nat (n : Nat) (h : n < 9223372036854775808) : text_Decimal.f (n : Int) = some (B (Lib.decDigits n)) := by
  unfold text_Decimal.f strconv_Itoa.f
  rw [if_pos (by omega), if_pos (by omega), Option.bind_some, Lib.itoa_nonneg]; rfl
theorem decimal_any (n : Int) (h0 : -9223372036854775808 ≤ n) (h1 : n ≤ 9223372036854775807) : text_Decimal.f n = some (B (Lib.itoa n)) := by
  unfold text_Decimal.f strconv_Itoa.f
  rw [if_pos h0, if_pos h1, Option.bind_some]; rfl
theorem ref_decimal_nat (n : Nat) (h : n < 9223372036854775808) {k : Nat} (hk : 30 < k) : ostlerref01_Decimal.f k (n : Int) = some (B (Lib.decDigits n)) := by
  rw [ref_Decimal_is _ (by omega) (by omega) hk, Lib.itoa_nonneg]; rfl
/-- digits that are no more than 2^63 are a number -/
theorem number_of (l : List UInt8) (hl : l.length ≤ 140737488355328) : text_Number.f (B l) = some (if l = [] then (0, 10) else (if l.all (fun c => (digOf 10 c).isSome) = true then (if numOf 10 0 l < 9223372036854775808 then ((numOf 10 0 l : Int), 0) else (0, 5)) else (0, 10))) := by
  unfold text_Number.f text_parse.f
  rw [if_pos (by rw [B_size]; exact hl), if_pos (.inl rfl), B_toList]
  by_cases h1 : l = []
  · rw [if_pos h1, if_pos h1]; rfl
  · rw [if_neg h1, if_neg h1]
    show (if (l.all fun c => (digOf 10 c).isSome) = true then (if numOf 10 0 l < 9223372036854775808 then some ((numOf 10 0 l : Int), (0 : Int)) else some (0, 5)) else some (0, 10)).bind _ = _
    split
    · split <;> rfl
    · rfl
theorem number_dec (n : Nat) (h : n < 9223372036854775808) : text_Number.f (B (Lib.decDigits n)) = some ((n : Int), 0) := by
  obtain ⟨d1, d2, d3⟩ := dec_num n
  have hl := dec_len n (by omega)
  rw [number_of _ (by omega), if_neg d3, if_pos d2, d1, if_pos h]
theorem digit_byte {c : UInt8} (h : (digOf 10 c).isSome = true) : 48 ≤ c.toNat ∧ c.toNat ≤ 57 := by
  have key : ∀ n : Fin 256, (digOf 10 (UInt8.ofNat n.val)).isSome = true → 48 ≤ n.val ∧ n.val ≤ 57 := by decide +kernel
  have := key ⟨c.toNat, c.toNat_lt⟩ (by simpa using h)
  exact this
theorem dec_bytes (n : Nat) : ∀ c ∈ Lib.decDigits n, 48 ≤ c.toNat ∧ c.toNat ≤ 57 := fun c hc => digit_byte (List.all_eq_true.1 (dec_num n).2.1 c hc)
theorem dec_len_lt : ∀ (w n : Nat), n < 10 ^ (w + 1) → (Lib.decDigits n).length ≤ w + 1
  | 0, n, h => by rw [Lib.decDigits, dif_pos (by omega)]; simp
  | w + 1, n, h => by
    rw [Lib.decDigits]
    by_cases h10 : n < 10
    · rw [dif_pos h10]; simp
    · rw [dif_neg h10, List.length_append]
      have := dec_len_lt w (n / 10) (by rw [Nat.pow_succ] at h; omega)
      simp only [List.length_cons, List.length_nil]; omega
end Go.Proofs.YtlbnnmdjmikedaaGreatDoor.Q
