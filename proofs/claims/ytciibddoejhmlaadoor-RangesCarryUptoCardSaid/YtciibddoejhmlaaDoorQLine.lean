/- The line between parts: the first of part0, part1, .. that stands nowhere in the body; the program and the reference take the same one. -/
import Derived.Test.YtciibddoejhmlaaDoorQRangesA
import Derived.Lib.IndexLaws
import Derived.Test.YtciibddoejhmlaaDoorPPx5
import Derived.Test.YtciibddoejhmlaaDoorPPx16
import Derived.Test.YtciibddoejhmlaaDoorPPx15
namespace Go.Proofs.YtciibddoejhmlaaDoor.Q
set_option linter.unusedVariables false
set_option linter.unusedSimpArgs false
open Go.RowKit Go.Proofs.YtciibddoejhmlaaDoorW.PrintWords Go.Proofs.YtciibddoejhmlaaDoorW.PrintLast Go.Proofs.YtciibddoejhmlaaDoorW.PrintMore
open PP
/-- p stands in l at some place from i on -/
def HasFrom (l p : List UInt8) (i : Nat) : Prop := ∃ j, i ≤ j ∧ j + p.length ≤ l.length ∧ (l.drop j).take p.length = p
theorem hasFrom_index (l p : List UInt8) (hp : p ≠ []) : HasFrom l p 0 ↔ 0 ≤ Lib.index l p := by
  constructor
  · rintro ⟨j, _, hj, e⟩
    rcases Lib.index_spec l p with ⟨e1, h1⟩ | ⟨i, e1, _⟩
    · have := h1 j (by omega)
      rw [Lib.occAt_iff_take l p j hj, e] at this
      simp at this
    · rw [e1]; omega
  · intro h
    rcases Lib.index_spec l p with ⟨e1, h1⟩ | ⟨i, e1, hi, ho, _⟩
    · omega
    · have hr : i + p.length ≤ l.length := (Lib.occAt_room ho).resolve_right hp
      rw [Lib.occAt_iff_take l p i hr] at ho
      exact ⟨i, Nat.zero_le _, hr, by simpa using ho⟩
theorem contains_is (l p : List UInt8) (h : l.length < 4294967281) : strings_Contains.f (B l) (B p) = some (decide (0 ≤ Lib.index l p)) := by
  unfold strings_Contains.f strings_Index.f
  rw [B_size, if_pos h, Option.bind_some, B_toList, B_toList]
theorem stands_loop (l p : List UInt8) (hp : p.length ≤ 1000) (hl : l.length ≤ 1048576) : ∀ (d i k : Nat), i + d = l.length + 1 → d + 1 ≤ k → ∃ b, ostlerref16_Stands.l0 k (B p) (B l) (i : Int) = some b ∧ (b = true ↔ HasFrom l p i)
  | 0, i, k, hi, hk => by
    obtain ⟨k, rfl⟩ : ∃ m, k = m + 1 := ⟨k - 1, by omega⟩
    have e1 : wrap64 ((i : Int) + ((B p).size : Int)) = ((i + p.length : Nat) : Int) := by rw [B_size, wrap64_of_fits (by omega) (by omega)]; omega
    refine ⟨false, ?_, ?_⟩
    · rw [ostlerref16_Stands.l0, e1, B_size, if_neg (by omega)]
    · constructor
      · intro h; cases h
      · rintro ⟨j, h1, h2, _⟩; omega
  | d + 1, i, k, hi, hk => by
    obtain ⟨k, rfl⟩ : ∃ m, k = m + 1 := ⟨k - 1, by omega⟩
    have e1 : wrap64 ((i : Int) + ((B p).size : Int)) = ((i + p.length : Nat) : Int) := by rw [B_size, wrap64_of_fits (by omega) (by omega)]; omega
    by_cases hc : i + p.length ≤ l.length
    · rw [ostlerref16_Stands.l0, e1, B_size, if_pos (by omega), if_pos (by omega), if_pos (by omega), Int.toNat_natCast, Int.toNat_natCast, B_extract, B_toL, B_toL, show i + p.length - i = p.length by omega]
      by_cases he : (l.drop i).take p.length = p
      · rw [if_pos he]
        exact ⟨true, rfl, fun _ => ⟨i, Nat.le_refl _, hc, he⟩, fun _ => rfl⟩
      · rw [if_neg he, w1' (by omega)]
        obtain ⟨b, e, hb⟩ := stands_loop l p hp hl d (i + 1) k (by omega) (by omega)
        refine ⟨b, e, hb.trans ⟨?_, ?_⟩⟩
        · rintro ⟨j, h1, h2⟩; exact ⟨j, by omega, h2⟩
        · rintro ⟨j, h1, h2, h3⟩
          refine ⟨j, ?_, h2, h3⟩
          rcases Nat.lt_or_ge i j with h | h
          · exact h
          · have : j = i := by omega
            subst this; exact absurd h3 he
    · refine ⟨false, ?_, ?_⟩
      · rw [ostlerref16_Stands.l0, e1, B_size, if_neg (by omega)]
      · constructor
        · intro h; cases h
        · rintro ⟨j, h1, h2, _⟩; omega
theorem stands_is (l p : List UInt8) (hp : p.length ≤ 1000) (hp0 : p ≠ []) (hl : l.length ≤ 1048576) {k : Nat} (hk : 1048580 ≤ k) : ostlerref16_Stands.f k (B p) (B l) = some (decide (0 ≤ Lib.index l p)) := by
  obtain ⟨b, e, hb⟩ := stands_loop l p hp hl _ 0 k (Nat.zero_add _) (by omega)
  unfold ostlerref16_Stands.f
  rw [show (0 : Int) = ((0 : Nat) : Int) from rfl, e]
  refine congrArg some ?_
  rw [hasFrom_index l p hp0] at hb
  by_cases h : 0 ≤ Lib.index l p
  · rw [hb.2 h]; exact (decide_eq_true h).symm
  · have : b = false := by cases b with | false => rfl | true => exact absurd (hb.1 rfl) h
    rw [this]; exact (decide_eq_false h).symm
theorem pigeon : ∀ (L : Nat) (f : Nat → Nat) (n : Nat), (∀ i, i < n → f i < L) → (∀ i j, i < j → j < n → f i ≠ f j) → n ≤ L
  | 0, f, n, h1, _ => by
    rcases Nat.eq_zero_or_pos n with h | h
    · omega
    · have := h1 0 h; omega
  | L + 1, f, 0, _, _ => Nat.zero_le _
  | L + 1, f, m + 1, h1, h2 => by
    have := pigeon L (fun i => if f m < f i then f i - 1 else f i) m (fun i hi => by
      have a := h1 i (by omega); have b := h1 m (by omega); have c := h2 i m hi (by omega)
      split <;> omega) (fun i j hij hj => by
      have a := h2 i m (by omega) (by omega); have b := h2 j m hj (by omega); have c := h2 i j hij (by omega)
      split <;> split <;> omega)
    omega
theorem least (P : Nat → Prop) : ∀ n, P n → ∃ m, m ≤ n ∧ P m ∧ ∀ i, i < m → ¬ P i
  | 0, h => ⟨0, Nat.le_refl _, h, fun i hi => absurd hi (Nat.not_lt_zero i)⟩
  | n + 1, h => by
    by_cases hx : ∃ i, i ≤ n ∧ P i
    · obtain ⟨i, hi, hP⟩ := hx
      obtain ⟨m, h1, h2, h3⟩ : ∃ m, m ≤ i ∧ P m ∧ ∀ j, j < m → ¬ P j := by
        have : ∀ d i, i ≤ d → P i → ∃ m, m ≤ i ∧ P m ∧ ∀ j, j < m → ¬ P j := by
          intro d
          induction d with
          | zero => intro i hi hP; exact ⟨i, Nat.le_refl _, hP, fun j hj => absurd hj (by omega)⟩
          | succ d ih =>
            intro i hi hP
            by_cases hy : ∃ j, j < i ∧ P j
            · obtain ⟨j, hj, hPj⟩ := hy
              obtain ⟨m, a, b, c⟩ := ih j (by omega) hPj
              exact ⟨m, by omega, b, c⟩
            · exact ⟨i, Nat.le_refl _, hP, fun j hj hPj => hy ⟨j, hj, hPj⟩⟩
        exact this i i (Nat.le_refl _) hP
      exact ⟨m, by omega, h2, h3⟩
    · exact ⟨n + 1, Nat.le_refl _, h, fun i hi hP => hx ⟨i, by omega, hP⟩⟩
theorem dec_len_ge : ∀ (w n : Nat), 10 ^ w ≤ n → w + 1 ≤ (Lib.decDigits n).length
  | 0, n, h => by have := (dec_num n).2.2; have := List.length_pos_iff.2 this; omega
  | w + 1, n, h => by
    rw [Lib.decDigits]
    have h1 : 10 ≤ n := by rw [Nat.pow_succ] at h; have := Nat.pow_pos (n := w) (show 0 < 10 by decide); omega
    rw [dif_neg (by omega), List.length_append]
    have := dec_len_ge w (n / 10) (by rw [Nat.pow_succ] at h; omega)
    simp only [List.length_cons, List.length_nil]; omega
def name (n : Nat) : List UInt8 := [112, 97, 114, 116] ++ Lib.decDigits n
theorem name_ne (n : Nat) : name n ≠ [] := by unfold name; simp
theorem name_len (n : Nat) (h : n < 18446744073709551616) : (name n).length ≤ 24 := by unfold name; have := dec_len n h; simp only [List.length_append, List.length_cons, List.length_nil]; omega
theorem name_inj {a b : Nat} (h : name a = name b) : a = b := by
  unfold name at h
  have := List.append_cancel_left h
  rw [← (dec_num a).1, ← (dec_num b).1, this]
theorem name_exists (l : List UInt8) (hl : l.length ≤ 1048576) : ∃ n, n ≤ 2100000 ∧ ¬ 0 ≤ Lib.index l (name n) := by
  refine Classical.byContradiction fun hno => ?_
  have hall : ∀ n, n ≤ 2100000 → ∃ j : Nat, j + (name n).length ≤ l.length ∧ (l.drop j).take (name n).length = name n := by
    intro n hn
    have h1 : 0 ≤ Lib.index l (name n) := Classical.byContradiction fun h => hno ⟨n, hn, h⟩
    obtain ⟨j, _, h2, h3⟩ := (hasFrom_index l (name n) (name_ne n)).2 h1
    exact ⟨j, h2, h3⟩
  have hlen : ∀ i, i < 1048577 → (name (1000000 + i)).length = 11 := by
    intro i hi
    have a := dec_len_ge 6 (1000000 + i) (by rw [show 10 ^ 6 = 1000000 by decide]; omega)
    have b := dec_len_lt 6 (1000000 + i) (by rw [show 10 ^ (6 + 1) = 10000000 by decide]; omega)
    unfold name
    simp only [List.length_append, List.length_cons, List.length_nil]; omega
  have hall2 : ∀ i, ∃ j : Nat, i < 1048577 → j + 11 ≤ l.length ∧ (l.drop j).take 11 = name (1000000 + i) := by
    intro i
    by_cases hi : i < 1048577
    · obtain ⟨j, a, b⟩ := hall (1000000 + i) (by omega)
      rw [hlen i hi] at a b
      exact ⟨j, fun _ => ⟨a, b⟩⟩
    · exact ⟨0, fun h => absurd h hi⟩
  have hp := pigeon 1048576 (fun i => Classical.choose (hall2 i)) 1048577 (fun i hi => by
    have := (Classical.choose_spec (hall2 i) hi).1
    omega) (fun i j hij hj => by
    have a := (Classical.choose_spec (hall2 i) (by omega)).2
    have b := (Classical.choose_spec (hall2 j) hj).2
    intro e
    rw [e, b] at a
    have := name_inj a
    omega)
  omega
theorem line_loop (l : List UInt8) (hl : l.length ≤ 1048576) (N : Nat) (hN : N ≤ 2100000) (hno : ¬ 0 ≤ Lib.index l (name N)) (hyes : ∀ i, i < N → 0 ≤ Lib.index l (name i)) :
    ∀ (d i k : Nat), i + d = N → d + 1 ≤ k → ranges_Line.l0 k (B l) (i : Int) = some (B (name N))
  | d, i, 0, hi, hk => absurd hk (by omega)
  | 0, i, k + 1, hi, hk => by
    have hi' : i = N := by omega
    subst hi'
    have hz := dec_len i (by omega)
    rw [ranges_Line.l0, decimal_nat i (by omega), Option.bind_some, B_size, if_pos (by omega)]
    rw [show (⟨#[112, 97, 114, 116]⟩ : ByteArray) = B [112, 97, 114, 116] from rfl, B_app, show [112, 97, 114, 116] ++ Lib.decDigits i = name i from rfl, contains_is l _ (by omega), Option.bind_some, decide_eq_false hno, if_neg (by decide)]
  | d + 1, i, k + 1, hi, hk => by
    have hz := dec_len i (by omega)
    rw [ranges_Line.l0, decimal_nat i (by omega), Option.bind_some, B_size, if_pos (by omega)]
    rw [show (⟨#[112, 97, 114, 116]⟩ : ByteArray) = B [112, 97, 114, 116] from rfl, B_app, show [112, 97, 114, 116] ++ Lib.decDigits i = name i from rfl, contains_is l _ (by omega), Option.bind_some, decide_eq_true (hyes i (by omega)), if_pos rfl, w1' (by omega)]
    exact line_loop l hl N hN hno hyes d (i + 1) k (by omega) (by omega)
theorem ref_line_loop (l : List UInt8) (hl : l.length ≤ 1048576) (N : Nat) (hN : N ≤ 2100000) (hno : ¬ 0 ≤ Lib.index l (name N)) (hyes : ∀ i, i < N → 0 ≤ Lib.index l (name i)) :
    ∀ (d i k : Nat), i + d = N → d + 1048600 ≤ k → ostlerref16_Line.l0 k (B l) (i : Int) = some (B (name N))
  | d, i, 0, hi, hk => absurd hk (by omega)
  | 0, i, k + 1, hi, hk => by
    have hi' : i = N := by omega
    subst hi'
    have hz := dec_len i (by omega)
    rw [ostlerref16_Line.l0, ref_decimal_nat i (by omega) (by omega), Option.bind_some, B_size, if_pos (by omega)]
    rw [show (⟨#[112, 97, 114, 116]⟩ : ByteArray) = B [112, 97, 114, 116] from rfl, B_app, show [112, 97, 114, 116] ++ Lib.decDigits i = name i from rfl, stands_is l _ (by have := name_len i (by omega); omega) (name_ne i) hl (by omega), Option.bind_some, decide_eq_false hno, if_neg (by decide), Option.bind_some, if_pos (by rw [B_size]; omega), B_app]; rfl
  | d + 1, i, k + 1, hi, hk => by
    have hz := dec_len i (by omega)
    rw [ostlerref16_Line.l0, ref_decimal_nat i (by omega) (by omega), Option.bind_some, B_size, if_pos (by omega)]
    rw [show (⟨#[112, 97, 114, 116]⟩ : ByteArray) = B [112, 97, 114, 116] from rfl, B_app, show [112, 97, 114, 116] ++ Lib.decDigits i = name i from rfl, stands_is l _ (by have := name_len i (by omega); omega) (name_ne i) hl (by omega), Option.bind_some, decide_eq_true (hyes i (by omega)), if_pos rfl, w1' (by omega)]
    exact ref_line_loop l hl N hN hno hyes d (i + 1) k (by omega) (by omega)
/-- The line: both take the same one, it stands nowhere in the body, and is no longer than 24 bytes. -/
theorem Line_is (l : List UInt8) (hl : l.length ≤ 1048576) : ∃ p : List UInt8, p ≠ [] ∧ p.length ≤ 24 ∧ ¬ 0 ≤ Lib.index l p ∧ ∀ k, 4000000 ≤ k → ranges_Line.f k (B l) = some (B p) ∧ ostlerref16_Line.f k (B l) = some (B p) ∧ ostlerref16_Stands.f k (B p) (B l) = some false := by
  obtain ⟨n, hn, hP⟩ := name_exists l hl
  obtain ⟨N, h1, h2, h3⟩ := least (fun n => ¬ 0 ≤ Lib.index l (name n)) n hP
  have h4 : ∀ i, i < N → 0 ≤ Lib.index l (name i) := fun i hi => Classical.byContradiction fun h => h3 i hi h
  refine ⟨name N, name_ne N, name_len N (by omega), h2, fun k hk => ⟨?_, ?_, ?_⟩⟩
  · exact line_loop l hl N (by omega) h2 h4 N 0 k (Nat.zero_add _) (by omega)
  · exact ref_line_loop l hl N (by omega) h2 h4 N 0 k (Nat.zero_add _) (by omega)
  · rw [stands_is l _ (by have := name_len N (by omega); omega) (name_ne N) hl (by omega), decide_eq_false h2]
end Go.Proofs.YtciibddoejhmlaaDoor.Q
