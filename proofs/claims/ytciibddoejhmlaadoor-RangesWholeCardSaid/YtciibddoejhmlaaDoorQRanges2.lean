/- What ranges.Parse reads of one piece that is written with numerals. -/
import Derived.Test.YtciibddoejhmlaaDoorQRangesA
namespace Go.Proofs.YtciibddoejhmlaaDoor.Q
set_option linter.unusedVariables false
set_option linter.unusedSimpArgs false
open Go.RowKit Go.Proofs.YtciibddoejhmlaaDoorW.PrintWords Go.Proofs.YtciibddoejhmlaaDoorW.PrintLast Go.Proofs.YtciibddoejhmlaaDoorW.PrintMore
open PP
theorem index_at (c : UInt8) (r : List UInt8) : ∀ p : List UInt8, c ∉ p → Lib.index (p ++ c :: r) [c] = (p.length : Int)
  | [], _ => by rw [List.nil_append]; unfold Lib.index; simp [List.isPrefixOf]
  | b :: p, h => by
    have h1 : c ≠ b := fun e => h (by simp [e])
    have ih := index_at c r p (fun hm => h (by simp [hm]))
    rw [List.cons_append]
    unfold Lib.index
    rw [show ([c] : List UInt8).isPrefixOf (b :: (p ++ c :: r)) = false by simp [List.isPrefixOf, h1], if_neg (by decide), ih, if_neg (by simp)]
    simp
theorem cut_at (c : UInt8) (p r : List UInt8) (h : c ∉ p) : Lib.cut (p ++ c :: r) [c] = (p, r, true) := by
  unfold Lib.cut
  rw [index_at c r p h, if_pos (by omega)]
  simp
theorem parse_one (p : List UInt8) (size : Int) (h0 : 0 ≤ size) (hp : p ≠ []) (hc : ∀ x ∈ p, x ≠ 44 ∧ x ≠ 32 ∧ x ≠ 9) :
    ParseL ([98, 121, 116, 101, 115, 61] ++ p) size = if (Part p size).2.2.2 = true then (if (Part p size).2.2.1 = true then ([⟨(Part p size).1, (Part p size).2.1⟩], 0) else ([], 161)) else ([], 160) := by
  have e1 : ([98, 121, 116, 101, 115, 61] ++ p).take 6 = [98, 121, 116, 101, 115, 61] := by simp
  have e2 : ([98, 121, 116, 101, 115, 61] ++ p).drop 6 = p := by simp
  unfold ParseL
  rw [if_neg (by omega), e1, if_pos rfl, e2,
    splitC_none 44 p (fun h => (hc 44 h).1 rfl), parseL, trimL_none p (fun x hx => (hc x hx).2), if_neg hp]
  by_cases h1 : (Part p size).2.2.2 = true
  · rw [if_pos h1, if_pos h1]
    by_cases h2 : (Part p size).2.2.1 = true
    · rw [if_pos ⟨h2, by simp⟩, if_pos h2, parseL, if_neg (by omega), if_neg (by omega), if_neg (by simp)]; rfl
    · rw [if_neg (fun h => h2 h.1), if_neg h2, parseL, if_neg (by omega), if_neg (by omega), if_pos rfl]
  · rw [if_neg h1, if_neg h1]
theorem dec_no (n : Nat) (c : UInt8) (h : c.toNat < 48 ∨ 57 < c.toNat) : c ∉ Lib.decDigits n := fun hm => by have := dec_bytes n c hm; omega
theorem NumR_dec (n : Nat) (h : n < 10 ^ 15) : NumR (Lib.decDigits n) = ((n : Int), true) := by
  obtain ⟨d1, d2, d3⟩ := dec_num n
  have hl := dec_len_lt 14 n h
  unfold NumR
  rw [if_neg d3, if_pos d2, d1, if_pos (by omega), decide_eq_true (by omega)]
theorem dec_ne (n : Nat) : Lib.decDigits n ≠ [] := (dec_num n).2.2
theorem piece_bytes (l : List UInt8) (h : ∀ x ∈ l, x = 45 ∨ (48 ≤ x.toNat ∧ x.toNat ≤ 57)) : ∀ x ∈ l, x ≠ 44 ∧ x ≠ 32 ∧ x ≠ 9 := fun x hx => by
  rcases h x hx with rfl | h
  · decide
  · refine ⟨?_, ?_, ?_⟩ <;> (rintro rfl; revert h; decide)
/-- 'bytes=a-b' -/
theorem parse_ab (a b : Nat) (size : Int) (hab : a ≤ b) (hb : (b : Int) < size) (hs : size ≤ 999999999999999) : ParseL ([98, 121, 116, 101, 115, 61] ++ (Lib.decDigits a ++ 45 :: Lib.decDigits b)) size = ([⟨a, b⟩], 0) := by
  rw [parse_one _ size (by omega) (by simp) (piece_bytes _ (fun x hx => by
    rcases List.mem_append.1 hx with h | h
    · exact .inr (dec_bytes a x h)
    · rcases List.mem_cons.1 h with h | h
      · exact .inl h
      · exact .inr (dec_bytes b x h)))]
  have e : Part (Lib.decDigits a ++ 45 :: Lib.decDigits b) size = ((a : Int), (b : Int), true, true) := by
    unfold Part
    rw [cut_at 45 _ _ (dec_no a 45 (by decide)), if_pos rfl, if_neg (fun h => dec_ne a h.1), if_neg (dec_ne a), if_neg (dec_ne b)]
    rw [NumR_dec a (by omega), NumR_dec b (by omega), wrap64_of_fits (by omega) (by omega)]
    unfold mn
    rw [if_neg (by dsimp only; omega), decide_eq_true (by dsimp only; omega), decide_eq_true (by dsimp only; omega)]; rfl
  rw [e]; rfl
/-- 'bytes=a-' -/
theorem parse_a (a : Nat) (size : Int) (h0 : 1 ≤ size) (hs : size ≤ 999999999999999) (ha : a < 10 ^ 15) : ParseL ([98, 121, 116, 101, 115, 61] ++ (Lib.decDigits a ++ [45])) size = if (a : Int) < size then ([⟨a, size - 1⟩], 0) else ([], 161) := by
  rw [parse_one _ size (by omega) (by simp) (piece_bytes _ (fun x hx => by
    rcases List.mem_append.1 hx with h | h
    · exact .inr (dec_bytes a x h)
    · simp at h; exact .inl h))]
  have e : Part (Lib.decDigits a ++ [45]) size = ((a : Int), size - 1, decide ((a : Int) < size), true) := by
    unfold Part
    rw [cut_at 45 _ [] (dec_no a 45 (by decide)), if_pos rfl, if_neg (fun h => dec_ne a h.1), if_neg (dec_ne a), if_pos rfl]
    rw [NumR_dec a (by omega), wrap64_of_fits (by omega) (by omega)]
  rw [e]
  by_cases h : (a : Int) < size
  · rw [if_pos h, decide_eq_true h]; rfl
  · rw [if_neg h, decide_eq_false h]; rfl
/-- 'bytes=-b' -/
theorem parse_b (b : Nat) (size : Int) (h0 : 1 ≤ size) (hs : size ≤ 999999999999999) (hb : b < 10 ^ 15) (hb1 : 1 ≤ b) : ParseL ([98, 121, 116, 101, 115, 61] ++ (45 :: Lib.decDigits b)) size = ([⟨if size - b < 0 then 0 else size - b, size - 1⟩], 0) := by
  rw [parse_one _ size (by omega) (by simp) (piece_bytes _ (fun x hx => by
    rcases List.mem_cons.1 hx with h | h
    · exact .inl h
    · exact .inr (dec_bytes b x h)))]
  have e : Part (45 :: Lib.decDigits b) size = (if size - b < 0 then 0 else size - b, size - 1, true, true) := by
    unfold Part
    rw [show (45 :: Lib.decDigits b : List UInt8) = [] ++ 45 :: Lib.decDigits b from rfl, cut_at 45 [] _ (by simp), if_pos rfl, if_neg (fun h => dec_ne b h.2), if_pos rfl]
    rw [NumR_dec b (by omega), wrap64_of_fits (by omega) (by omega), wrap64_of_fits (by omega) (by omega)]
    unfold mx
    dsimp only
    rw [decide_eq_true (by omega), decide_eq_true (by omega)]
    by_cases h : size - (b : Int) < 0
    · rw [if_pos h, if_neg (by omega)]; rfl
    · rw [if_neg h]
      by_cases h2 : (0 : Int) < size - b
      · rw [if_pos h2]; rfl
      · rw [if_neg h2, show size - (b : Int) = 0 by omega]; rfl
  rw [e]; rfl
theorem same_one (a b : Int) {k : Nat} (hk : 3 ≤ k) : ostlerref16_Same.f k [(⟨a, b⟩ : Rg)] [(⟨a, b⟩ : Rg)] = some true := by
  obtain ⟨k, rfl⟩ : ∃ m, k = m + 2 := ⟨k - 2, by omega⟩
  have r : rd_T25 [(⟨a, b⟩ : Rg)] 0 = ⟨a, b⟩ := rfl
  unfold ostlerref16_Same.f
  rw [if_pos rfl, ostlerref16_Same.l0, if_pos (by simp), if_pos (by decide), if_pos (by simp), r, beq_self_eq_true, beq_self_eq_true, if_neg (by decide)]
  rw [show wrap64 (0 + 1) = 1 from w1' (i := 0) (by decide), ostlerref16_Same.l0, if_neg (by simp)]
end Go.Proofs.YtciibddoejhmlaaDoor.Q
