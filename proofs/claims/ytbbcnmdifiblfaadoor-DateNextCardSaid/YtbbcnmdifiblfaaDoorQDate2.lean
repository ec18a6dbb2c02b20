/- Both Formats write a second as its parts say. -/
import Derived.Test.YtbbcnmdifiblfaaDoorQDate1
import Derived.Lib.Hide
namespace Go.Proofs.YtbbcnmdifiblfaaDoor.Q
set_option linter.unusedVariables false
set_option linter.unusedSimpArgs false
open Go.RowKit Go.Proofs.YtbbcnmdifiblfaaDoorW.PrintWords Go.Proofs.YtbbcnmdifiblfaaDoorW.PrintLast Go.Proofs.YtbbcnmdifiblfaaDoorW.PrintMore
open PP

theorem lit_B2 : (⟨#[44, 32]⟩ : ByteArray) = B [44, 32] := rfl
theorem lit_B1 : (⟨#[32]⟩ : ByteArray) = B [32] := rfl
theorem lit_Bc : (⟨#[58]⟩ : ByteArray) = B [58] := rfl
theorem lit_Bg : (⟨#[32, 71, 77, 84]⟩ : ByteArray) = B [32, 71, 77, 84] := rfl
theorem months_sl (m : Nat) (h : m < 12) : ((B monthsL).extract (3 * m) 36).size = 36 - 3 * m ∧ ((B monthsL).extract (3 * m) 36).extract 0 3 = B (moOf m) := by
  rw [B_extract, B_extract, B_size]
  have key : ∀ i : Fin 12, ((monthsL.drop (3 * i.val)).take (36 - 3 * i.val)).length = 36 - 3 * i.val ∧ ((((monthsL.drop (3 * i.val)).take (36 - 3 * i.val)).drop 0).take (3 - 0)) = moOf i.val := by decide +kernel
  obtain ⟨a, b⟩ := key ⟨m, h⟩
  exact ⟨a, congrArg B b⟩
theorem months_sl2 (m : Nat) (h : m < 12) : (B monthsL).extract (3 * m) (3 * m + 3) = B (moOf m) := by
  rw [B_extract]; unfold moOf; rw [show 3 * m + 3 - 3 * m = 3 by omega]
theorem weeks_sl (d : Nat) : ((B weeksL).extract (3 * (d % 7)) 21).size = 21 - 3 * (d % 7) ∧ ((B weeksL).extract (3 * (d % 7)) 21).extract 0 3 = B (wkOf d) := by
  rw [B_extract, B_extract, B_size]
  have key : ∀ i : Fin 7, ((weeksL.drop (3 * i.val)).take (21 - 3 * i.val)).length = 21 - 3 * i.val ∧ ((((weeksL.drop (3 * i.val)).take (21 - 3 * i.val)).drop 0).take (3 - 0)) = (weeksL.drop (3 * i.val)).take 3 := by decide +kernel
  obtain ⟨a, b⟩ := key ⟨d % 7, Nat.mod_lt _ (by decide)⟩
  exact ⟨a, congrArg B b⟩
theorem weeks_sl2 (d : Nat) : (B weeksL).extract (d % 7 * 3) (d % 7 * 3 + 3) = B (wkOf d) := by
  rw [B_extract]; unfold wkOf; rw [show d % 7 * 3 + 3 - d % 7 * 3 = 3 by omega, show d % 7 * 3 = 3 * (d % 7) by omega]

theorem pt_bd {n y m d r : Nat} (h : Pt n y m d r) : 1970 ≤ y ∧ y ≤ 9999 ∧ m < 12 ∧ d + 1 ≤ 31 ∧ r < 86400 ∧ n ≤ 253402300799 := by
  have h1 := h.y0; have h2 := h.y1; have h3 := h.m1; have h4 := h.d1; have h5 := h.r1; have h6 := h.range
  have h7 := Cal.mlen_bd ⟨m, h3⟩ (Cal.lp y)
  dsimp only at h7
  refine ⟨by omega, by omega, h3, by omega, by omega, by omega⟩

/-- the last part of the program's Format -/
theorem fmt_end (k y m d r : Nat) (wk : List UInt8) (hwk : wk.length = 3) (hy0 : 1970 ≤ y) (hy1 : y ≤ 9999) (hm : m < 12) (hd0 : (d : Int) < Cal.mlen m (Cal.lp y)) (hr : r < 86400) :
    date_Format.l1 (k + 1) (Cal.ah m (Cal.lp y) + d) r (B wk) y m = some (B (fmt wk y m d r), 0) := by
  have hl := Cal.mlen_bd ⟨m, hm⟩ (Cal.lp y)
  have ha := Cal.ah_31 ⟨m, hm⟩ (Cal.lp y)
  dsimp only at hl ha
  have hd1 : d < 31 := by omega
  rw [date_Format.l1, leap_is _ (by omega), Option.bind_some, w1 (by omega), ahead_is (m + 1) _ (by omega), Option.bind_some, if_neg (by unfold Cal.mlen at hd0; omega), Option.bind_some, ahead_is m _ (by omega), Option.bind_some]
  have e1 : wrap64 (wrap64 (Cal.ah m (Cal.lp y) + d - Cal.ah m (Cal.lp y)) + 1) = ((d + 1 : Nat) : Int) := by
    rw [show Cal.ah m (Cal.lp y) + d - Cal.ah m (Cal.lp y) = (d : Int) by omega, wrap64_of_fits (n := (d : Int)) (by omega) (by omega), w1 (by omega)]
  have e2 : wrap64 (3 * (m : Int)) = ((3 * m : Nat) : Int) := by rw [wrap64_of_fits (by omega) (by omega)]; omega
  have e3 : wrap64 (Int.tdiv (r : Int) 3600) = ((r / 3600 : Nat) : Int) := by rw [Int.tdiv_eq_ediv_of_nonneg (by omega), wrap64_of_fits (by omega) (by omega)]; omega
  have e4 : Int.tmod (wrap64 (Int.tdiv (r : Int) 60)) 60 = ((r / 60 % 60 : Nat) : Int) := by rw [Int.tdiv_eq_ediv_of_nonneg (by omega), wrap64_of_fits (by omega) (by omega), Int.tmod_eq_emod_of_nonneg (by omega)]; omega
  have e5 : Int.tmod (r : Int) 60 = ((r % 60 : Nat) : Int) := by rw [Int.tmod_eq_emod_of_nonneg (by omega)]; omega
  rw [e1, e2, e3, e4, e5, digits2 _ (by omega), digits4 _ (by omega) (by omega), digits2 _ (by omega), digits2 _ (by omega), digits2 _ (by omega)]
  clear e1 e2 e3 e4 e5
  have m1 := months_sl m hm
  have e6 : (⟨#[74, 97, 110, 70, 101, 98, 77, 97, 114, 65, 112, 114, 77, 97, 121, 74, 117, 110, 74, 117, 108, 65, 117, 103, 83, 101, 112, 79, 99, 116, 78, 111, 118, 68, 101, 99]⟩ : ByteArray) = B monthsL := rfl
  have e7 : (B monthsL).size = 36 := rfl
  simp only [e6, e7, Int.toNat_natCast, m1.1, m1.2, lit_B2, lit_B1, lit_Bc, lit_Bg, Option.bind_some, B_app, B_size, List.length_append, hwk, two_len, four_len, moOf_len hm, List.length_cons, List.length_nil]
  rw [if_pos (by omega), if_pos (by omega), if_pos (by omega), if_pos (by omega), if_pos (by omega), if_pos (by omega), if_pos (by omega), if_pos (by omega), if_pos (by omega), if_pos (by omega), if_pos (by omega), if_pos (by omega), if_pos (by omega), if_pos (by omega), if_pos (by omega), if_pos (by omega), if_pos (by omega)]
  rfl
theorem fmt_months (y m d r : Nat) (wk : List UInt8) (hwk : wk.length = 3) (hy0 : 1970 ≤ y) (hy1 : y ≤ 9999) (hm : m < 12) (hd0 : (d : Int) < Cal.mlen m (Cal.lp y)) (hr : r < 86400) :
    ∀ (j m' k : Nat), m' + j = m → j < k → date_Format.l1 k (Cal.ah m (Cal.lp y) + d) r (B wk) y m' = some (B (fmt wk y m d r), 0)
  | 0, m', k, hj, hk => by
    obtain ⟨k, rfl⟩ : ∃ i, k = i + 1 := ⟨k - 1, by omega⟩
    obtain rfl : m' = m := by omega
    exact fmt_end k y m' d r wk hwk hy0 hy1 hm hd0 hr
  | j + 1, m', k, hj, hk => by
    obtain ⟨k, rfl⟩ : ∃ i, k = i + 1 := ⟨k - 1, by omega⟩
    have hle := Cal.ah_le (Cal.lp y) (show m' + 1 ≤ m by omega) (by omega)
    rw [date_Format.l1, leap_is _ (by omega), Option.bind_some, w1 (by omega), ahead_is (m' + 1) _ (by omega), Option.bind_some, if_pos (by omega)]
    exact fmt_months y m d r wk hwk hy0 hy1 hm hd0 hr j (m' + 1) k (by omega) (by omega)
theorem day31 (d : Int) (m : Nat) (hm : m < 1000) (h0 : 0 ≤ d) (h : d < 31 * ((m + 1 : Nat) : Int)) : ∃ q : Nat, wrap64 (Int.tdiv d 31) = (q : Int) ∧ q ≤ m := by
  refine ⟨(d / 31).toNat, ?_, by omega⟩
  rw [Int.tdiv_eq_ediv_of_nonneg h0, wrap64_of_fits (by omega) (by omega)]; omega
theorem fmt_years {n y m d r : Nat} (h : Pt n y m d r) (wk : List UInt8) (hwk : wk.length = 3) :
    ∀ (j y' k : Nat), y' + j = y → 1970 ≤ y' → j + 20 < k → date_Format.l0 k ((n / 86400 : Nat) : Int) r (B wk) y' = some (B (fmt wk y m d r), 0)
  | 0, y', k, hj, hy, hk => by
    obtain ⟨k, rfl⟩ : ∃ i, k = i + 1 := ⟨k - 1, by omega⟩
    obtain rfl : y' = y := by omega
    obtain ⟨b0, b1, b2, b3, b4, b5⟩ := pt_bd h
    have hd := h.day; have hl := h.day_lt
    rw [date_Format.l0, w1 (by omega), until_is _ (by omega) (by omega), Option.bind_some, if_neg (by rw [show (((y' + 1 : Nat)) : Int) = (y' : Int) + 1 by omega]; omega), until_is _ (by omega) (by omega), Option.bind_some]
    have e1 : wrap64 (((n / 86400 : Nat) : Int) - Cal.U y') = Cal.ah m (Cal.lp y') + d := by
      have ha := Cal.ah_31 ⟨m, b2⟩ (Cal.lp y')
      dsimp only at ha
      rw [wrap64_of_fits (by omega) (by omega)]; omega
    have ha := Cal.ah_31 ⟨m, b2⟩ (Cal.lp y')
    have hu := Cal.mlen_bd ⟨m, b2⟩ (Cal.lp y')
    have h8 := h.d1
    dsimp only at ha hu
    obtain ⟨q, hq, hqm⟩ := day31 (Cal.ah m (Cal.lp y') + d) m (by omega) (by omega) (by omega)
    rw [e1, hq]
    exact fmt_months y' m d r wk hwk b0 b1 b2 h8 b4 (m - q) q k (by omega) (by omega)
  | j + 1, y', k, hj, hy, hk => by
    obtain ⟨k, rfl⟩ : ∃ i, k = i + 1 := ⟨k - 1, by omega⟩
    obtain ⟨b0, b1, b2, b3, b4, b5⟩ := pt_bd h
    have hl := h.day_lt
    have hm := Cal.U_le (show (((y' + 1 : Nat)) : Int) ≤ y by omega)
    rw [date_Format.l0, w1 (by omega), until_is _ (by omega) (by omega), Option.bind_some, if_pos (by omega)]
    exact fmt_years h wk hwk j (y' + 1) k (by omega) (by omega) (by omega)
theorem tdivN (n m : Nat) (hn : n < 9223372036854775808) : wrap64 (Int.tdiv (n : Int) (m : Int)) = ((n / m : Nat) : Int) := by
  rw [Int.tdiv_eq_ediv_of_nonneg (by omega)]
  have e : ((n : Int) / (m : Int)) = ((n / m : Nat) : Int) := by simp
  have := Nat.div_le_self n m
  rw [e]
  clear e
  generalize n / m = q at *
  rw [wrap64_of_fits (by omega) (by omega)]
theorem tmodN (n m : Nat) : Int.tmod (n : Int) (m : Int) = ((n % m : Nat) : Int) := by
  rw [Int.tmod_eq_emod_of_nonneg (by omega)]; simp
theorem wrapN {n : Int} (m : Nat) (h : n = m) (hm : m < 9223372036854775808) : wrap64 n = (m : Int) := by rw [h, wrap64_of_fits (by omega) (by omega)]
theorem Format_is {n y m d r : Nat} (h : Pt n y m d r) {k : Nat} (hk : 9000 ≤ k) : date_Format.f k (n : Int) = some (B (fmt (wkOf (n / 86400)) y m d r), 0) := by
  obtain ⟨k, rfl⟩ : ∃ i, k = i + 1 := ⟨k - 1, by omega⟩
  obtain ⟨b0, b1, b2, b3, b4, b5⟩ := pt_bd h
  have hd := h.day; have hl := h.day_lt
  have hr : n % 86400 = r := by omega
  unfold date_Format.f
  rw [if_neg (by omega), show decide ((n : Int) > 253402300799) = false from decide_eq_false (by omega)]
  rw [date_Format.j0, if_neg (by decide)]
  have e1 : Hid (wrap64 (Int.tdiv (n : Int) 86400) = ((n / 86400 : Nat) : Int)) := Lib.hid (tdivN n 86400 (by omega))
  have e2 : Hid (Int.tmod (n : Int) 86400 = (r : Int)) := Lib.hid (by rw [← hr]; exact tmodN n 86400)
  have e3 : Hid (Int.tmod (((n / 86400 : Nat)) : Int) 7 = ((n / 86400 % 7 : Nat) : Int)) := Lib.hid (tmodN _ 7)
  have e4 : Hid (wrap64 (3 * ((n / 86400 % 7 : Nat) : Int)) = ((3 * (n / 86400 % 7) : Nat) : Int)) := Lib.hid (wrapN _ (by omega) (by omega))
  have e5 : Hid (wrap64 (Int.tdiv (((n / 86400 : Nat)) : Int) 366) = ((n / 86400 / 366 : Nat) : Int)) := Lib.hid (tdivN _ 366 (by omega))
  have e6 : Hid (wrap64 (1970 + ((n / 86400 / 366 : Nat) : Int)) = ((1970 + n / 86400 / 366 : Nat) : Int)) := Lib.hid (wrapN _ (by omega) (by omega))
  have e7 : (⟨#[84, 104, 117, 70, 114, 105, 83, 97, 116, 83, 117, 110, 77, 111, 110, 84, 117, 101, 87, 101, 100]⟩ : ByteArray) = B weeksL := rfl
  have e8 : (B weeksL).size = 21 := rfl
  have ws := weeks_sl (n / 86400)
  simp only [e1.out, e2.out, e3.out, e4.out, e5.out, e6.out, e7, e8, Int.toNat_natCast, ws.1, ws.2]
  rw [if_pos (by omega), if_pos (by omega), if_pos (by omega), if_pos (by omega)]
  have hU := Cal.U_366 (n / 86400 / 366)
  have hle : 1970 + n / 86400 / 366 ≤ y := by
    rcases Nat.lt_or_ge y (1970 + n / 86400 / 366) with hlt | hge
    · have := Cal.U_le (show ((y : Int) + 1) ≤ 1970 + ((n / 86400 / 366 : Nat) : Int) by omega)
      omega
    · exact hge
  exact fmt_years h _ (wkOf_len _) (y - (1970 + n / 86400 / 366)) _ k (by omega) (by omega) (by omega)
theorem Format_out (n : Int) (h : n < 0 ∨ 253402300799 < n) {k : Nat} (hk : 1 ≤ k) : date_Format.f k n = some (B [], 5) := by
  obtain ⟨k, rfl⟩ : ∃ i, k = i + 1 := ⟨k - 1, by omega⟩
  unfold date_Format.f
  by_cases h0 : n < 0
  · rw [if_pos h0, date_Format.j0, if_pos rfl]; rfl
  · rw [if_neg h0, show decide (n > 253402300799) = true from decide_eq_true (by omega), date_Format.j0, if_pos rfl]; rfl

/-! ### the reference's Format -/
theorem ref_end (k y m d r : Nat) (wk : List UInt8) (hwk : wk.length = 3) (hy0 : 1970 ≤ y) (hy1 : y ≤ 9999) (hm : m < 12) (hd0 : (d : Int) < Cal.mlen m (Cal.lp y)) (hr : r < 86400) :
    ostlerref02_Format.l1 (k + 1) d r (B wk) y ((m + 1 : Nat) : Int) = some (B (fmt wk y m d r), 0) := by
  have hl := Cal.mlen_bd ⟨m, hm⟩ (Cal.lp y)
  dsimp only at hl
  have hd1 : d < 31 := by omega
  rw [ostlerref02_Format.l1, ref_month_is _ m (by omega) hm, Option.bind_some, if_neg (by omega)]
  have e1 : wrap64 ((d : Int) + 1) = ((d + 1 : Nat) : Int) := w1 (by omega)
  have e2 : wrap64 (3 * ((m + 1 : Nat) : Int)) = ((3 * m + 3 : Nat) : Int) := wrapN _ (by omega) (by omega)
  have e2b : wrap64 (((3 * m + 3 : Nat) : Int) - 3) = ((3 * m : Nat) : Int) := wrapN _ (by omega) (by omega)
  have e3 : wrap64 (Int.tdiv (r : Int) 3600) = ((r / 3600 : Nat) : Int) := tdivN r 3600 (by omega)
  have e4 : wrap64 (Int.tdiv (r : Int) 60) = ((r / 60 : Nat) : Int) := tdivN r 60 (by omega)
  have e4b : Int.tmod ((r / 60 : Nat) : Int) 60 = ((r / 60 % 60 : Nat) : Int) := tmodN _ 60
  have e5 : Int.tmod (r : Int) 60 = ((r % 60 : Nat) : Int) := tmodN _ 60
  have e8 : wrap64 (Int.tdiv (y : Int) 100) = ((y / 100 : Nat) : Int) := tdivN y 100 (by omega)
  have e9 : Int.tmod (y : Int) 100 = ((y % 100 : Nat) : Int) := tmodN _ 100
  rw [e1, e2, e2b, e3, e4, e4b, e5, e8, e9, ref_two_is _ (by omega), ref_two_is _ (by omega), ref_two_is _ (by omega), ref_two_is _ (by omega), ref_two_is _ (by omega), ref_two_is _ (by omega)]
  clear e1 e2 e2b e3 e4 e4b e5 e8 e9
  have m1 := months_sl2 m hm
  have e6 : (⟨#[74, 97, 110, 70, 101, 98, 77, 97, 114, 65, 112, 114, 77, 97, 121, 74, 117, 110, 74, 117, 108, 65, 117, 103, 83, 101, 112, 79, 99, 116, 78, 111, 118, 68, 101, 99]⟩ : ByteArray) = B monthsL := rfl
  simp only [e6, Int.toNat_natCast, m1, lit_B2, lit_B1, lit_Bc, lit_Bg, Option.bind_some, B_app, B_size, List.length_append, hwk, two_len, four_len, moOf_len hm, List.length_cons, List.length_nil]
  rw [if_pos (by omega), if_pos (by omega), if_pos (by omega), if_pos (by omega), if_pos (by omega), if_pos (by omega), if_pos (by omega), if_pos (by omega), if_pos (by omega), if_pos (by omega), if_pos (by omega), if_pos (by omega), if_pos (by omega), if_pos (by omega), if_pos (by omega), if_pos (by omega), if_pos (by omega)]
  unfold fmt
  rw [← four_two y (by omega)]
  simp only [List.append_assoc]
theorem ref_months (y m d r : Nat) (wk : List UInt8) (hwk : wk.length = 3) (hy0 : 1970 ≤ y) (hy1 : y ≤ 9999) (hm : m < 12) (hd0 : (d : Int) < Cal.mlen m (Cal.lp y)) (hr : r < 86400) :
    ∀ (j m' k : Nat), m' + j = m → j < k → ostlerref02_Format.l1 k (Cal.ah m (Cal.lp y) - Cal.ah m' (Cal.lp y) + d) r (B wk) y ((m' + 1 : Nat) : Int) = some (B (fmt wk y m d r), 0)
  | 0, m', k, hj, hk => by
    obtain ⟨k, rfl⟩ : ∃ i, k = i + 1 := ⟨k - 1, by omega⟩
    obtain rfl : m' = m := by omega
    rw [show Cal.ah m' (Cal.lp y) - Cal.ah m' (Cal.lp y) + (d : Int) = d by omega]
    exact ref_end k y m' d r wk hwk hy0 hy1 hm hd0 hr
  | j + 1, m', k, hj, hk => by
    obtain ⟨k, rfl⟩ : ∃ i, k = i + 1 := ⟨k - 1, by omega⟩
    have hle := Cal.ah_le (Cal.lp y) (show m' + 1 ≤ m by omega) (by omega)
    have hl := Cal.mlen_bd ⟨m', by omega⟩ (Cal.lp y)
    have ha := Cal.ah_31 ⟨m, hm⟩ (Cal.lp y)
    have ha' := Cal.ah_31 ⟨m', by omega⟩ (Cal.lp y)
    have hb := Cal.mlen_bd ⟨m, hm⟩ (Cal.lp y)
    dsimp only at hl ha ha' hb
    have hm' : Cal.mlen m' (Cal.lp y) = Cal.ah (m' + 1) (Cal.lp y) - Cal.ah m' (Cal.lp y) := rfl
    rw [ostlerref02_Format.l1, ref_month_is _ m' (by omega) (by omega), Option.bind_some, if_pos (by omega), Option.bind_some, w1 (by omega)]
    rw [wrap64_of_fits (by omega) (by omega), show Cal.ah m (Cal.lp y) - Cal.ah m' (Cal.lp y) + (d : Int) - Cal.mlen m' (Cal.lp y) = Cal.ah m (Cal.lp y) - Cal.ah (m' + 1) (Cal.lp y) + d by omega]
    exact ref_months y m d r wk hwk hy0 hy1 hm hd0 hr j (m' + 1) k (by omega) (by omega)
theorem ref_years {n y m d r : Nat} (h : Pt n y m d r) (wk : List UInt8) (hwk : wk.length = 3) :
    ∀ (j y' k : Nat), y' + j = y → 1970 ≤ y' → j + 20 < k → ostlerref02_Format.l0 k (((n / 86400 : Nat) : Int) - Cal.U y') r (B wk) y' = some (B (fmt wk y m d r), 0)
  | 0, y', k, hj, hy, hk => by
    obtain ⟨k, rfl⟩ : ∃ i, k = i + 1 := ⟨k - 1, by omega⟩
    obtain rfl : y' = y := by omega
    obtain ⟨b0, b1, b2, b3, b4, b5⟩ := pt_bd h
    have hd := h.day; have hl := h.day_lt
    rw [ostlerref02_Format.l0, ref_year_is _ (by omega), Option.bind_some, if_neg (by omega)]
    have e := ref_months y' m d r wk hwk b0 b1 b2 h.d1 b4 m 0 k (by omega) (by omega)
    rw [show Cal.ah 0 (Cal.lp y') = 0 by cases Cal.lp y' <;> rfl] at e
    rw [show ((n / 86400 : Nat) : Int) - Cal.U y' = Cal.ah m (Cal.lp y') - 0 + d by omega]
    exact e
  | j + 1, y', k, hj, hy, hk => by
    obtain ⟨k, rfl⟩ : ∃ i, k = i + 1 := ⟨k - 1, by omega⟩
    obtain ⟨b0, b1, b2, b3, b4, b5⟩ := pt_bd h
    have hl := h.day_lt
    have hm := Cal.U_le (show (((y' + 1 : Nat)) : Int) ≤ y by omega)
    have hs := Cal.U_succ y'
    have hz := Cal.U_le (show (1970 : Int) ≤ y' by omega)
    rw [Cal.U_1970] at hz
    have hyd := Cal.ydays_bd y'
    have e0 : Cal.U (((y' + 1 : Nat)) : Int) = Cal.U y' + Cal.ydays y' := by rw [show (((y' + 1 : Nat)) : Int) = (y' : Int) + 1 by omega]; exact hs
    rw [ostlerref02_Format.l0, ref_year_is _ (by omega), Option.bind_some, if_pos (by omega), Option.bind_some, w1 (by omega), wrap64_of_fits (by omega) (by omega), show ((n / 86400 : Nat) : Int) - Cal.U y' - Cal.ydays y' = ((n / 86400 : Nat) : Int) - Cal.U (((y' + 1 : Nat)) : Int) by omega]
    exact ref_years h wk hwk j (y' + 1) k (by omega) (by omega) (by omega)
theorem ref_Format_is {n y m d r : Nat} (h : Pt n y m d r) {k : Nat} (hk : 9000 ≤ k) : ostlerref02_Format.f k (n : Int) = some (B (fmt (wkOf (n / 86400)) y m d r), 0) := by
  obtain ⟨k, rfl⟩ : ∃ i, k = i + 1 := ⟨k - 1, by omega⟩
  obtain ⟨b0, b1, b2, b3, b4, b5⟩ := pt_bd h
  have hd := h.day; have hl := h.day_lt
  have hr : n % 86400 = r := by omega
  unfold ostlerref02_Format.f
  rw [if_neg (by omega), show decide ((n : Int) > 253402300799) = false from decide_eq_false (by omega)]
  rw [ostlerref02_Format.j0, if_neg (by decide)]
  have e1 : Hid (wrap64 (Int.tdiv (n : Int) 86400) = ((n / 86400 : Nat) : Int)) := Lib.hid (tdivN n 86400 (by omega))
  have e2 : Hid (Int.tmod (n : Int) 86400 = (r : Int)) := Lib.hid (by rw [← hr]; exact tmodN n 86400)
  have e3 : Hid (Int.tmod (((n / 86400 : Nat)) : Int) 7 = ((n / 86400 % 7 : Nat) : Int)) := Lib.hid (tmodN _ 7)
  have e4 : Hid (wrap64 (((n / 86400 % 7 : Nat) : Int) * 3) = ((n / 86400 % 7 * 3 : Nat) : Int)) := Lib.hid (wrapN _ (by omega) (by omega))
  have e5 : Hid (wrap64 (((n / 86400 % 7 * 3 : Nat) : Int) + 3) = ((n / 86400 % 7 * 3 + 3 : Nat) : Int)) := Lib.hid (wrapN _ (by omega) (by omega))
  have e7 : (⟨#[84, 104, 117, 70, 114, 105, 83, 97, 116, 83, 117, 110, 77, 111, 110, 84, 117, 101, 87, 101, 100]⟩ : ByteArray) = B weeksL := rfl
  have ws := weeks_sl2 (n / 86400)
  simp only [e1.out, e2.out, e3.out, e4.out, e5.out, e7, Int.toNat_natCast, ws]
  rw [if_pos (by omega), if_pos (by omega), if_pos (by omega)]
  have e := ref_years h _ (wkOf_len (n / 86400)) (y - 1970) 1970 k (by omega) (by omega) (by omega)
  rw [show (((1970 : Nat)) : Int) = 1970 from rfl, Cal.U_1970, Int.sub_zero] at e
  exact e
theorem ref_Format_out (n : Int) (h : n < 0 ∨ 253402300799 < n) {k : Nat} (hk : 1 ≤ k) : ostlerref02_Format.f k n = some (B [], 5) := by
  obtain ⟨k, rfl⟩ : ∃ i, k = i + 1 := ⟨k - 1, by omega⟩
  unfold ostlerref02_Format.f
  by_cases h0 : n < 0
  · rw [if_pos h0, ostlerref02_Format.j0, if_pos rfl]; rfl
  · rw [if_neg h0, show decide (n > 253402300799) = true from decide_eq_true (by omega), ostlerref02_Format.j0, if_pos rfl]; rfl
end Go.Proofs.YtbbcnmdifiblfaaDoor.Q
