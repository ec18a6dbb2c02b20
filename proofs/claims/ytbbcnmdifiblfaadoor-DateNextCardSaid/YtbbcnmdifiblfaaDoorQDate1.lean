/- What both Formats of a second come to: its text, as a list of bytes; the pieces that they are made of. -/
import Derived.Test.YtbbcnmdifiblfaaDoorQCal
import Derived.Lib.ItoaLen
import Derived.Lib.Bytes
import Derived.Lib.Index
import Derived.Test.YtbbcnmdifiblfaaDoorPPx7
import Derived.Test.YtbbcnmdifiblfaaDoorPPx13
import Derived.Test.YtbbcnmdifiblfaaDoorPPxEdateParse
namespace Go.Proofs.YtbbcnmdifiblfaaDoor.Q
set_option linter.unusedVariables false
set_option linter.unusedSimpArgs false
open Go.RowKit Go.Proofs.YtbbcnmdifiblfaaDoorW.PrintWords Go.Proofs.YtbbcnmdifiblfaaDoorW.PrintLast Go.Proofs.YtbbcnmdifiblfaaDoorW.PrintMore
open PP

/-- a string of a list of bytes -/
def B (l : List UInt8) : ByteArray := ⟨l.toArray⟩
theorem B_toList (l : List UInt8) : (B l).data.toList = l := rfl
theorem B_toL (l : List UInt8) : (B l).toList = l := by rw [Lib.toList_data]; rfl
theorem B_size (l : List UInt8) : (B l).size = l.length := by rw [← sz]; rfl
theorem B_app (l m : List UInt8) : B l ++ B m = B (l ++ m) := by apply ba_ext; simp [B, ByteArray.data_append]
theorem B_of (s : ByteArray) : s = B s.data.toList := by apply ba_ext; rfl
theorem B_inj {l m : List UInt8} (h : B l = B m) : l = m := by have := congrArg (fun s : ByteArray => s.data.toList) h; exact this
theorem B_extract (l : List UInt8) (a b : Nat) : (B l).extract a b = B ((l.drop a).take (b - a)) := by
  apply ba_ext
  rw [Lib.extract_data]
  simp [B_toList]
def weeksB : ByteArray := ⟨#[84, 104, 117, 70, 114, 105, 83, 97, 116, 83, 117, 110, 77, 111, 110, 84, 117, 101, 87, 101, 100]⟩
def weeksL : List UInt8 := [84, 104, 117, 70, 114, 105, 83, 97, 116, 83, 117, 110, 77, 111, 110, 84, 117, 101, 87, 101, 100]
def monthsL : List UInt8 := [74, 97, 110, 70, 101, 98, 77, 97, 114, 65, 112, 114, 77, 97, 121, 74, 117, 110, 74, 117, 108, 65, 117, 103, 83, 101, 112, 79, 99, 116, 78, 111, 118, 68, 101, 99]
theorem weeks_B : weeksB = B weeksL := rfl
theorem months_B : monthsB = B monthsL := rfl
def dg (n : Nat) : UInt8 := UInt8.ofNat (48 + n)
def two (n : Nat) : List UInt8 := [dg (n / 10), dg (n % 10)]
def four (n : Nat) : List UInt8 := [dg (n / 1000), dg (n / 100 % 10), dg (n / 10 % 10), dg (n % 10)]
def wkOf (d : Nat) : List UInt8 := (weeksL.drop (3 * (d % 7))).take 3
def moOf (m : Nat) : List UInt8 := (monthsL.drop (3 * m)).take 3
theorem wkOf_len (d : Nat) : (wkOf d).length = 3 := by
  have key : ∀ i : Fin 7, ((weeksL.drop (3 * i.val)).take 3).length = 3 := by decide +kernel
  exact key ⟨d % 7, Nat.mod_lt _ (by decide)⟩
theorem moOf_len {m : Nat} (h : m < 12) : (moOf m).length = 3 := by
  have key : ∀ i : Fin 12, ((monthsL.drop (3 * i.val)).take 3).length = 3 := by decide +kernel
  exact key ⟨m, h⟩
theorem two_len (n : Nat) : (two n).length = 2 := rfl
theorem four_len (n : Nat) : (four n).length = 4 := rfl
/-- the text of a second -/
def fmt (wk : List UInt8) (y m d r : Nat) : List UInt8 :=
  wk ++ [44, 32] ++ two (d + 1) ++ [32] ++ moOf m ++ [32] ++ four y ++ [32] ++ two (r / 3600) ++ [58] ++ two (r / 60 % 60) ++ [58] ++ two (r % 60) ++ [32, 71, 77, 84]
/-- a second and its parts, as natural numbers -/
def Pt (n y m d r : Nat) : Prop := Cal.Parts n y m d r
theorem pt_exist (n : Int) (h0 : 0 ≤ n) (h1 : n ≤ 253402300799) : ∃ N y m d r : Nat, n = N ∧ Pt N y m d r := by
  obtain ⟨y, m, d, r, h⟩ := Cal.parts_exist n h0 h1
  obtain ⟨N, rfl⟩ : ∃ N : Nat, n = N := ⟨n.toNat, by omega⟩
  obtain ⟨Y, rfl⟩ : ∃ N : Nat, y = N := ⟨y.toNat, by have := h.y0; omega⟩
  obtain ⟨D, rfl⟩ : ∃ N : Nat, d = N := ⟨d.toNat, by have := h.d0; omega⟩
  obtain ⟨R, rfl⟩ : ∃ N : Nat, r = N := ⟨r.toNat, by have := h.r0; omega⟩
  exact ⟨N, Y, m, D, R, rfl, h⟩

/-! ### the pieces -/
theorem until_is (y : Int) (h0 : 1 ≤ y) (h1 : y ≤ 100000) : date_until.f y = some (Cal.U y) := by
  unfold date_until.f Cal.U
  have e0 : wrap64 (y - 1) = y - 1 := wrap64_of_fits (by omega) (by omega)
  have e1 : wrap64 (y - 1970) = y - 1970 := wrap64_of_fits (by omega) (by omega)
  rw [e0, e1, Int.tdiv_eq_ediv_of_nonneg (by omega), Int.tdiv_eq_ediv_of_nonneg (by omega), Int.tdiv_eq_ediv_of_nonneg (by omega)]
  clear e0 e1
  have a4 := Int.ediv_nonneg (show 0 ≤ y - 1 by omega) (show (0:Int) ≤ 4 by decide)
  have a1 := Int.ediv_nonneg (show 0 ≤ y - 1 by omega) (show (0:Int) ≤ 100 by decide)
  have a0 := Int.ediv_nonneg (show 0 ≤ y - 1 by omega) (show (0:Int) ≤ 400 by decide)
  have b4 : (y - 1) / 4 ≤ 100000 := by omega
  have b1 : (y - 1) / 100 ≤ 100000 := by omega
  have b0 : (y - 1) / 400 ≤ 100000 := by omega
  generalize (y - 1) / 4 = p at *
  generalize (y - 1) / 100 = q at *
  generalize (y - 1) / 400 = t at *
  rw [wrap64_of_fits (n := 365 * (y - 1970)) (by omega) (by omega), wrap64_of_fits (n := p) (by omega) (by omega), wrap64_of_fits (n := q) (by omega) (by omega), wrap64_of_fits (n := t) (by omega) (by omega), wrap64_of_fits (n := 365 * (y - 1970) + p) (by omega) (by omega), wrap64_of_fits (n := 365 * (y - 1970) + p - q) (by omega) (by omega), wrap64_of_fits (n := 365 * (y - 1970) + p - q + t) (by omega) (by omega), wrap64_of_fits (by omega) (by omega)]
theorem leap_is (y : Int) (h0 : 0 ≤ y) : date_leap.f y = some (Cal.lp y) := by
  unfold date_leap.f Cal.lp
  rw [Int.tmod_eq_emod_of_nonneg h0, Int.tmod_eq_emod_of_nonneg h0, Int.tmod_eq_emod_of_nonneg h0]
  by_cases h1 : y % 4 = 0 <;> by_cases h2 : y % 100 = 0 <;> by_cases h3 : y % 400 = 0 <;> simp [h1, h2, h3]
theorem leap_any (y : Int) : ∃ b, date_leap.f y = some b := by
  unfold date_leap.f
  split
  · split <;> exact ⟨_, rfl⟩
  · exact ⟨_, rfl⟩
theorem ref_leap_is (y : Int) (h0 : 0 ≤ y) : ostlerref02_leap.f y = some (Cal.lp y) := leap_is y h0
theorem ahead_is (m : Nat) (l : Bool) (h : m ≤ 12) : date_ahead.f (m : Int) l = some (Cal.ah m l) := by
  unfold date_ahead.f Cal.ah
  rw [if_pos (by omega), if_pos (by omega)]
  have e : ((m : Int) > 1) ↔ m > 1 := by omega
  simp only [e, Int.toNat_natCast]
  rfl
theorem ref_year_is (y : Int) (h0 : 0 ≤ y) : ostlerref02_year.f y = some (Cal.ydays y) := by
  unfold ostlerref02_year.f Cal.ydays
  rw [ref_leap_is y h0, Option.bind_some]
  split <;> rfl
theorem ref_month_is (y : Int) (m : Nat) (h0 : 0 ≤ y) (h : m < 12) : ostlerref02_month.f y (((m + 1 : Nat)) : Int) = some (Cal.mlen m (Cal.lp y)) := by
  unfold ostlerref02_month.f
  rw [ref_year_is y h0, Option.bind_some]
  unfold Cal.ydays
  generalize Cal.lp y = l
  have key : ∀ i : Fin 12, ∀ l : Bool, (if (((i.val + 1 : Nat)) : Int) = 2 then some (wrap64 ((if l = true then 366 else 365) - 337)) else (if (((i.val + 1 : Nat)) : Int) = 4 then (some 30) else (if (((i.val + 1 : Nat)) : Int) = 6 then (some 30) else (if (((i.val + 1 : Nat)) : Int) = 9 then (some 30) else (if (((i.val + 1 : Nat)) : Int) = 11 then (some 30) else (some 31)))))) = some (Cal.mlen i.val l) := by decide +kernel
  exact key ⟨m, h⟩ l
theorem u8mod (n : Nat) (h : n < 10) : (wrap64 (48 + (n : Int))) % 256 = ((dg n).toNat : Int) := by
  have key : ∀ m : Fin 10, (wrap64 (48 + (m.val : Int))) % 256 = ((dg m.val).toNat : Int) := by decide +kernel
  exact key ⟨n, h⟩
theorem str_bytes (l : List UInt8) : strOfNums (l.map fun b => (b.toNat : Int)) = B l := by
  apply ba_ext
  rw [← Lib.toList_data, Lib.strOfNums_toList]
  simp [Lib.bytesOf, B, List.map_map, Function.comp_def]
theorem ref_two_is (n : Nat) (h : n < 100) : ostlerref02_two.f (n : Int) = some (B (two n)) := by
  unfold ostlerref02_two.f
  have e1 : wrap64 (Int.tdiv (n : Int) 10) = ((n / 10 : Nat) : Int) := by
    rw [Int.tdiv_eq_ediv_of_nonneg (by omega), wrap64_of_fits (by omega) (by omega)]; omega
  have e2 : Int.tmod (n : Int) 10 = ((n % 10 : Nat) : Int) := by
    rw [Int.tmod_eq_emod_of_nonneg (by omega)]; omega
  rw [e1, e2, u8mod _ (by omega), u8mod _ (by omega)]
  exact congrArg some (str_bytes (two n))
theorem decD1 {n : Nat} (h : n < 10) : Lib.decDigits n = [dg n] := by rw [Lib.decDigits, dif_pos h]; rfl
theorem decD2 {n : Nat} (h : n < 100) (h1 : 10 ≤ n) : Lib.decDigits n = two n := by
  rw [Lib.decDigits, dif_neg (by omega), decD1 (by omega)]; rfl
theorem decD4 {n : Nat} (h : n < 10000) (h1 : 1000 ≤ n) : Lib.decDigits n = four n := by
  rw [Lib.decDigits, dif_neg (by omega), Lib.decDigits, dif_neg (by omega), decD2 (by omega) (by omega)]
  show [dg (n / 10 / 10 / 10), dg (n / 10 / 10 % 10), dg (n / 10 % 10), dg (n % 10)] = _
  unfold four
  rw [show n / 10 / 10 / 10 = n / 1000 by omega, show n / 10 / 10 = n / 100 by omega]
theorem decimal_is (n : Nat) (h : n < 10000) : text_Decimal.f (n : Int) = some (B (Lib.decDigits n)) := by
  unfold text_Decimal.f strconv_Itoa.f
  rw [if_pos (by omega), if_pos (by omega), Option.bind_some, Lib.itoa_nonneg]; rfl
theorem digits_of (n w : Nat) (h : n < 10000) (hw : (Lib.decDigits n).length ≤ w) (hw4 : w ≤ 4) : date_digits.f (n : Int) (w : Int) = some (B (List.replicate (w - (Lib.decDigits n).length) 48 ++ Lib.decDigits n)) := by
  unfold date_digits.f
  rw [decimal_is n h, Option.bind_some, B_size]
  generalize hl : Lib.decDigits n = l at *
  rw [wrap64_of_fits (by omega) (by omega)]
  unfold strings_Repeat.f
  rw [if_pos (by omega), if_pos (by omega), show ((w : Int) - (l.length : Int)).toNat = w - l.length by omega, if_pos (by
    show 1 * (w - l.length) ≤ _
    omega), Option.bind_some]
  have e : (⟨(Lib.repeatL ((⟨#[48]⟩ : ByteArray).data.toList) (w - l.length)).toArray⟩ : ByteArray) = B (List.replicate (w - l.length) 48) := by
    have key : ∀ j : Nat, Lib.repeatL ([48] : List UInt8) j = List.replicate j 48 := by
      intro j
      induction j with
      | zero => rfl
      | succ j ih => rw [List.replicate_succ, ← ih]; rfl
    unfold B
    rw [← key]
  rw [e, B_size, List.length_replicate, if_pos (by omega), B_app]
theorem digits2 (n : Nat) (h : n < 100) : date_digits.f (n : Int) 2 = some (B (two n)) := by
  by_cases h1 : n < 10
  · have hl := decD1 h1
    have := digits_of n 2 (by omega) (by rw [hl]; simp) (by decide)
    rw [show ((2 : Nat) : Int) = 2 from rfl] at this
    rw [this, hl]
    show some (B ([48] ++ [dg n])) = _
    unfold two
    rw [show n / 10 = 0 by omega, show n % 10 = n by omega]; rfl
  · have hl := decD2 h (by omega)
    have := digits_of n 2 (by omega) (by rw [hl, two_len]; decide) (by decide)
    rw [show ((2 : Nat) : Int) = 2 from rfl] at this
    rw [this, hl]; rfl
theorem digits4 (n : Nat) (h : n < 10000) (h1 : 1000 ≤ n) : date_digits.f (n : Int) 4 = some (B (four n)) := by
  have hl := decD4 h h1
  have := digits_of n 4 (by omega) (by rw [hl, four_len]; decide) (by decide)
  rw [show ((4 : Nat) : Int) = 4 from rfl] at this
  rw [this, hl]; rfl
theorem four_two (n : Nat) (h : n < 10000) : two (n / 100) ++ two (n % 100) = four n := by
  unfold two four
  rw [show n / 100 / 10 = n / 1000 by omega, show n % 100 / 10 = n / 10 % 10 by omega, show n % 100 % 10 = n % 10 by omega]; rfl
end Go.Proofs.YtbbcnmdifiblfaaDoor.Q
