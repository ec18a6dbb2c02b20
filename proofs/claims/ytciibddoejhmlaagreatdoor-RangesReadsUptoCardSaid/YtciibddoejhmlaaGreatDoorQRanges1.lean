/- What ranges.Parse comes to, in the words of lists. -/
import Derived.Test.YtciibddoejhmlaaGreatDoorQSplit
import Derived.Lib.SlTrimSet
import Derived.Test.YtciibddoejhmlaaGreatDoorPPx8
namespace Go.Proofs.YtciibddoejhmlaaGreatDoor.Q
set_option linter.unusedVariables false
set_option linter.unusedSimpArgs false
open Go.RowKit Go.Proofs.YtciibddoejhmlaaGreatDoorW.PrintWords Go.Proofs.YtciibddoejhmlaaGreatDoorW.PrintLast Go.Proofs.YtciibddoejhmlaaGreatDoorW.PrintMore
open PP

theorem w1' {i : Nat} (h : i < 9223372036854775807) : wrap64 ((i : Int) + 1) = ((i + 1 : Nat) : Int) := by rw [wrap64_of_fits (by omega) (by omega)]; omega
abbrev Rg := S23
def trimL (l : List UInt8) : List UInt8 := Lib.trimS l [32, 9]
theorem Trim_is (l : List UInt8) (h : l.length ≤ 140737488355328) : text_Trim.f (B l) = some (B (trimL l)) := by
  unfold text_Trim.f strings_Trim.f
  rw [if_pos (by rw [B_size]; omega), if_pos rfl]; rfl
theorem dw_mem {α : Type} (f : α → Bool) : ∀ l : List α, (l.dropWhile f).length ≤ l.length ∧ ∀ x ∈ l.dropWhile f, x ∈ l
  | [] => by simp
  | a :: l => by
    obtain ⟨h1, h2⟩ := dw_mem f l
    rw [List.dropWhile_cons]
    split
    · exact ⟨by simp; omega, fun x hx => by simp [h2 x hx]⟩
    · exact ⟨Nat.le_refl _, fun x hx => hx⟩
theorem trimL_mem (l : List UInt8) : (trimL l).length ≤ l.length ∧ ∀ x ∈ trimL l, x ∈ l := by
  unfold trimL Lib.trimS Lib.trimLeftS Lib.trimRightS
  obtain ⟨h1, h2⟩ := dw_mem (fun x => ([32, 9] : List UInt8).contains x) l.reverse
  obtain ⟨h3, h4⟩ := dw_mem (fun x => ([32, 9] : List UInt8).contains x) ((l.reverse.dropWhile (fun x => ([32, 9] : List UInt8).contains x)).reverse)
  refine ⟨?_, fun x hx => ?_⟩
  · rw [List.length_reverse] at h3 h1; omega
  · have := h2 x (List.mem_reverse.1 (h4 x hx)); exact List.mem_reverse.1 this
theorem dw_none {α : Type} (f : α → Bool) : ∀ l : List α, (∀ x ∈ l, f x = false) → l.dropWhile f = l
  | [], _ => rfl
  | a :: l, h => by rw [List.dropWhile_cons, h a (by simp)]; rfl
theorem trimL_none (l : List UInt8) (h : ∀ x ∈ l, x ≠ 32 ∧ x ≠ 9) : trimL l = l := by
  have hf : ∀ x ∈ l, (fun x => ([32, 9] : List UInt8).contains x) x = false := fun x hx => by simp [h x hx]
  unfold trimL Lib.trimS Lib.trimLeftS Lib.trimRightS
  rw [dw_none _ l.reverse (fun x hx => hf x (List.mem_reverse.1 hx)), List.reverse_reverse, dw_none _ l hf]

/-- the number that a piece's end says, and whether it may be -/
def NumR (l : List UInt8) : Int × Bool := if l = [] then (0, false) else (if l.all (fun c => (digOf 10 c).isSome) = true then (if numOf 10 0 l < 9223372036854775808 then ((numOf 10 0 l : Int), decide (l.length ≤ 15)) else (0, false)) else (0, false))
theorem number_is (l : List UInt8) (h : l.length ≤ 140737488355328) : ranges_number.f (B l) = some (NumR l) := by
  unfold ranges_number.f NumR
  rw [number_of l h, Option.bind_some, B_size]
  by_cases h1 : l = []
  · rw [if_pos h1, if_pos h1]; rfl
  · rw [if_neg h1, if_neg h1]
    split
    · split
      · rw [if_pos rfl]
        have e : (((l.length : Nat) : Int) ≤ 15) ↔ l.length ≤ 15 := by omega
        simp only [e]
      · rfl
    · rfl
theorem NumR_bd (l : List UInt8) : 0 ≤ (NumR l).1 ∧ (NumR l).1 < 9223372036854775808 := by
  unfold NumR
  split
  · simp
  · split
    · split
      · simp only; omega
      · simp
    · simp
/-- what a piece says of a body -/
def Part (l : List UInt8) (size : Int) : Int × Int × Bool × Bool :=
  if (Lib.cut l [45]).2.2 = true then (if (Lib.cut l [45]).1 = [] ∧ (Lib.cut l [45]).2.1 = [] then (0, 0, false, false) else
    (if (Lib.cut l [45]).1 = [] then (mx 0 (wrap64 (size - (NumR (Lib.cut l [45]).2.1).1)), wrap64 (size - 1), decide ((NumR (Lib.cut l [45]).2.1).1 > 0) && decide (size > 0), (NumR (Lib.cut l [45]).2.1).2)
     else (if (Lib.cut l [45]).2.1 = [] then ((NumR (Lib.cut l [45]).1).1, wrap64 (size - 1), decide ((NumR (Lib.cut l [45]).1).1 < size), (NumR (Lib.cut l [45]).1).2)
      else ((NumR (Lib.cut l [45]).1).1, mn (NumR (Lib.cut l [45]).2.1).1 (wrap64 (size - 1)), decide ((NumR (Lib.cut l [45]).1).1 < size), (NumR (Lib.cut l [45]).1).2 && ((NumR (Lib.cut l [45]).2.1).2 && decide ((NumR (Lib.cut l [45]).1).1 ≤ (NumR (Lib.cut l [45]).2.1).1))))))
  else (0, 0, false, false)
theorem cut_len (l : List UInt8) (c : UInt8) : (Lib.cut l [c]).1.length ≤ l.length ∧ (Lib.cut l [c]).2.1.length ≤ l.length := by
  rcases cut_one c l with ⟨_, e⟩ | ⟨p, r, rfl, _, e⟩
  · rw [e]; simp
  · rw [e]; simp; omega
theorem part_is (l : List UInt8) (size : Int) (h : l.length < 4294967281) {k : Nat} (hk : 1 ≤ k) : ranges_part.f k (B l) size = some (Part l size) := by
  obtain ⟨k, rfl⟩ : ∃ m, k = m + 1 := ⟨k - 1, by omega⟩
  obtain ⟨hl1, hl2⟩ := cut_len l 45
  unfold ranges_part.f Part
  rw [show (⟨#[45]⟩ : ByteArray) = B [45] from rfl, Cut_is 45 l h, Option.bind_some]
  generalize Lib.cut l [45] = c at hl1 hl2
  obtain ⟨p, r, f⟩ := c
  dsimp only at hl1 hl2 ⊢
  have hbad : ranges_part.j0 (k + 1) size (B p) (B r) true 0 0 = some (0, 0, false, false) := by rw [ranges_part.j0, if_pos rfl]
  have hgood : ¬ (p = [] ∧ r = []) → ranges_part.j0 (k + 1) size (B p) (B r) false 0 0 = some (if p = [] then (mx 0 (wrap64 (size - (NumR r).1)), wrap64 (size - 1), decide ((NumR r).1 > 0) && decide (size > 0), (NumR r).2)
     else (if r = [] then ((NumR p).1, wrap64 (size - 1), decide ((NumR p).1 < size), (NumR p).2)
      else ((NumR p).1, mn (NumR r).1 (wrap64 (size - 1)), decide ((NumR p).1 < size), (NumR p).2 && ((NumR r).2 && decide ((NumR p).1 ≤ (NumR r).1))))) := by
    intro hpr
    rw [ranges_part.j0, if_neg (by decide), number_is p (by omega), Option.bind_some, number_is r (by omega), Option.bind_some, B_toL, B_toL]
    by_cases hp : p = []
    · rw [if_pos hp, if_pos hp]
      by_cases hq : (NumR r).1 > 0
      · rw [if_pos hq, decide_eq_true hq, Bool.true_and]
      · rw [if_neg hq, decide_eq_false hq, Bool.false_and]
    · rw [if_neg hp, if_neg hp]
      by_cases hr : r = []
      · rw [if_pos hr, if_pos hr]
      · rw [if_neg hr, if_neg hr]
        cases (NumR p).2 <;> cases (NumR r).2 <;> simp
  cases f with
  | false => rw [if_neg (by decide), if_neg (by decide)]; exact hbad
  | true =>
    rw [if_pos rfl, if_pos rfl, B_toL, B_toL]
    by_cases hp : p = []
    · rw [if_pos hp]
      by_cases hr : r = []
      · rw [if_pos ⟨hp, hr⟩, show (r == []) = true by rw [hr]; rfl]; exact hbad
      · rw [if_neg (fun h => hr h.2), show (r == []) = false from beq_eq_false_iff_ne.2 hr, hgood (fun h => hr h.2)]
    · rw [if_neg hp, if_neg (fun h => hp h.1), hgood (fun h => hp h.1)]
/-- the loop over the pieces -/
def parseL (size : Int) : List (List UInt8) → List Rg → Nat → List Rg × Int
  | [], acc, n => if n = 0 then ([], 160) else (if n > 8 then ([], 4) else (if acc = [] then ([], 161) else (acc, 0)))
  | x :: xs, acc, n => if trimL x = [] then parseL size xs acc n else (if (Part (trimL x) size).2.2.2 = true then (if (Part (trimL x) size).2.2.1 = true ∧ acc.length < 8 then parseL size xs (acc ++ [⟨(Part (trimL x) size).1, (Part (trimL x) size).2.1⟩]) (n + 1) else parseL size xs acc (n + 1)) else ([], 160))
theorem parse_loop (size : Int) (xs : List (List UInt8)) (hlen : xs.length < 9223372036854775807) (hx : ∀ x ∈ xs, x.length < 4294967281) : ∀ (d i k n : Nat) (acc : List Rg), i + d = xs.length → d + 2 ≤ k → n ≤ i → acc.length ≤ 8 →
    ranges_Parse.l0 k size acc n (xs.map B) (xs.length : Int) i = some (parseL size (xs.drop i) acc n)
  | 0, i, k, n, acc, hi, hk, hn, ha => by
    obtain ⟨k, rfl⟩ : ∃ m, k = m + 1 := ⟨k - 1, by omega⟩
    rw [List.drop_eq_nil_of_le (by omega), parseL, ranges_Parse.l0, if_neg (by omega)]
    by_cases h0 : n = 0
    · rw [if_pos (by omega), if_pos h0]
    · rw [if_neg (by omega), if_neg h0]
      by_cases h8 : n > 8
      · rw [if_pos (by omega), if_pos h8]
      · rw [if_neg (by omega), if_neg h8]
        cases acc with
        | nil => rfl
        | cons a l => rw [if_neg (by simp; omega), if_neg (by simp)]
  | d + 1, i, k, n, acc, hi, hk, hn, ha => by
    obtain ⟨k, rfl⟩ : ∃ m, k = m + 1 := ⟨k - 1, by omega⟩
    have hlt : i < xs.length := by omega
    have hm := hx xs[i] (List.getElem_mem hlt)
    obtain ⟨ht, _⟩ := trimL_mem xs[i]
    have hr : rdOf ByteArray.empty (xs.map B) (i : Int) = B xs[i] := by
      unfold rdOf; rw [Int.toNat_natCast, List.getD_eq_getElem?_getD, List.getElem?_map, List.getElem?_eq_getElem hlt]; rfl
    rw [List.drop_eq_getElem_cons hlt, parseL, ranges_Parse.l0, if_pos (by omega), if_pos (by omega), if_pos (by rw [List.length_map]; omega), hr, Trim_is _ (by omega), Option.bind_some, B_toL, w1' (by omega)]
    by_cases h1 : trimL xs[i] = []
    · rw [if_pos h1, if_pos h1]
      exact parse_loop size xs hlen hx d (i + 1) k n acc (by omega) (by omega) (by omega) ha
    · rw [if_neg h1, if_neg h1, part_is _ size (by omega) (by omega), Option.bind_some]
      by_cases h2 : (Part (trimL xs[i]) size).2.2.2 = true
      · rw [if_pos h2, if_pos h2, w1' (by omega)]
        by_cases h3 : (Part (trimL xs[i]) size).2.2.1 = true
        · rw [if_pos h3]
          by_cases h4 : acc.length < 8
          · rw [if_pos (by omega), if_pos (by omega), if_pos ⟨h3, h4⟩]
            exact parse_loop size xs hlen hx d (i + 1) k (n + 1) _ (by omega) (by omega) (by omega) (by simp; omega)
          · rw [if_neg (by omega), if_neg (fun h => h4 h.2)]
            exact parse_loop size xs hlen hx d (i + 1) k (n + 1) acc (by omega) (by omega) (by omega) ha
        · rw [if_neg h3, if_neg (fun h => h3 h.1)]
          exact parse_loop size xs hlen hx d (i + 1) k (n + 1) acc (by omega) (by omega) (by omega) ha
      · rw [if_neg h2, if_neg h2]
theorem CutPrefix_is (l p : List UInt8) (h : p.length ≤ 1000) : strings_CutPrefix.f (B l) (B p) = some (if l.take p.length = p then (B (l.drop p.length), true) else (B l, false)) := by
  unfold strings_CutPrefix.f stringslite_CutPrefix.f stringslite_HasPrefix.f
  rw [B_size, B_size]
  by_cases h1 : p.length ≤ l.length
  · rw [if_pos (by omega), if_pos (by omega), if_pos (by omega), Option.bind_some, Int.toNat_natCast, B_extract, B_toL, B_toL, Nat.sub_zero, List.drop_zero]
    by_cases h2 : l.take p.length = p
    · rw [if_pos h2, show (l.take p.length == p) = true from beq_iff_eq.2 h2, if_pos rfl, if_pos (by omega), if_pos (by omega), Option.bind_some, B_extract, List.take_of_length_le (by simp)]
    · rw [if_neg h2, show (l.take p.length == p) = false from beq_eq_false_iff_ne.2 h2, if_neg (by decide)]; rfl
  · rw [if_neg (by omega), Option.bind_some, if_neg (by decide), if_neg (fun e => by have := congrArg List.length e; simp at this; omega)]; rfl
/-- what Parse reads -/
def ParseL (l : List UInt8) (size : Int) : List Rg × Int :=
  if size < 0 then ([], 1) else (if l.take 6 = [98, 121, 116, 101, 115, 61] then parseL size (splitC 44 (l.drop 6)) [] 0 else ([], 160))
theorem Parse_is (l : List UInt8) (size : Int) (h : l.length < 4294967281) {k : Nat} (hk : l.length + 3 ≤ k) : ranges_Parse.f k (B l) size = some (ParseL l size) := by
  unfold ranges_Parse.f ParseL
  by_cases h0 : size < 0
  · rw [if_pos h0, if_pos h0]
  rw [if_neg h0, if_neg h0, show (⟨#[98, 121, 116, 101, 115, 61]⟩ : ByteArray) = B [98, 121, 116, 101, 115, 61] from rfl, CutPrefix_is l _ (by decide), show ([98, 121, 116, 101, 115, 61] : List UInt8).length = 6 from rfl, Option.bind_some]
  by_cases h1 : l.take 6 = [98, 121, 116, 101, 115, 61]
  · have hd : (l.drop 6).length ≤ l.length := by simp
    obtain ⟨m1, m2⟩ := splitC_mem 44 (l.drop 6)
    rw [if_pos h1, if_pos h1, if_pos rfl, show (⟨#[44]⟩ : ByteArray) = B [44] from rfl]
    rw [Split_is 44 _ (by omega), Option.bind_some, List.length_map]
    exact parse_loop size _ (by omega) (fun x hx => by have := (m2 x hx).1; omega) (splitC 44 (l.drop 6)).length 0 k 0 [] (by omega) (by omega) (by omega) (by simp)
  · rw [if_neg h1, if_neg h1, if_neg (show ¬ (false = true) by decide)]
end Go.Proofs.YtciibddoejhmlaaGreatDoor.Q
