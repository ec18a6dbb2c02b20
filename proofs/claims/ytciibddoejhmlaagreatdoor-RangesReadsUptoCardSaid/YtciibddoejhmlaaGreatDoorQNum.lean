/- A text's number as the second package reads it (limbs), to the base ten and sixteen. -/
import Derived.Test.YtciibddoejhmlaaGreatDoorQDec
import Derived.Test.YtciibddoejhmlaaGreatDoorQBig
import Derived.Test.YtciibddoejhmlaaGreatDoorPPx13
namespace Go.Proofs.YtciibddoejhmlaaGreatDoor.Q
set_option linter.unusedVariables false
set_option linter.unusedSimpArgs false
open Go.RowKit Go.Proofs.YtciibddoejhmlaaGreatDoorW.PrintWords Go.Proofs.YtciibddoejhmlaaGreatDoorW.PrintLast Go.Proofs.YtciibddoejhmlaaGreatDoorW.PrintMore
open PP
def dig (c : UInt8) : Int := match digOf 16 c with
  | some d => (d : Int)
  | none => -1
theorem digit_some : ∀ c : UInt8, ostlerref01_digit.f 3 (c.toNat : Int) = some (dig c) := all8 (by decide +kernel)
theorem digit_is {k : Nat} (hk : 3 ≤ k) (c : UInt8) : ostlerref01_digit.f k (c.toNat : Int) = some (dig c) := at_rounds (ostlerref01_digit.mono _) hk (digit_some c)
theorem dig10 : ∀ c : UInt8, ((digOf 10 c).isSome = (decide (0 ≤ dig c) && decide (dig c < 10))) ∧ ((digOf 10 c).isSome = true → ((digOf 10 c).getD 0 : Int) = dig c) := all8 (by decide +kernel)
theorem dig16 : ∀ c : UInt8, ((digOf 16 c).isSome = (decide (0 ≤ dig c) && decide (dig c < 16))) ∧ ((digOf 16 c).isSome = true → ((digOf 16 c).getD 0 : Int) = dig c) := all8 (by decide +kernel)
theorem dig0 : ∀ c : UInt8, dig c = 0 → c = 48 := all8 (by decide +kernel)
theorem numOf_cons (b acc : Nat) (c : UInt8) (l : List UInt8) : numOf b acc (c :: l) = numOf b (acc * b + (digOf b c).getD 0) l := rfl
/-- What is asked of a base. -/
structure Base (b : Nat) : Prop where
  or : b = 10 ∨ b = 16
  dig : ∀ c : UInt8, ((digOf b c).isSome = (decide (0 ≤ dig c) && decide (dig c < (b : Int)))) ∧ ((digOf b c).isSome = true → ((digOf b c).getD 0 : Int) = dig c)
theorem base10 : Base 10 := ⟨.inl rfl, dig10⟩
theorem base16 : Base 16 := ⟨.inr rfl, dig16⟩
theorem Base.range {b : Nat} (h : Base b) : 10 ≤ b ∧ b ≤ 16 := by rcases h.or with h | h <;> omega

theorem numOf_ge (b : Nat) (hb : 1 ≤ b) : ∀ (l : List UInt8) (acc : Nat), acc * b ^ l.length ≤ numOf b acc l
  | [], acc => by simp [numOf]
  | c :: l, acc => by
    have ih := numOf_ge b hb l (acc * b + (digOf b c).getD 0)
    rw [numOf_cons, List.length_cons, Nat.pow_succ]
    refine Nat.le_trans ?_ ih
    rw [Nat.mul_comm (b ^ l.length) b, ← Nat.mul_assoc]
    exact Nat.mul_le_mul_right _ (by omega)
/-- The number, or what stands in its place. -/
def numEnd (n : Nat) : Int × Int := if n < 9223372036854775808 then ((n : Int), 0) else (0, 5)
attribute [local irreducible] val dig
theorem val_nil : val [] = ((0 : Nat) : Int) := by unfold val; rfl
theorem number_l2 {b : Nat} (hb : Base b) (s : ByteArray) (hs : s.size ≤ 19) (hall : s.data.toList.all (fun c => (digOf b c).isSome) = true) :
    ∀ (l : List UInt8) (i k n : Nat) (X : List Int), s.data.toList.drop i = l → i ≤ s.size → okL X → canon X → val X = (n : Int) → X.length ≤ 3 * i → l.length + 600 < k →
      ostlerref01_number.l2 k s (b : Int) (i : Int) false X = some (numEnd (numOf b n l))
  | [], i, k, n, X, hd, hi, hX, hc, hv, hl, hk => by
    obtain ⟨k, rfl⟩ : ∃ m, k = m + 1 := ⟨k - 1, by omega⟩
    have := dn hd hi
    rw [ostlerref01_number.l2, if_neg (by omega), Int_is hX hc (by omega) (by omega), Option.bind_some, hv]
    unfold numEnd
    show _ = some (if n < 9223372036854775808 then ((n : Int), 0) else (0, 5))
    by_cases h : n < 9223372036854775808
    · have h' : (n : Int) ≤ 9223372036854775807 := by omega
      rw [if_pos h, if_pos h']; rfl
    · have h' : ¬ (n : Int) ≤ 9223372036854775807 := by omega
      rw [if_neg h, if_neg h']; rfl
  | c :: l, i, k, n, X, hd, hi, hX, hc, hv, hl, hk => by
    simp only [List.length_cons] at hk
    obtain ⟨k, rfl⟩ : ∃ m, k = m + 1 := ⟨k - 1, by omega⟩
    obtain ⟨h1, h2, h3⟩ := dc hd
    obtain ⟨b0, b1⟩ := hb.range
    have hlt : (i : Int) < (s.size : Int) := by omega
    have h0 : (0 : Int) ≤ (i : Int) := by omega
    have hi4 : i < 4611686018427387904 := by omega
    have hk1 : 1 ≤ k := by omega
    have hm : c ∈ s.data.toList := List.mem_of_mem_drop (i := i) (by rw [hd]; simp)
    have hdig := List.all_eq_true.1 hall c hm
    obtain ⟨d1, d2⟩ := hb.dig c
    have d3 := d2 hdig
    rw [hdig] at d1
    have d4 := d1.symm
    rw [Bool.and_eq_true, decide_eq_true_iff, decide_eq_true_iff] at d4
    obtain ⟨M, sm, t1, rfl, t3, t4, t5, t6⟩ := Times_one (L := X) (b := (b : Int)) (by omega) (by omega) hX (by omega) (k := k) (by omega)
    have hlb : okL (limb (dig c)) := by
      unfold limb; split
      · exact okL_nil
      · exact okL_cons (by omega) (by omega) okL_nil
    have hll : (limb (dig c)).length ≤ 1 := by unfold limb; split <;> simp
    obtain ⟨R, sr, p1, rfl, p3, p4, p5, p6⟩ := Plus_pos (L := M) (M := limb (dig c)) t3 hlb (by omega) (by omega) (k := k) (by omega)
    have hdk : ostlerref01_digit.f k (c.toNat : Int) = some (dig c) := digit_is (by omega) c
    have hofb : ostlerref00_Of.f k (b : Int) = some (false, [(b : Int)]) := by
      rw [Of_small (by omega) (by omega) (by omega)]; unfold limb; rw [if_neg (by omega)]
    have hofd : ostlerref00_Of.f k (dig c) = some (false, limb (dig c)) := Of_small (by omega) (by omega) (by omega)
    have hv2 : val R = ((n * b + (digOf b c).getD 0 : Nat) : Int) := by
      rw [p5, t5, hv, val_limb, ← d3, Int.natCast_add, Int.natCast_mul]
    have ih := number_l2 hb s hs hall l (i + 1) k (n * b + (digOf b c).getD 0) R h3 (by omega) p3 p4 hv2 (by omega) (by omega)
    rw [ostlerref01_number.l2, if_pos hlt, hofb, Option.bind_some, t1, Option.bind_some, if_pos h0, h2, hdk, Option.bind_some, hofd, Option.bind_some, p1, Option.bind_some, w1 hi4, ih]
    rfl
theorem number_j2 {b : Nat} (hb : Base b) (s : ByteArray) (hall : s.data.toList.all (fun c => (digOf b c).isSome) = true) (hone : ∀ c l, s.data.toList = c :: l → c ≠ 48 ∨ l = []) {k : Nat} (hk : 700 < k) :
    ostlerref01_number.j2 k s (b : Int) = some (numEnd (numOf b 0 s.data.toList)) := by
  obtain ⟨k, rfl⟩ : ∃ m, k = m + 1 := ⟨k - 1, by omega⟩
  obtain ⟨b0, b1⟩ := hb.range
  rw [ostlerref01_number.j2]
  by_cases h : (s.size : Int) > 19
  · rw [if_pos h]
    cases e : s.data.toList with
    | nil => have := congrArg List.length e; rw [sz, List.length_nil] at this; omega
    | cons c l =>
      have hl : l.length + 1 = s.size := by rw [← sz, e, List.length_cons]
      have hc : c ≠ 48 := by
        rcases hone c l e with h | h
        · exact h
        · rw [h, List.length_nil] at hl; omega
      have hdig := List.all_eq_true.1 hall c (by rw [e]; simp)
      obtain ⟨d1, d2⟩ := hb.dig c
      have d3 := d2 hdig
      rw [hdig] at d1
      have d4 := d1.symm
      rw [Bool.and_eq_true, decide_eq_true_iff, decide_eq_true_iff] at d4
      have hne : dig c ≠ 0 := fun h0 => hc (dig0 c h0)
      have h1 : 1 ≤ (digOf b c).getD 0 := by omega
      have g1 := numOf_ge b (by omega) l (0 * b + (digOf b c).getD 0)
      have g2 : 1 * 10 ^ 19 ≤ (0 * b + (digOf b c).getD 0) * b ^ l.length :=
        Nat.mul_le_mul (by omega) (Nat.le_trans (Nat.pow_le_pow_left b0 19) (Nat.pow_le_pow_right (by omega) (by omega)))
      have g3 : 10000000000000000000 ≤ numOf b (0 * b + (digOf b c).getD 0) l := Nat.le_trans (by simpa using g2) g1
      unfold numEnd
      rw [numOf_cons, if_neg (by omega)]
  · rw [if_neg h, Of_small (by omega) (by omega) (by omega), Option.bind_some]
    have := number_l2 hb s (by omega) hall s.data.toList 0 k 0 [] rfl (by omega) okL_nil (.inl rfl) val_nil (by simp) (by rw [sz]; omega)
    rw [show ((0 : Nat) : Int) = 0 from rfl] at this
    exact this
theorem number_l1 {b : Nat} (hb : Base b) : ∀ (l : List UInt8) (s : ByteArray) (k : Nat), s.data.toList = l → s.size ≤ 140737488355328 → l.all (fun c => (digOf b c).isSome) = true → l.length + 800 < k →
    ostlerref01_number.l1 k s (b : Int) = some (numEnd (numOf b 0 l))
  | [], s, k, e, hs, hall, hk => by
    obtain ⟨k, rfl⟩ : ∃ m, k = m + 1 := ⟨k - 1, by omega⟩
    have hlen : ([] : List UInt8).length = s.size := by rw [← e, sz]
    rw [List.length_nil] at hlen
    rw [ostlerref01_number.l1, if_neg (by omega), number_j2 hb s (by rw [e]; exact hall) (fun c' l' e' => by rw [e] at e'; cases e') (by omega), e]
  | c :: l, s, k, e, hs, hall, hk => by
    obtain ⟨k, rfl⟩ : ∃ m, k = m + 1 := ⟨k - 1, by omega⟩
    have hlen : (c :: l).length = s.size := by rw [← e, sz]
    simp only [List.length_cons] at hk hlen
    rw [ostlerref01_number.l1]
    by_cases h : (s.size : Int) > 1
    · obtain ⟨_, hb0, _⟩ := dc (i := 0) (show s.data.toList.drop 0 = c :: l from e)
      have hb1 : bt s 0 = (c.toNat : Int) := hb0
      rw [if_pos h, if_pos (by omega), hb1]
      by_cases hc : (c.toNat : Int) = 48
      · have hc2 : c = 48 := UInt8.toNat_inj.1 (by show c.toNat = 48; omega)
        have ex := extract_tail e
        have hall2 : l.all (fun c => (digOf b c).isSome) = true := by rw [List.all_cons, Bool.and_eq_true] at hall; exact hall.2
        have ih := number_l1 hb l (s.extract 1 s.size) k ex (by rw [← sz, ex]; omega) hall2 (by omega)
        rw [if_pos hc, if_pos (by omega), ih, numOf_cons, hc2]
        have : (digOf b 48).getD 0 = 0 := by rcases hb.or with rfl | rfl <;> rfl
        rw [this]; simp
      · rw [if_neg hc, number_j2 hb s (by rw [e]; exact hall) (fun c' l' e' => ?_) (by omega), e]
        rw [e] at e'
        injection e' with e1 e2
        left; rw [← e1]; intro h48; apply hc; rw [h48]; rfl
    · rw [if_neg h, number_j2 hb s (by rw [e]; exact hall) (fun c' l' e' => ?_) (by omega), e]
      right
      have := congrArg List.length e'
      rw [sz, List.length_cons] at this
      exact List.length_eq_zero_iff.1 (by omega)
theorem number_l0 {b : Nat} (hb : Base b) (s : ByteArray) (hs : s.size ≤ 140737488355328) : ∀ (l : List UInt8) (i k : Nat), s.data.toList.drop i = l → i ≤ s.size → (s.data.toList.take i).all (fun c => (digOf b c).isSome) = true → l.length + s.size + 900 < k →
    ostlerref01_number.l0 k s (b : Int) (i : Int) = some (if s.data.toList.all (fun c => (digOf b c).isSome) = true then numEnd (numOf b 0 s.data.toList) else (0, 10))
  | [], i, k, hd, hi, hall, hk => by
    obtain ⟨k, rfl⟩ : ∃ m, k = m + 1 := ⟨k - 1, by omega⟩
    have := dn hd hi
    rw [this, ← sz, List.take_length] at hall
    simp only [List.length_nil] at hk
    rw [ostlerref01_number.l0, if_neg (by omega), if_pos hall, number_l1 hb s.data.toList s k rfl hs hall (by rw [sz]; omega)]
  | c :: l, i, k, hd, hi, hall, hk => by
    simp only [List.length_cons] at hk
    obtain ⟨k, rfl⟩ : ∃ m, k = m + 1 := ⟨k - 1, by omega⟩
    obtain ⟨h1, h2, h3⟩ := dc hd
    obtain ⟨b0, b1⟩ := hb.range
    have hm : c ∈ s.data.toList := List.mem_of_mem_drop (i := i) (by rw [hd]; simp)
    obtain ⟨d1, d2⟩ := hb.dig c
    have hi4 : i < 4611686018427387904 := by omega
    have hlt : (i : Int) < (s.size : Int) := by omega
    have h0 : (0 : Int) ≤ (i : Int) := by omega
    have bad : (digOf b c).isSome = false → s.data.toList.all (fun c => (digOf b c).isSome) = false := by
      intro hf
      rw [List.all_eq_false]
      exact ⟨c, hm, by rw [hf]; decide⟩
    rw [ostlerref01_number.l0, if_pos hlt, if_pos h0, h2, digit_is (by omega) c, Option.bind_some]
    by_cases hneg : dig c < 0
    · rw [if_pos hneg, bad (by rw [d1, decide_eq_false (by omega)]; rfl)]; rfl
    · rw [if_neg hneg]
      by_cases hbig : dig c ≥ (b : Int)
      · rw [if_pos hbig, bad (by rw [d1, decide_eq_false (p := dig c < (b : Int)) (by omega), Bool.and_false])]; rfl
      · have hok : (digOf b c).isSome = true := by rw [d1, decide_eq_true (by omega), decide_eq_true (by omega)]; rfl
        have ht : (s.data.toList.take (i + 1)).all (fun c => (digOf b c).isSome) = true := by
          have : s.data.toList[i]? = some c := by
            have e := congrArg (·[0]?) hd
            simpa using e
          rw [List.take_add_one, List.all_append, hall, this]
          simp [hok]
        rw [if_neg hbig, w1 hi4]
        exact number_l0 hb s hs l (i + 1) k h3 (by omega) ht (by omega)
theorem ref_number_is {b : Nat} (hb : Base b) (s : ByteArray) (hs : s.size ≤ 140737488355328) {k : Nat} (hk : s.size + s.size + 900 < k) :
    ostlerref01_number.f k s (b : Int) = some (text_parse.spec b s.data.toList) := by
  unfold ostlerref01_number.f text_parse.spec
  by_cases h : (s.size : Int) = 0
  · have e : s.data.toList = [] := List.length_eq_zero_iff.1 (by rw [sz]; omega)
    rw [if_pos h, if_pos e]
  · have e : s.data.toList ≠ [] := fun e => h (by have := congrArg List.length e; rw [sz, List.length_nil] at this; omega)
    have := number_l0 hb s hs s.data.toList 0 k rfl (by omega) rfl (by rw [sz]; omega)
    rw [show ((0 : Nat) : Int) = 0 from rfl] at this
    rw [if_neg h, if_neg e, this]; rfl
end Go.Proofs.YtciibddoejhmlaaGreatDoor.Q
