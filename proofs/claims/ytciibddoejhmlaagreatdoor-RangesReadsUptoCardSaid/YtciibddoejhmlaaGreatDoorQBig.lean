/- Great numbers as rows of limbs: what the second package's own arithmetic tells, for numbers that are not negative. -/
import Derived.Test.YtciibddoejhmlaaGreatDoorQ0
import Derived.Test.YtciibddoejhmlaaGreatDoorPPx9
import Derived.Test.YtciibddoejhmlaaGreatDoorPPx11
import Derived.Test.YtciibddoejhmlaaGreatDoorPPx10
import Derived.Test.YtciibddoejhmlaaGreatDoorPPx12
namespace Go.Proofs.YtciibddoejhmlaaGreatDoor.Q
set_option linter.unusedVariables false
set_option linter.unusedSimpArgs false
open Go.RowKit Go.Proofs.YtciibddoejhmlaaGreatDoorW.PrintWords Go.Proofs.YtciibddoejhmlaaGreatDoorW.PrintLast Go.Proofs.YtciibddoejhmlaaGreatDoorW.PrintMore
open PP

def val : List Int → Int
  | [] => 0
  | a :: t => a + 1073741824 * val t
def okL (l : List Int) : Prop := ∀ x ∈ l, 0 ≤ x ∧ x < 1073741824
theorem okL_nil : okL [] := fun _ h => by cases h
theorem okL_cons {a : Int} {t : List Int} (h0 : 0 ≤ a) (h1 : a < 1073741824) (ht : okL t) : okL (a :: t) := fun x hx => by
  rcases List.mem_cons.1 hx with rfl | hx
  · exact ⟨h0, h1⟩
  · exact ht x hx
theorem okL_head {a : Int} {t : List Int} (h : okL (a :: t)) : 0 ≤ a ∧ a < 1073741824 := h a (by simp)
theorem okL_tail {a : Int} {t : List Int} (h : okL (a :: t)) : okL t := fun x hx => h x (List.mem_cons_of_mem _ hx)
theorem okL_append {s t : List Int} (hs : okL s) (ht : okL t) : okL (s ++ t) := fun x hx => by
  rcases List.mem_append.1 hx with hx | hx
  · exact hs x hx
  · exact ht x hx
/-- Without the zeros at the end. -/
def trimZ : List Int → List Int
  | [] => []
  | a :: t => match trimZ t with
    | [] => if a = 0 then [] else [a]
    | b :: r => a :: b :: r
theorem trimZ_snoc_zero : ∀ l : List Int, trimZ (l ++ [0]) = trimZ l
  | [] => rfl
  | a :: t => by
    have ih := trimZ_snoc_zero t
    rw [List.cons_append, trimZ, trimZ, ih]
theorem trimZ_snoc {x : Int} (hx : x ≠ 0) : ∀ l : List Int, trimZ (l ++ [x]) = l ++ [x]
  | [] => by simp [trimZ, hx]
  | a :: t => by
    have ih := trimZ_snoc hx t
    rw [List.cons_append, trimZ, ih]
    cases t <;> rfl
theorem val_trimZ : ∀ l : List Int, val (trimZ l) = val l
  | [] => rfl
  | a :: t => by
    have ih := val_trimZ t
    rw [trimZ]
    cases h : trimZ t with
    | nil =>
      rw [h] at ih
      have h0 : val t = 0 := ih.symm
      simp only [val, h0]
      split
      · rename_i ha; rw [ha]; rfl
      · simp [val]
    | cons b r => rw [h] at ih; simp only [val] at ih ⊢; rw [ih]
theorem trimZ_mem : ∀ (l : List Int) (x : Int), x ∈ trimZ l → x ∈ l
  | [], _, h => h
  | a :: t, x, h => by
    have ih := trimZ_mem t x
    rw [trimZ] at h
    cases ht : trimZ t with
    | nil =>
      rw [ht] at h
      simp only at h
      split at h
      · cases h
      · rw [List.mem_singleton] at h; rw [h]; simp
    | cons b r =>
      rw [ht] at h ih
      rcases List.mem_cons.1 h with rfl | h
      · simp
      · exact List.mem_cons_of_mem _ (ih h)
theorem okL_trimZ {l : List Int} (h : okL l) : okL (trimZ l) := fun x hx => h x (trimZ_mem l x hx)
theorem trimZ_length : ∀ l : List Int, (trimZ l).length ≤ l.length
  | [] => Nat.le_refl _
  | a :: t => by
    have ih := trimZ_length t
    rw [trimZ]
    cases ht : trimZ t with
    | nil => simp only; split <;> simp
    | cons b r => rw [ht] at ih; simp only [List.length_cons] at ih ⊢; omega
/-- A row without zeros at the end is empty or ends in a limb that is not zero. -/
def canon (l : List Int) : Prop := l = [] ∨ ∃ s x, l = s ++ [x] ∧ x ≠ 0
theorem canon_trimZ : ∀ l : List Int, canon (trimZ l)
  | [] => .inl rfl
  | a :: t => by
    rw [trimZ]
    have ih := canon_trimZ t
    cases ht : trimZ t with
    | nil =>
      simp only
      split
      · exact .inl rfl
      · rename_i ha; exact .inr ⟨[], a, rfl, ha⟩
    | cons b r =>
      rw [ht] at ih
      rcases ih with ih | ⟨s, x, e, hx⟩
      · cases ih
      · exact .inr ⟨a :: s, x, by simp only [e, List.cons_append], hx⟩

theorem dcl {L : List Int} {i : Nat} {a : Int} {t : List Int} (h : L.drop i = a :: t) : i < L.length ∧ rd L (i : Int) = a ∧ L.drop (i + 1) = t := by
  have hl : i < L.length := by
    rcases Nat.lt_or_ge i L.length with h1 | h1
    · exact h1
    · rw [List.drop_eq_nil_of_le h1] at h; cases h
  rw [List.drop_eq_getElem_cons hl] at h
  injection h with h1 h2
  refine ⟨hl, ?_, h2⟩
  unfold rd
  rw [Int.toNat_natCast, List.getD, List.getElem?_eq_getElem hl, h1]; rfl
theorem dnl {L : List Int} {i : Nat} (h : L.drop i = []) : L.length ≤ i := List.drop_eq_nil_iff.1 h
theorem trim_l0 (L : List Int) (hL : L.length ≤ 1099511627776) : ∀ (n k : Nat), n ≤ L.length → n < k → ostlerref00_trim.l0 k L (n : Int) = some (trimZ (L.take n))
  | 0, k, h, hk => by
    obtain ⟨k, rfl⟩ : ∃ m, k = m + 1 := ⟨k - 1, by omega⟩
    rw [ostlerref00_trim.l0, if_neg (by omega), if_pos (by omega), if_pos (by omega)]; rfl
  | n + 1, k, h, hk => by
    obtain ⟨k, rfl⟩ : ∃ m, k = m + 1 := ⟨k - 1, by omega⟩
    have ew : wrap64 (((n + 1 : Nat) : Int) - 1) = (n : Int) := by rw [wrap64_of_fits (by omega) (by omega)]; omega
    obtain ⟨a, t, hd⟩ : ∃ a t, L.drop n = a :: t := ⟨_, _, List.drop_eq_getElem_cons (by omega)⟩
    obtain ⟨h1, h2, h3⟩ := dcl hd
    have ht : L.take (n + 1) = L.take n ++ [a] := by
      rw [List.take_add_one]
      have : L[n]? = some a := by
        have e := congrArg (·[0]?) hd
        simpa using e
      rw [this]; rfl
    rw [ostlerref00_trim.l0, if_pos (by omega), ew, if_pos (by omega), if_pos (by omega), h2, ht]
    by_cases ha : a = 0
    · rw [if_pos ha, ha, trimZ_snoc_zero]
      exact trim_l0 L hL n k (by omega) (by omega)
    · rw [if_neg ha, if_pos (by omega), if_pos (by omega), trimZ_snoc ha, ← ht]
      rfl
theorem trim_is (L : List Int) (hL : L.length ≤ 1099511627776) {k : Nat} (hk : L.length < k) : ostlerref00_trim.f k L = some (trimZ L) := by
  unfold ostlerref00_trim.f
  rw [trim_l0 L hL L.length k (Nat.le_refl _) hk, List.take_length]

def limb (x : Int) : List Int := if x = 0 then [] else [x]
theorem Of_small {x : Int} (h0 : 0 ≤ x) (h1 : x < 1073741824) {k : Nat} (hk : 2 ≤ k) : ostlerref00_Of.f k x = some (false, limb x) := by
  obtain ⟨k, rfl⟩ : ∃ m, k = m + 2 := ⟨k - 2, by omega⟩
  unfold ostlerref00_Of.f limb
  rw [ostlerref00_Of.l0, decide_eq_false (by omega)]
  by_cases hx : x = 0
  · rw [if_pos hx, if_pos hx]
  · have e1 : Int.tmod x 1073741824 = x := Int.tmod_eq_of_lt h0 h1
    have e2 : Int.tdiv x 1073741824 = 0 := Int.tdiv_eq_zero_of_lt h0 h1
    rw [if_neg hx, e1, e2, if_neg (by omega), if_pos (by decide), if_neg hx, ostlerref00_Of.l0, if_pos (by unfold wrap64; decide)]; rfl
theorem Of_max {k : Nat} (hk : 10 ≤ k) : ostlerref00_Of.f k 9223372036854775807 = some (false, [1073741823, 1073741823, 7]) :=
  at_rounds (ostlerref00_Of.mono _) hk (by kernel_rfl)
theorem Of_min {k : Nat} (hk : 10 ≤ k) : ostlerref00_Of.f k (-9223372036854775808) = some (true, [0, 0, 8]) :=
  at_rounds (ostlerref00_Of.mono _) hk (by kernel_rfl)
theorem val_limb (x : Int) : val (limb x) = x := by
  unfold limb; split
  · rename_i h; rw [h]; rfl
  · simp [val]

/-! ### times one limb -/
def mulc : List Int → Int → Int → List Int
  | [], _, c => [c]
  | a :: t, b, c => (a * b + c) % 1073741824 :: mulc t b ((a * b + c) / 1073741824)
theorem val_mulc (b : Int) : ∀ (t : List Int) (c : Int), val (mulc t b c) = val t * b + c
  | [], c => by simp [mulc, val]
  | a :: t, c => by
    rw [mulc, val, val_mulc b t, val, Int.add_mul, Int.mul_add, Int.mul_assoc]
    have := Int.emod_add_mul_ediv (a * b + c) 1073741824
    omega
theorem mul_carry {a b c : Int} (ha0 : 0 ≤ a) (ha1 : a < 1073741824) (hb0 : 0 < b) (hb1 : b < 1073741824) (hc0 : 0 ≤ c) (hc1 : c < b) :
    0 ≤ a * b ∧ a * b + c < 1073741824 * b ∧ 0 ≤ (a * b + c) / 1073741824 ∧ (a * b + c) / 1073741824 < b := by
  have m0 : 0 ≤ a * b := Int.mul_nonneg ha0 (by omega)
  have m1 : a * b ≤ 1073741823 * b := Int.mul_le_mul_of_nonneg_right (by omega) (by omega)
  have m2 : a * b + c < 1073741824 * b := by omega
  refine ⟨m0, m2, Int.ediv_nonneg (by omega) (by omega), Int.ediv_lt_of_lt_mul (by omega) (by omega)⟩
theorem okL_mulc {b : Int} (hb0 : 0 < b) (hb1 : b < 1073741824) : ∀ (t : List Int) (c : Int), okL t → 0 ≤ c → c < b → okL (mulc t b c)
  | [], c, _, h0, h1 => okL_cons h0 (by omega) okL_nil
  | a :: t, c, ht, h0, h1 => by
    obtain ⟨a0, a1⟩ := okL_head ht
    obtain ⟨m0, m1, m2, m3⟩ := mul_carry a0 a1 hb0 hb1 h0 h1
    exact okL_cons (Int.emod_nonneg _ (by decide)) (Int.emod_lt_of_pos _ (by decide)) (okL_mulc hb0 hb1 t _ (okL_tail ht) m2 m3)
theorem mulc_length (b : Int) : ∀ (t : List Int) (c : Int), (mulc t b c).length = t.length + 1
  | [], _ => rfl
  | a :: t, c => by rw [mulc, List.length_cons, mulc_length b t, List.length_cons]
theorem rd_mid {P r : List Int} {c : Int} {i : Nat} (h : P.length = i) : rd (P ++ c :: r) (i : Int) = c := by
  unfold rd
  rw [Int.toNat_natCast, List.getD, List.getElem?_append_right (by omega), h, Nat.sub_self]; rfl
theorem set_mid {P r : List Int} {c v : Int} {i : Nat} (h : P.length = i) : (P ++ c :: r).set i v = P ++ v :: r := by
  rw [List.set_append_right _ _ (by omega), h, Nat.sub_self]; rfl
theorem times_word {p c : Int} (c0 : 0 ≤ c) (c1 : c < 1073741824) (p0 : 0 ≤ p) (p1 : p + c < 1152921504606846976) :
    wrap64 ((wrap64 (c + wrap64 p)) + 0) = p + c ∧ Int.tmod (p + c) 1073741824 = (p + c) % 1073741824 ∧ wrap64 (Int.tdiv (p + c) 1073741824) = (p + c) / 1073741824 := by
  refine ⟨?_, Int.tmod_eq_emod_of_nonneg (by omega), ?_⟩
  · rw [wrap64_of_fits (n := p) (by omega) (by omega), wrap64_of_fits (n := c + p) (by omega) (by omega), wrap64_of_fits (by omega) (by omega)]; omega
  · rw [Int.tdiv_eq_ediv_of_nonneg (by omega), wrap64_of_fits (by omega) (by omega)]
theorem w0 {i : Nat} (h : i < 4611686018427387904) : wrap64 ((i : Int) + 0) = (i : Int) := by
  rw [wrap64_of_fits (by omega) (by omega)]; omega
/-- One limb's turn. -/
theorem times_round {s t : Bool} {L P : List Int} {a b c p m q : Int} {i n k : Nat} (hi : i < L.length) (hlen : L.length ≤ 1000000) (hP : P.length = i) (ha : rd L (i : Int) = a)
    (e2 : wrap64 ((wrap64 (c + wrap64 (a * b))) + 0) = p) (e3 : Int.tmod p 1073741824 = m) (e4 : wrap64 (Int.tdiv p 1073741824) = q) (q0 : 0 ≤ q) (q1 : q < 1073741824) :
    ostlerref00_Times.l0 (k + 3) (P ++ c :: List.replicate (n + 1) 0) (i : Int) s L t [b] = ostlerref00_Times.l0 k (P ++ ([m] ++ q :: List.replicate n 0)) ((i + 1 : Nat) : Int) s L t [b] := by
  have hl2 : (P ++ c :: List.replicate (n + 1) 0).length = i + 1 + (n + 1) := by rw [List.length_append, List.length_cons, List.length_replicate, hP]; clear e2 e3 e4; omega
  have hP1 : (P ++ [m]).length = i + 1 := by rw [List.length_append, hP]; rfl
  have hl3 : ((P ++ [m]) ++ 0 :: List.replicate n 0).length = i + 1 + (n + 1) := by rw [List.length_append, hP1, List.length_cons, List.length_replicate]
  have c1 : (i : Int) < (L.length : Int) := by clear e2 e3 e4; omega
  have c2 : (0 : Int) ≤ (i : Int) := by clear e2 e3 e4; omega
  have c3 : (i : Int) < ((P ++ c :: List.replicate (n + 1) 0).length : Int) := by clear e2 e3 e4; omega
  have c4 : (0 : Int) ≤ ((i + 1 : Nat) : Int) := by clear e2 e3 e4; omega
  have c5 : ((i + 1 : Nat) : Int) < (((P ++ [m]) ++ 0 :: List.replicate n 0).length : Int) := by clear e2 e3 e4; omega
  have hi4 : i < 4611686018427387904 := by clear e2 e3 e4; omega
  have e12 : wrap64 (0 + q) = q := by clear e2 e3 e4; rw [wrap64_of_fits (by omega) (by omega), Int.zero_add]
  have e1 : wrap64 ((i : Int) + 0) = (i : Int) := w0 hi4
  have e5 : wrap64 ((0 : Int) + 1) = 1 := wrap64_of_fits (by decide) (by decide)
  have e6 : wrap64 ((i : Int) + 1) = ((i + 1 : Nat) : Int) := w1 hi4
  have e7 : rd (P ++ c :: List.replicate (n + 1) 0) (i : Int) = c := rd_mid hP
  have e8 : rd [b] 0 = b := rfl
  have e9 : (P ++ c :: List.replicate (n + 1) 0).set i m = (P ++ [m]) ++ 0 :: List.replicate n 0 := by
    rw [set_mid hP, List.replicate_succ, List.append_assoc]; rfl
  have e10 : rd ((P ++ [m]) ++ 0 :: List.replicate n 0) ((i + 1 : Nat) : Int) = 0 := rd_mid hP1
  have e11 : ((P ++ [m]) ++ 0 :: List.replicate n 0).set (i + 1) q = (P ++ [m]) ++ q :: List.replicate n 0 := set_mid hP1
  have hb1l : (([b] : List Int).length : Int) = 1 := rfl
  clear hl2 hl3 hi hlen
  rw [ostlerref00_Times.l0, if_pos c1, ostlerref00_Times.l1, hb1l, if_pos (by decide), e1, if_pos c2, if_pos c3, if_pos c2, if_pos c1, if_pos (by decide), e7, ha, e8, e2, e3, e4, e5, Int.toNat_natCast, e9,
    ostlerref00_Times.l1, hb1l, if_neg (by decide), e6, if_pos c4, if_pos c5, e10, e12, Int.toNat_natCast, e11, List.append_assoc]
theorem times_l0 (s t : Bool) (L : List Int) {b : Int} (hb0 : 0 < b) (hb1 : b < 1073741824) (hL : okL L) (hlen : L.length ≤ 1000000) :
    ∀ (r P : List Int) (c : Int) (i k : Nat), L.drop i = r → P.length = i → i ≤ L.length → 0 ≤ c → c < b → 3 * r.length + L.length + 5 < k →
      ostlerref00_Times.l0 k (P ++ c :: List.replicate r.length 0) (i : Int) s L t [b] = some (s != t, trimZ (P ++ mulc r b c))
  | [], P, c, i, k, hd, hP, hi, c0, c1, hk => by
    obtain ⟨k, rfl⟩ : ∃ m, k = m + 1 := ⟨k - 1, by omega⟩
    have := dnl hd
    have hl2 : (P ++ c :: List.replicate ([] : List Int).length 0).length = i + 1 := by simp [hP]
    unfold ostlerref00_Times.l0
    rw [if_neg (by omega), trim_is _ (by omega) (by simp only [List.length_nil] at hk; omega)]
    rfl
  | a :: r, P, c, i, k, hd, hP, hi, c0, c1, hk => by
    simp only [List.length_cons] at hk
    obtain ⟨k, rfl⟩ : ∃ m, k = m + 3 := ⟨k - 3, by omega⟩
    obtain ⟨h1, h2, h3⟩ := dcl hd
    obtain ⟨a0, a1⟩ := hL a (List.mem_of_mem_drop (i := i) (by rw [hd]; simp))
    obtain ⟨m0, m1, m2, m3⟩ := mul_carry a0 a1 hb0 hb1 c0 c1
    rw [mulc]
    generalize hp : a * b = p at m0 m1 m2 m3 ⊢
    obtain ⟨e2, e3, e4⟩ := times_word c0 (by omega) m0 (by omega)
    generalize hm : (p + c) % 1073741824 = m at e3 ⊢
    generalize hq : (p + c) / 1073741824 = q at e4 m2 m3 ⊢
    have ih := times_l0 s t L hb0 hb1 hL hlen r (P ++ [m]) q (i + 1) k h3 (by rw [List.length_append, hP]; rfl) h1 m2 m3 (by clear hm hq m1; omega)
    rw [List.length_cons, times_round (hi := h1) (hlen := hlen) (hP := hP) (ha := h2) (n := r.length) (e2 := by rw [hp]; exact e2) (e3 := e3) (e4 := e4) (q0 := m2) (q1 := by clear e2 e3 e4; omega)]
    rw [← List.append_assoc, ih, List.append_assoc]; rfl
theorem Times_one {L : List Int} {b : Int} (hb0 : 0 < b) (hb1 : b < 1073741824) (hL : okL L) (hlen : L.length ≤ 1000000) {k : Nat} (hk : 4 * L.length + 10 < k) :
    ∃ M s, ostlerref00_Times.f k false L false [b] = some (s, M) ∧ s = false ∧ okL M ∧ canon M ∧ val M = val L * b ∧ M.length ≤ L.length + 1 := by
  obtain ⟨k, rfl⟩ : ∃ m, k = m + 1 := ⟨k - 1, by omega⟩
  unfold ostlerref00_Times.f
  by_cases h0 : (L.length : Int) = 0
  · rw [if_pos h0]
    have e : L = [] := List.length_eq_zero_iff.1 (by omega)
    refine ⟨[], false, by rw [ostlerref00_Times.j0, if_pos rfl], rfl, okL_nil, .inl rfl, by rw [e]; simp [val], by simp⟩
  · rw [if_neg h0, show ((([b] : List Int).length : Int) == 0) = false from rfl]
    have ew : wrap64 ((L.length : Int) + (([b] : List Int).length : Int)) = ((L.length + 1 : Nat) : Int) := w1 (by omega)
    rw [ostlerref00_Times.j0, if_neg (by decide), ew, if_pos (by omega), if_pos (by omega), Int.toNat_natCast, List.replicate_succ]
    have := times_l0 false false L hb0 hb1 hL hlen L [] 0 0 k rfl rfl (by omega) (by omega) (by omega) (by omega)
    refine ⟨_, _, this, rfl, okL_trimZ (okL_mulc hb0 hb1 L 0 hL (by omega) hb0), canon_trimZ _, ?_, ?_⟩
    · rw [val_trimZ, List.nil_append, val_mulc]; omega
    · have := trimZ_length ([] ++ mulc L b 0)
      rw [List.nil_append, mulc_length] at this
      rw [List.nil_append]; exact this

/-! ### plus -/
def addc : List Int → List Int → Int → List Int
  | [], [], c => if c > 0 then [c] else []
  | a :: s, [], c => (c + a) % 1073741824 :: addc s [] ((c + a) / 1073741824)
  | [], b :: t, c => (c + b) % 1073741824 :: addc [] t ((c + b) / 1073741824)
  | a :: s, b :: t, c => (c + a + b) % 1073741824 :: addc s t ((c + a + b) / 1073741824)
theorem addc_all : ∀ (s t : List Int) (c : Int), okL s → okL t → 0 ≤ c → c ≤ 1 → val (addc s t c) = val s + val t + c ∧ okL (addc s t c) ∧ (addc s t c).length ≤ s.length + t.length + 1
  | [], [], c, _, _, h0, h1 => by
    rw [addc]
    split
    · exact ⟨by simp [val], okL_cons h0 (by omega) okL_nil, by simp⟩
    · exact ⟨by simp [val]; omega, okL_nil, by simp⟩
  | a :: s, [], c, hs, ht, h0, h1 => by
    obtain ⟨a0, a1⟩ := okL_head hs
    obtain ⟨i1, i2, i3⟩ := addc_all s [] ((c + a) / 1073741824) (okL_tail hs) ht (by omega) (by omega)
    rw [addc]
    refine ⟨?_, okL_cons (by omega) (by omega) i2, by simp only [List.length_cons, List.length_nil] at i3 ⊢; omega⟩
    simp only [val] at i1 ⊢; omega
  | [], b :: t, c, hs, ht, h0, h1 => by
    obtain ⟨a0, a1⟩ := okL_head ht
    obtain ⟨i1, i2, i3⟩ := addc_all [] t ((c + b) / 1073741824) hs (okL_tail ht) (by omega) (by omega)
    rw [addc]
    refine ⟨?_, okL_cons (by omega) (by omega) i2, by simp only [List.length_cons, List.length_nil] at i3 ⊢; omega⟩
    simp only [val] at i1 ⊢; omega
  | a :: s, b :: t, c, hs, ht, h0, h1 => by
    obtain ⟨a0, a1⟩ := okL_head hs
    obtain ⟨b0, b1⟩ := okL_head ht
    obtain ⟨i1, i2, i3⟩ := addc_all s t ((c + a + b) / 1073741824) (okL_tail hs) (okL_tail ht) (by omega) (by omega)
    rw [addc]
    refine ⟨?_, okL_cons (by omega) (by omega) i2, by simp only [List.length_cons] at i3 ⊢; omega⟩
    simp only [val] at i1 ⊢; omega
theorem small_carry {x : Int} (h0 : 0 ≤ x) (h1 : x < 4294967296) : Int.tmod x 1073741824 = x % 1073741824 ∧ wrap64 (Int.tdiv x 1073741824) = x / 1073741824 :=
  ⟨Int.tmod_eq_emod_of_nonneg h0, by rw [Int.tdiv_eq_ediv_of_nonneg h0, wrap64_of_fits (by omega) (by omega)]⟩
theorem add_done (L M acc : List Int) (i : Nat) (hL : L.length ≤ i) (hM : M.length ≤ i) (ha : acc.length ≤ 2000000) {k : Nat} (hk : acc.length + 2 < k) :
    ostlerref00_add.l0 k L M acc 0 (i : Int) = some (trimZ acc) := by
  obtain ⟨k, rfl⟩ : ∃ m, k = m + 2 := ⟨k - 2, by omega⟩
  unfold ostlerref00_add.l0
  rw [if_neg (by omega), if_neg (by omega)]
  unfold ostlerref00_add.j1
  rw [if_neg (by decide), trim_is _ (by omega) (by omega)]; rfl
theorem add_l0 (L M : List Int) (hL : okL L) (hM : okL M) (hlL : L.length ≤ 500000) (hlM : M.length ≤ 500000) :
    ∀ (s t acc : List Int) (c : Int) (i k : Nat), L.drop i = s → M.drop i = t → i ≤ 600000 → 0 ≤ c → c ≤ 1 → acc.length = i → 3 * s.length + 3 * t.length + acc.length + 10 < k →
      ostlerref00_add.l0 k L M acc c (i : Int) = some (trimZ (acc ++ addc s t c))
  | [], [], acc, c, i, k, hs, ht, hi, c0, c1, ha, hk => by
    have lL := dnl hs
    have lM := dnl ht
    by_cases hc : c = 0
    · rw [hc, add_done L M acc i lL lM (by omega) (by omega), addc, if_neg (by omega), List.append_nil]
    · obtain rfl : c = 1 := by omega
      obtain ⟨k, rfl⟩ : ∃ m, k = m + 2 := ⟨k - 2, by omega⟩
      unfold ostlerref00_add.l0
      rw [if_neg (by omega), if_neg (by omega)]
      unfold ostlerref00_add.j1
      rw [if_pos (by decide), if_neg (by omega), if_neg (by omega), if_pos (by omega), show Int.tmod 1 1073741824 = 1 from rfl, show wrap64 (Int.tdiv 1 1073741824) = 0 by unfold wrap64; decide, w1 (by omega), add_done L M (acc ++ [1]) (i + 1) (by omega) (by omega) (by simp; omega) (by simp; simp at hk; omega)]
      rw [addc, if_pos (by omega)]
  | a :: s, [], acc, c, i, k, hs, ht, hi, c0, c1, ha, hk => by
    simp only [List.length_cons, List.length_nil] at hk
    obtain ⟨k, rfl⟩ : ∃ m, k = m + 2 := ⟨k - 2, by omega⟩
    obtain ⟨h1, h2, h3⟩ := dcl hs
    have lM := dnl ht
    obtain ⟨a0, a1⟩ := hL a (List.mem_of_mem_drop (i := i) (by rw [hs]; simp))
    obtain ⟨q1, q2⟩ := small_carry (x := c + a) (by omega) (by omega)
    have ih := add_l0 L M hL hM hlL hlM s [] (acc ++ [(c + a) % 1073741824]) ((c + a) / 1073741824) (i + 1) k h3 (List.drop_eq_nil_of_le (by omega)) (by omega) (by omega) (by omega) (by simp [ha]) (by simp; omega)
    unfold ostlerref00_add.l0
    rw [if_pos (by omega)]
    unfold ostlerref00_add.j1
    rw [if_pos rfl, if_pos (by omega), if_pos (by omega), if_neg (by omega), if_pos (by omega), h2, wrap64_of_fits (n := c + a) (by omega) (by omega), q1, q2, w1 (by omega), ih, addc, List.append_assoc]; rfl
  | [], b :: t, acc, c, i, k, hs, ht, hi, c0, c1, ha, hk => by
    simp only [List.length_cons, List.length_nil] at hk
    obtain ⟨k, rfl⟩ : ∃ m, k = m + 2 := ⟨k - 2, by omega⟩
    obtain ⟨h1, h2, h3⟩ := dcl ht
    have lL := dnl hs
    obtain ⟨a0, a1⟩ := hM b (List.mem_of_mem_drop (i := i) (by rw [ht]; simp))
    obtain ⟨q1, q2⟩ := small_carry (x := c + b) (by omega) (by omega)
    have ih := add_l0 L M hL hM hlL hlM [] t (acc ++ [(c + b) % 1073741824]) ((c + b) / 1073741824) (i + 1) k (List.drop_eq_nil_of_le (by omega)) h3 (by omega) (by omega) (by omega) (by simp [ha]) (by simp; omega)
    unfold ostlerref00_add.l0
    rw [if_neg (by omega), if_pos (by omega)]
    unfold ostlerref00_add.j1
    rw [if_pos rfl, if_neg (by omega), if_pos (by omega), if_pos (by omega), if_pos (by omega), h2, wrap64_of_fits (n := c + b) (by omega) (by omega), q1, q2, w1 (by omega), ih, addc, List.append_assoc]; rfl
  | a :: s, b :: t, acc, c, i, k, hs, ht, hi, c0, c1, ha, hk => by
    simp only [List.length_cons] at hk
    obtain ⟨k, rfl⟩ : ∃ m, k = m + 2 := ⟨k - 2, by omega⟩
    obtain ⟨h1, h2, h3⟩ := dcl hs
    obtain ⟨g1, g2, g3⟩ := dcl ht
    obtain ⟨a0, a1⟩ := hL a (List.mem_of_mem_drop (i := i) (by rw [hs]; simp))
    obtain ⟨b0, b1⟩ := hM b (List.mem_of_mem_drop (i := i) (by rw [ht]; simp))
    obtain ⟨q1, q2⟩ := small_carry (x := c + a + b) (by omega) (by omega)
    have ih := add_l0 L M hL hM hlL hlM s t (acc ++ [(c + a + b) % 1073741824]) ((c + a + b) / 1073741824) (i + 1) k h3 g3 (by omega) (by omega) (by omega) (by simp [ha]) (by simp; omega)
    unfold ostlerref00_add.l0
    rw [if_pos (by omega)]
    unfold ostlerref00_add.j1
    rw [if_pos rfl, if_pos (by omega), if_pos (by omega), if_pos (by omega), if_pos (by omega), h2, g2, wrap64_of_fits (n := c + a) (by omega) (by omega), wrap64_of_fits (n := c + a + b) (by omega) (by omega), q1, q2, w1 (by omega), ih, addc, List.append_assoc]; rfl
theorem Plus_pos {L M : List Int} (hL : okL L) (hM : okL M) (hlL : L.length ≤ 500000) (hlM : M.length ≤ 500000) {k : Nat} (hk : 3 * L.length + 3 * M.length + 10 < k) :
    ∃ R s, ostlerref00_Plus.f k false L false M = some (s, R) ∧ s = false ∧ okL R ∧ canon R ∧ val R = val L + val M ∧ R.length ≤ L.length + M.length + 1 := by
  unfold ostlerref00_Plus.f ostlerref00_add.f
  obtain ⟨i1, i2, i3⟩ := addc_all L M 0 hL hM (by omega) (by omega)
  have e := add_l0 L M hL hM hlL hlM L M [] 0 0 k rfl rfl (by omega) (by omega) (by omega) rfl (by simp; omega)
  rw [show ((0 : Nat) : Int) = 0 from rfl, List.nil_append] at e
  rw [if_pos (show (false == false) = true from rfl), e, Option.bind_some]
  refine ⟨_, _, rfl, rfl, okL_trimZ i2, canon_trimZ _, by rw [val_trimZ, i1]; omega, ?_⟩
  have := trimZ_length (addc L M 0); omega

/-! ### which is greater -/
def pw (n : Nat) : Int := 1073741824 ^ n
theorem pw_pos (n : Nat) : 0 < pw n := Int.pow_pos (by decide)
theorem pw_succ (n : Nat) : pw (n + 1) = 1073741824 * pw n := by unfold pw; rw [Int.pow_succ, Int.mul_comm]
theorem pw_le {m n : Nat} (h : m ≤ n) : pw m ≤ pw n := by
  induction n with
  | zero => obtain rfl : m = 0 := by omega
            exact Int.le_refl _
  | succ n ih =>
    by_cases e : m = n + 1
    · rw [e]; exact Int.le_refl _
    · have := ih (by omega)
      have := pw_pos n
      rw [pw_succ]; omega
theorem val_snoc (x : Int) : ∀ s : List Int, val (s ++ [x]) = val s + x * pw s.length
  | [] => by simp [val, pw]
  | a :: s => by
    rw [List.cons_append, val, val_snoc x s, val, List.length_cons, pw_succ, Int.mul_add, Int.mul_left_comm]
    omega
theorem val_range : ∀ s : List Int, okL s → 0 ≤ val s ∧ val s < pw s.length
  | [], _ => by simp [val, pw]
  | a :: s, h => by
    obtain ⟨a0, a1⟩ := okL_head h
    obtain ⟨i1, i2⟩ := val_range s (okL_tail h)
    rw [val, List.length_cons, pw_succ]
    omega
def sgn (x : Int) : Int := if x < 0 then -1 else if x > 0 then 1 else 0
theorem step_lt {u v x y p : Int} (hu0 : 0 ≤ u) (hu : u < p) (hv0 : 0 ≤ v) (hv : v < p) (h : x < y) : u + x * p < v + y * p := by
  have : (x + 1) * p ≤ y * p := Int.mul_le_mul_of_nonneg_right (by omega) (by omega)
  rw [Int.add_mul] at this
  omega
theorem okL_take {L : List Int} (h : okL L) (n : Nat) : okL (L.take n) := fun x hx => h x (List.mem_of_mem_take hx)
theorem take_snoc {L : List Int} {n : Nat} (h : n < L.length) : L.take (n + 1) = L.take n ++ [rd L (n : Int)] := by
  obtain ⟨_, h2, _⟩ := dcl (List.drop_eq_getElem_cons h)
  rw [h2, List.take_add_one, List.getElem?_eq_getElem h]; rfl
theorem size_l0 (L M : List Int) (hL : okL L) (hM : okL M) (hlM : L.length = M.length) (hlen : L.length ≤ 1000000) : ∀ (n k : Nat), n ≤ L.length → n < k →
    ostlerref00_size.l0 k L M ((n : Int) - 1) = some (sgn (val (L.take n) - val (M.take n)))
  | 0, k, hn, hk => by
    obtain ⟨k, rfl⟩ : ∃ m, k = m + 1 := ⟨k - 1, by omega⟩
    rw [ostlerref00_size.l0, if_neg (by omega)]; rfl
  | n + 1, k, hn, hk => by
    obtain ⟨k, rfl⟩ : ∃ m, k = m + 1 := ⟨k - 1, by omega⟩
    have e0 : ((n + 1 : Nat) : Int) - 1 = (n : Int) := by omega
    have e1 : wrap64 ((n : Int) - 1) = (n : Int) - 1 := wrap64_of_fits (by omega) (by omega)
    obtain ⟨u0, u1⟩ := val_range _ (okL_take hL n)
    obtain ⟨v0, v1⟩ := val_range _ (okL_take hM n)
    have lL : (L.take n).length = n := by rw [List.length_take]; omega
    have lM : (M.take n).length = n := by rw [List.length_take]; omega
    rw [lL] at u1
    rw [lM] at v1
    rw [take_snoc (by omega), take_snoc (by omega), val_snoc, val_snoc, lL, lM, e0, ostlerref00_size.l0, if_pos (by omega), if_pos (by omega), if_pos (by omega), if_pos (by omega)]
    by_cases h1 : rd L (n : Int) < rd M (n : Int)
    · rw [if_pos h1]
      have := step_lt u0 u1 v0 v1 h1
      unfold sgn; rw [if_pos (by omega)]
    · rw [if_neg h1]
      by_cases h2 : rd L (n : Int) > rd M (n : Int)
      · rw [if_pos h2]
        have := step_lt v0 v1 u0 u1 h2
        unfold sgn; rw [if_neg (by omega), if_pos (by omega)]
      · rw [if_neg h2, e1, size_l0 L M hL hM hlM hlen n k (by omega) (by omega)]
        have : rd L (n : Int) = rd M (n : Int) := by omega
        rw [this]; congr 2; omega
theorem shorter {L M : List Int} (hL : okL L) (hM : okL M) (hc : canon M) (h : L.length < M.length) : val L < val M := by
  rcases hc with rfl | ⟨s, x, rfl, hx⟩
  · simp at h
  · obtain ⟨u0, u1⟩ := val_range _ hL
    obtain ⟨x0, x1⟩ := hM x (by simp)
    obtain ⟨v0, v1⟩ := val_range s (fun y hy => hM y (by simp [hy]))
    rw [List.length_append, List.length_singleton] at h
    have := pw_le (show L.length ≤ s.length by omega)
    have : 1 * pw s.length ≤ x * pw s.length := Int.mul_le_mul_of_nonneg_right (by omega) (by have := pw_pos s.length; omega)
    rw [val_snoc]; omega
theorem size_is {L M : List Int} (hL : okL L) (hM : okL M) (hcL : canon L) (hcM : canon M) (hlL : L.length ≤ 1000000) (hlM : M.length ≤ 1000000) {k : Nat} (hk : L.length < k) :
    ostlerref00_size.f k L M = some (sgn (val L - val M)) := by
  unfold ostlerref00_size.f
  by_cases h : (L.length : Int) = (M.length : Int)
  · rw [if_pos h, wrap64_of_fits (by omega) (by omega), size_l0 L M hL hM (by omega) hlL L.length k (Nat.le_refl _) hk, List.take_length, show L.length = M.length by omega, List.take_length]
  · rw [if_neg h]
    by_cases h2 : (L.length : Int) < (M.length : Int)
    · rw [if_pos h2]
      have := shorter hL hM hcM (by omega)
      unfold sgn; rw [if_pos (by omega)]
    · rw [if_neg h2]
      have := shorter hM hL hcL (by omega)
      unfold sgn; rw [if_neg (by omega), if_pos (by omega)]
theorem Int_l0 (L : List Int) (hL : okL L) (hlen : L.length ≤ 1000000) : ∀ (n k : Nat) (acc : Int), n ≤ L.length → n < k → 0 ≤ acc → acc * pw n + val (L.take n) ≤ 9223372036854775807 →
    ostlerref00_Int.l0 k acc ((n : Int) - 1) false L = some (acc * pw n + val (L.take n), true)
  | 0, k, acc, hn, hk, ha, hv => by
    obtain ⟨k, rfl⟩ : ∃ m, k = m + 1 := ⟨k - 1, by omega⟩
    unfold ostlerref00_Int.l0
    rw [if_neg (by omega)]
    simp [val, pw]
  | n + 1, k, acc, hn, hk, ha, hv => by
    obtain ⟨k, rfl⟩ : ∃ m, k = m + 1 := ⟨k - 1, by omega⟩
    have e0 : ((n + 1 : Nat) : Int) - 1 = (n : Int) := by omega
    have e1 : wrap64 ((n : Int) - 1) = (n : Int) - 1 := wrap64_of_fits (by omega) (by omega)
    have lL : (L.take n).length = n := by rw [List.length_take]; omega
    obtain ⟨u0, u1⟩ := val_range _ (okL_take hL n)
    have hd := List.drop_eq_getElem_cons (show n < L.length by omega)
    obtain ⟨_, h2, _⟩ := dcl hd
    obtain ⟨x0, x1⟩ := hL (rd L (n : Int)) (by rw [h2]; exact List.getElem_mem _)
    have et : acc * pw (n + 1) + val (L.take (n + 1)) = (acc * 1073741824 + rd L (n : Int)) * pw n + val (L.take n) := by
      rw [take_snoc (by omega), val_snoc, lL, pw_succ, Int.add_mul, Int.mul_assoc]; omega
    rw [et] at hv ⊢
    have hp := pw_pos n
    have hge : (acc * 1073741824 + rd L (n : Int)) * 1 ≤ (acc * 1073741824 + rd L (n : Int)) * pw n := Int.mul_le_mul_of_nonneg_left (by omega) (by omega)
    rw [e0]
    unfold ostlerref00_Int.l0
    rw [if_pos (by omega), if_neg (by decide), if_pos (by omega), if_pos (by omega), e1, wrap64_of_fits (n := acc * 1073741824) (by omega) (by omega), wrap64_of_fits (by omega) (by omega)]
    exact Int_l0 L hL hlen n k _ (by omega) (by omega) (by omega) hv
theorem Int_is {L : List Int} (hL : okL L) (hc : canon L) (hlen : L.length ≤ 1000000) {k : Nat} (hk : L.length + 20 < k) :
    ostlerref00_Int.f k false L = some (if val L ≤ 9223372036854775807 then (val L, true) else (0, false)) := by
  obtain ⟨k, rfl⟩ : ∃ m, k = m + 1 := ⟨k - 1, by omega⟩
  have hmax : okL [1073741823, 1073741823, 7] := okL_cons (by decide) (by decide) (okL_cons (by decide) (by decide) (okL_cons (by decide) (by decide) okL_nil))
  have hcm : canon [1073741823, 1073741823, 7] := .inr ⟨[1073741823, 1073741823], 7, rfl, by decide⟩
  have hvm : val [1073741823, 1073741823, 7] = 9223372036854775807 := by decide
  unfold ostlerref00_Int.f
  rw [Of_min (by omega), Option.bind_some]
  have c1 : ostlerref00_Cmp.f (k + 1) false L true [0, 0, 8] = some 1 := by unfold ostlerref00_Cmp.f; rfl
  have c2 : ostlerref00_Cmp.f (k + 1) false L false [1073741823, 1073741823, 7] = some (sgn (val L - 9223372036854775807)) := by
    unfold ostlerref00_Cmp.f
    rw [if_neg (by decide), size_is hL hmax hc hcm hlen (by decide) (by omega), hvm]; rfl
  rw [c1, Option.bind_some, if_neg (by decide), Of_max (by omega), Option.bind_some, c2, Option.bind_some]
  rw [ostlerref00_Int.j0]
  by_cases h : val L ≤ 9223372036854775807
  · have e : decide (sgn (val L - 9223372036854775807) > 0) = false := by
      apply decide_eq_false
      unfold sgn
      split
      · omega
      · rw [if_neg (by omega)]; omega
    have := Int_l0 L hL hlen L.length k 0 (Nat.le_refl _) (by omega) (by omega) (by rw [List.take_length]; omega)
    rw [List.take_length, Int.zero_mul, Int.zero_add] at this
    rw [e, if_neg (by decide), if_pos h, wrap64_of_fits (by omega) (by omega), this]
  · have e : decide (sgn (val L - 9223372036854775807) > 0) = true := by
      apply decide_eq_true
      unfold sgn
      rw [if_neg (by omega), if_pos (by omega)]; omega
    rw [e, if_pos rfl, if_neg h]
end Go.Proofs.YtciibddoejhmlaaGreatDoor.Q
