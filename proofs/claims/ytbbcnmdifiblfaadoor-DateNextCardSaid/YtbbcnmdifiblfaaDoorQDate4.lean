/- The reference's Parse: what it finds is written as it was; what is written is found. -/
import Derived.Test.YtbbcnmdifiblfaaDoorQDate3
namespace Go.Proofs.YtbbcnmdifiblfaaDoor.Q
set_option linter.unusedVariables false
set_option linter.unusedSimpArgs false
open Go.RowKit Go.Proofs.YtbbcnmdifiblfaaDoorW.PrintWords Go.Proofs.YtbbcnmdifiblfaaDoorW.PrintLast Go.Proofs.YtbbcnmdifiblfaaDoorW.PrintMore
open PP

theorem wsum (x b : Int) (h0 : 0 ≤ x) (h1 : x < 100000000) (h2 : 48 ≤ b) (h3 : b ≤ 57) : wrap64 (wrap64 (10 * x) + (b - 48) % 256) = 10 * x + (b - 48) := by
  rw [wrap64_of_fits (n := 10 * x) (by omega) (by omega), wrap64_of_fits (by omega) (by omega)]; omega
/-- digits of a text, w of them from p on, c of which were read -/
theorem digits_any (s : ByteArray) (p w : Nat) (hw : w ≤ 4) (hpw : p + w ≤ s.size) (hs : s.size ≤ 1000) : ∀ (j c k : Nat) (x : Int), c + j = w → j < k → 0 ≤ x → x < ((10 ^ c : Nat) : Int) → ∃ r, ostlerref02_digits.l0 k s p w x ((p + c : Nat) : Int) = some r ∧ r < ((10 ^ w : Nat) : Int)
  | 0, c, k, x, hj, hk, hx, hx9 => by
    obtain ⟨k, rfl⟩ : ∃ i, k = i + 1 := ⟨k - 1, by omega⟩
    have e : wrap64 ((p : Int) + w) = ((p + w : Nat) : Int) := wrapN _ (by omega) (by omega)
    rw [ostlerref02_digits.l0, e]
    clear e
    rw [if_neg (by omega)]
    obtain rfl : c = w := by omega
    exact ⟨x, rfl, hx9⟩
  | j + 1, c, k, x, hj, hk, hx, hx9 => by
    obtain ⟨k, rfl⟩ : ∃ i, k = i + 1 := ⟨k - 1, by omega⟩
    have e : wrap64 ((p : Int) + w) = ((p + w : Nat) : Int) := wrapN _ (by omega) (by omega)
    rw [ostlerref02_digits.l0, e]
    clear e
    rw [if_pos (by omega), if_pos (by omega), if_pos (by omega)]
    have hb := bt_range s ((p + c : Nat) : Int)
    have hp : (1 : Nat) ≤ 10 ^ w := Nat.pos_of_ne_zero (by simp)
    by_cases h1 : bt s ((p + c : Nat) : Int) < 48
    · rw [if_pos h1]; exact ⟨_, rfl, by omega⟩
    rw [if_neg h1]
    by_cases h2 : bt s ((p + c : Nat) : Int) > 57
    · rw [if_pos h2]; exact ⟨_, rfl, by omega⟩
    have hc : (10 : Nat) ^ c ≤ 10 ^ 4 := Nat.pow_le_pow_right (by decide) (by omega)
    have hc2 : (10 : Nat) ^ (c + 1) = 10 ^ c * 10 := Nat.pow_succ ..
    rw [if_neg h2, w1 (by omega), wsum x _ hx (by omega) (by omega) (by omega)]
    exact digits_any s p w hw hpw hs j (c + 1) k _ (by omega) (by omega) (by omega) (by omega)
theorem digits_any' (s : ByteArray) (p w : Nat) (hw : w ≤ 4) (hpw : p + w ≤ s.size) (hs : s.size ≤ 1000) {k : Nat} (hk : 4 < k) : ∃ r, ostlerref02_digits.f k s p w = some r ∧ r < ((10 ^ w : Nat) : Int) := by
  have h := digits_any s p w hw hpw hs w 0 k 0 (by omega) (by omega) (by omega) (by simp)
  unfold ostlerref02_digits.f
  exact h
theorem dg_nat (n : Nat) (h : n < 10) : ((dg n).toNat : Int) = 48 + n := by
  have key : ∀ m : Fin 10, ((dg m.val).toNat : Int) = 48 + (m.val : Int) := by decide +kernel
  exact key ⟨n, h⟩
/-- digits that stand there -/
theorem digits_run (s : ByteArray) (p w : Nat) (hp1 : p ≤ 1000) (hw : w ≤ 4) (hs : s.size ≤ 1000) : ∀ (ds : List Nat) (rest : List UInt8) (c k x : Nat), c + ds.length = w → ds.length < k → (∀ d ∈ ds, d < 10) → s.data.toList.drop (p + c) = ds.map dg ++ rest → x < 10 ^ c →
    ostlerref02_digits.l0 k s p w x ((p + c : Nat) : Int) = some ((ds.foldl (fun a d => 10 * a + d) x : Nat) : Int)
  | [], rest, c, k, x, hc, hk, hd, hr, hx => by
    obtain ⟨k, rfl⟩ : ∃ i, k = i + 1 := ⟨k - 1, by omega⟩
    have e : wrap64 ((p : Int) + w) = ((p + w : Nat) : Int) := wrapN _ (by omega) (by omega)
    rw [ostlerref02_digits.l0, e]
    clear e
    simp only [List.length_nil, Nat.add_zero] at hc
    rw [if_neg (by omega)]; rfl
  | d :: ds, rest, c, k, x, hc, hk, hd, hr, hx => by
    obtain ⟨k, rfl⟩ : ∃ i, k = i + 1 := ⟨k - 1, by omega⟩
    simp only [List.map_cons, List.cons_append] at hr
    obtain ⟨h1, h2, h3⟩ := dc hr
    have hd0 := hd d (by simp)
    rw [dg_nat d hd0] at h2
    rw [List.length_cons] at hc
    have e : wrap64 ((p : Int) + w) = ((p + w : Nat) : Int) := wrapN _ (by omega) (by omega)
    rw [ostlerref02_digits.l0, e]
    clear e
    have hcp : (10 : Nat) ^ c ≤ 10 ^ 4 := Nat.pow_le_pow_right (by decide) (by omega)
    have hc2 : (10 : Nat) ^ (c + 1) = 10 ^ c * 10 := Nat.pow_succ ..
    rw [if_pos (by omega), if_pos (by omega), if_pos (by omega), h2, if_neg (by omega), if_neg (by omega), w1 (by omega), wsum (x : Int) _ (by omega) (by omega) (by omega) (by omega)]
    have ih := digits_run s p w hp1 hw hs ds rest (c + 1) k (10 * x + d) (by omega) (by rw [List.length_cons] at hk; omega) (fun y hy => hd y (by simp [hy])) h3 (by omega)
    rw [List.foldl_cons, ← ih]
    congr 1
    omega
theorem digits_two (l : List UInt8) (p n : Nat) (rest : List UInt8) (h : n < 100) (hl : l.length = 29) (hr : l.drop p = two n ++ rest) {k : Nat} (hk : 4 < k) : ostlerref02_digits.f k (B l) p 2 = some (n : Int) := by
  have e := digits_run (B l) p 2 (by rcases Nat.lt_or_ge p 30 with hp | hp; omega; rw [List.drop_eq_nil_of_le (by omega)] at hr; exact absurd hr (by simp [two])) (by omega) (by rw [B_size]; omega) [n / 10, n % 10] rest 0 k 0 rfl (by simp; omega) (by intro d hd; simp at hd; omega) (by rw [B_toList, Nat.add_zero, hr]; rfl) (by simp)
  have e2 : ([n / 10, n % 10].foldl (fun a d => 10 * a + d) 0 : Nat) = n := by simp only [List.foldl_cons, List.foldl_nil]; omega
  rw [e2, Nat.add_zero, show ((0 : Nat) : Int) = 0 from rfl, show ((2 : Nat) : Int) = 2 from rfl] at e
  rw [ostlerref02_digits.f]; exact e
theorem digits_four (l : List UInt8) (p n : Nat) (rest : List UInt8) (h : n < 10000) (hl : l.length = 29) (hr : l.drop p = four n ++ rest) {k : Nat} (hk : 4 < k) : ostlerref02_digits.f k (B l) p 4 = some (n : Int) := by
  have e := digits_run (B l) p 4 (by rcases Nat.lt_or_ge p 30 with hp | hp; omega; rw [List.drop_eq_nil_of_le (by omega)] at hr; exact absurd hr (by simp [four])) (by omega) (by rw [B_size]; omega) [n / 1000, n / 100 % 10, n / 10 % 10, n % 10] rest 0 k 0 rfl (by simp; omega) (by intro d hd; simp at hd; omega) (by rw [B_toList, Nat.add_zero, hr]; rfl) (by simp)
  have e2 : ([n / 1000, n / 100 % 10, n / 10 % 10, n % 10].foldl (fun a d => 10 * a + d) 0 : Nat) = n := by simp only [List.foldl_cons, List.foldl_nil]; omega
  rw [e2, Nat.add_zero, show ((0 : Nat) : Int) = 0 from rfl, show ((4 : Nat) : Int) = 4 from rfl] at e
  rw [ostlerref02_digits.f]; exact e

/-! ### the days are counted -/
def refFin (k : Nat) (s : ByteArray) (h mi se a : Int) : Option (Int × Int) :=
  (ostlerref02_Format.f k (wrap64 ((wrap64 ((wrap64 ((wrap64 (86400 * a)) + (wrap64 (3600 * h)))) + (wrap64 (60 * mi)))) + se))).bind fun bt150 => (if bt150.2 = 0 then (if bt150.1.toList = s.toList then (some (wrap64 ((wrap64 ((wrap64 ((wrap64 (86400 * a)) + (wrap64 (3600 * h)))) + (wrap64 (60 * mi)))) + se), 0)) else (some (0, 20))) else (some (0, 20)))
theorem yr_loop (s : ByteArray) (y : Nat) (hy : y ≤ 9999) (h mi se m9 : Int) (j : Nat) : ∀ (y' k : Nat) (a : Int), y' + j = y → 0 ≤ a → a ≤ 8000000 - 366 * j →
    ostlerref02_Parse.l1 (k + j + 1) s y h mi se m9 a y' = ostlerref02_Parse.l2 k s y h mi se m9 (a + Cal.U y - Cal.U y') 1 := by
  induction j with
  | zero =>
    intro y' k a hj h0 h1
    obtain rfl : y' = y := by omega
    rw [ostlerref02_Parse.l1, if_neg (by omega)]
    rw [show a + Cal.U y' - Cal.U y' = a by omega]
  | succ j ih =>
    intro y' k a hj h0 h1
    have hs := Cal.U_succ y'
    have hb := Cal.ydays_bd y'
    have e0 : Cal.U (((y' + 1 : Nat)) : Int) = Cal.U y' + Cal.ydays y' := by rw [show (((y' + 1 : Nat)) : Int) = (y' : Int) + 1 by omega]; exact hs
    rw [ostlerref02_Parse.l1, if_pos (by omega), ref_year_is _ (by omega), Option.bind_some, w1 (by omega), wrap64_of_fits (by omega) (by omega)]
    have ih := ih (y' + 1) k (a + Cal.ydays y') (by omega) (by omega) (by omega)
    rw [show k + (j + 1) = k + j + 1 by omega, ih]
    congr 1
    omega
theorem mo_loop (s : ByteArray) (y m : Nat) (hm : m ≤ 11) (h mi se : Int) (j : Nat) : ∀ (m' k : Nat) (a : Int), m' + j = m → 0 ≤ a → a ≤ 9000000 - 31 * j →
    ostlerref02_Parse.l2 (k + j + 1) s y h mi se ((m + 1 : Nat) : Int) a ((m' + 1 : Nat) : Int) = refFin k s h mi se (a + Cal.ah m (Cal.lp y) - Cal.ah m' (Cal.lp y)) := by
  induction j with
  | zero =>
    intro m' k a hj h0 h1
    obtain rfl : m' = m := by omega
    rw [ostlerref02_Parse.l2, if_neg (by omega)]
    rw [show a + Cal.ah m' (Cal.lp y) - Cal.ah m' (Cal.lp y) = a by omega]; rfl
  | succ j ih =>
    intro m' k a hj h0 h1
    have hb := Cal.mlen_bd ⟨m', by omega⟩ (Cal.lp y)
    dsimp only at hb
    have hm' : Cal.mlen m' (Cal.lp y) = Cal.ah (m' + 1) (Cal.lp y) - Cal.ah m' (Cal.lp y) := rfl
    rw [ostlerref02_Parse.l2, if_pos (by omega), ref_month_is _ m' (by omega) (by omega), Option.bind_some, w1 (by omega), wrap64_of_fits (by omega) (by omega)]
    have ih := ih (m' + 1) k (a + Cal.mlen m' (Cal.lp y)) (by omega) (by omega) (by omega)
    rw [show k + (j + 1) = k + j + 1 by omega, ih]
    congr 1
    omega
theorem moOf_inj {a b : Nat} (ha : a < 12) (hb : b < 12) (h : moOf a = moOf b) : a = b := by
  have key : ∀ i j : Fin 12, moOf i.val = moOf j.val → i.val = j.val := by decide +kernel
  exact key ⟨a, ha⟩ ⟨b, hb⟩ h
/-- which month a text names -/
theorem name_loop (s : ByteArray) (hs : s.size = 29) (x4 x5 x6 x7 x8 : Int) : ∀ (j m' k : Nat), m' + j = 12 →
    ∃ q k', m' ≤ q ∧ q ≤ 12 ∧ k ≤ k' ∧ (q < 12 → (s.extract 8 11).data.toList = moOf q) ∧ (∀ q', m' ≤ q' → q' < q → (s.extract 8 11).data.toList ≠ moOf q') ∧ ostlerref02_Parse.l0 (k + j + 1) s x4 x5 x6 x7 x8 ((m' + 1 : Nat) : Int) (B monthsL) = ostlerref02_Parse.j1 k' s x4 x5 x6 x7 x8 ((q + 1 : Nat) : Int)
  | 0, m', k, hj => by
    obtain rfl : m' = 12 := by omega
    refine ⟨12, k, by omega, by omega, by omega, by omega, by omega, ?_⟩
    rw [ostlerref02_Parse.l0, if_neg (by omega)]
  | j + 1, m', k, hj => by
    have e2 : wrap64 (3 * ((m' + 1 : Nat) : Int)) = ((3 * m' + 3 : Nat) : Int) := wrapN _ (by omega) (by omega)
    have e2b : wrap64 (((3 * m' + 3 : Nat) : Int) - 3) = ((3 * m' : Nat) : Int) := wrapN _ (by clear e2; omega) (by clear e2; omega)
    have em : ((B monthsL).size : Int) = 36 := rfl
    rw [ostlerref02_Parse.l0, e2, e2b, em]
    clear e2 e2b
    rw [if_pos (by omega), if_pos (by omega), if_pos (by omega), if_pos (by omega), if_pos (by omega), if_pos (by omega), Int.toNat_natCast, Int.toNat_natCast, months_sl2 m' (by omega), B_toL, w1 (by omega)]
    by_cases hq : moOf m' = (s.extract 8 11).toList
    · rw [if_pos hq]
      refine ⟨m', k + (j + 1), Nat.le_refl _, by omega, by omega, fun _ => ?_, fun q' h1 h2 => by omega, rfl⟩
      rw [← Lib.toList_data, hq]
    · rw [if_neg hq]
      obtain ⟨q, k', h1, h2, h3, h4, h5, h6⟩ := name_loop s hs x4 x5 x6 x7 x8 j (m' + 1) k (by omega)
      refine ⟨q, k', by omega, h2, h3, h4, fun q' a b => ?_, h6⟩
      by_cases hqm : q' = m'
      · subst hqm; rw [← Lib.toList_data]; exact fun e => hq e.symm
      · exact h5 q' (by omega) b
theorem ref_last {k : Nat} (hk : 9000 ≤ k) (n : Int) (s : ByteArray) : ∃ x : Int × Int, ((ostlerref02_Format.f k n).bind fun bt => (if bt.2 = 0 then (if bt.1.toList = s.toList then some (n, 0) else some (0, 20)) else some (0, 20))) = some x ∧ (x = (0, 20) ∨ ∃ N y m d r : Nat, x = ((N : Int), 0) ∧ Pt N y m d r ∧ s = B (fmt (wkOf (N / 86400)) y m d r)) := by
  by_cases h : 0 ≤ n ∧ n ≤ 253402300799
  · obtain ⟨N, y, m, d, r, rfl, hp⟩ := pt_exist n h.1 h.2
    rw [ref_Format_is hp hk, Option.bind_some, if_pos rfl]
    by_cases he : (B (fmt (wkOf (N / 86400)) y m d r)).toList = s.toList
    · rw [if_pos he]; exact ⟨_, rfl, .inr ⟨N, y, m, d, r, rfl, hp, (toList_eq he).symm⟩⟩
    · rw [if_neg he]; exact ⟨_, rfl, .inl rfl⟩
  · rw [ref_Format_out n (by omega) (by omega), Option.bind_some, if_neg (show ¬ ((5 : Int) = 0) by decide)]; exact ⟨_, rfl, .inl rfl⟩
/-- from the test of the parts on -/
theorem ref_rest (s : ByteArray) (x4 x5 x6 x7 x8 : Int) (q k : Nat) (hk : 20000 ≤ k) (hq : q ≤ 12) (h4 : x4 ≤ 100) (h5 : x5 ≤ 9999) :
    ostlerref02_Parse.j1 k s x4 x5 x6 x7 x8 ((q + 1 : Nat) : Int) = some (0, 20) ∧ (x4 < 1 ∨ x5 < 1970 ∨ x6 < 0 ∨ x7 < 0 ∨ x8 < 0 ∨ q = 12) ∨ ∃ k' y : Nat, 9000 ≤ k' ∧ x5 = y ∧ 1970 ≤ y ∧ 1 ≤ x4 ∧ q ≤ 11 ∧ ostlerref02_Parse.j1 k s x4 x5 x6 x7 x8 ((q + 1 : Nat) : Int) = refFin k' s x6 x7 x8 (x4 - 1 + Cal.U y + Cal.ah q (Cal.lp y)) := by
  obtain ⟨k, rfl⟩ : ∃ i, k = i + 2 := ⟨k - 2, by omega⟩
  have hbad : ostlerref02_Parse.j2 (k + 1) s x4 x5 x6 x7 x8 ((q + 1 : Nat) : Int) true = some (0, 20) := by rw [ostlerref02_Parse.j2, if_pos rfl]
  rw [ostlerref02_Parse.j1]
  by_cases c1 : x4 < 1
  · rw [if_pos c1]; exact .inl ⟨hbad, by omega⟩
  rw [if_neg c1]
  by_cases c2 : x5 < 1970
  · rw [if_pos c2]; exact .inl ⟨hbad, by omega⟩
  rw [if_neg c2]
  by_cases c3 : x6 < 0
  · rw [if_pos c3]; exact .inl ⟨hbad, by omega⟩
  rw [if_neg c3]
  by_cases c4 : x7 < 0
  · rw [if_pos c4]; exact .inl ⟨hbad, by omega⟩
  rw [if_neg c4]
  by_cases c5 : x8 < 0
  · rw [if_pos c5]; exact .inl ⟨hbad, by omega⟩
  rw [if_neg c5]
  by_cases c6 : q = 12
  · rw [show decide (((q + 1 : Nat) : Int) > 12) = true from decide_eq_true (by omega)]; exact .inl ⟨hbad, by omega⟩
  rw [show decide (((q + 1 : Nat) : Int) > 12) = false from decide_eq_false (by omega)]
  obtain ⟨y, rfl⟩ : ∃ y : Nat, x5 = y := ⟨x5.toNat, by omega⟩
  have hu := Cal.U_le (show (1970 : Int) ≤ y by omega); rw [Cal.U_1970] at hu
  have hu2 := Cal.U_le (show (y : Int) ≤ 10000 by omega); rw [Cal.U_10000] at hu2
  refine .inr ⟨k - (y - 1970) - 1 - q - 1, y, by omega, rfl, by omega, by omega, by omega, ?_⟩
  rw [ostlerref02_Parse.j2, if_neg (by decide), wrap64_of_fits (by omega) (by omega)]
  have e1 := yr_loop s y (by omega) x6 x7 x8 ((q + 1 : Nat) : Int) (y - 1970) 1970 (k - (y - 1970) - 1) (x4 - 1) (by omega) (by omega) (by omega)
  rw [show k - (y - 1970) - 1 + (y - 1970) + 1 = k by omega] at e1
  rw [show (((1970 : Nat)) : Int) = 1970 from rfl, Cal.U_1970] at e1
  rw [e1]
  have e2 := mo_loop s y q (by omega) x6 x7 x8 q 0 (k - (y - 1970) - 1 - q - 1) (x4 - 1 + Cal.U y - 0) (by omega) (by omega) (by omega)
  rw [show k - (y - 1970) - 1 - q - 1 + q + 1 = k - (y - 1970) - 1 by omega, show Cal.ah 0 (Cal.lp y) = 0 by cases Cal.lp (y : Int) <;> rfl] at e2
  rw [show (((0 + 1 : Nat)) : Int) = 1 from rfl] at e2
  rw [e2, show x4 - 1 + Cal.U (y : Int) - 0 + Cal.ah q (Cal.lp (y : Int)) - 0 = x4 - 1 + Cal.U (y : Int) + Cal.ah q (Cal.lp (y : Int)) by omega]
theorem ref_Parse_any (s : ByteArray) {k : Nat} (hk : 21000 ≤ k) : ∃ x : Int × Int, ostlerref02_Parse.f k s = some x ∧ (x = (0, 20) ∨ ∃ N y m d r : Nat, x = ((N : Int), 0) ∧ Pt N y m d r ∧ s = B (fmt (wkOf (N / 86400)) y m d r)) := by
  unfold ostlerref02_Parse.f
  by_cases h : (s.size : Int) = 29
  case neg => rw [if_neg h]; exact ⟨_, rfl, .inl rfl⟩
  rw [if_pos h]
  have hs : s.size = 29 := by omega
  obtain ⟨d0, h0, b0⟩ : ∃ r, ostlerref02_digits.f k s 5 2 = some r ∧ r < 100 := digits_any' s 5 2 (by omega) (by omega) (by omega) (k := k) (by omega)
  obtain ⟨d1, h1, b1⟩ : ∃ r, ostlerref02_digits.f k s 12 4 = some r ∧ r < 10000 := digits_any' s 12 4 (by omega) (by omega) (by omega) (k := k) (by omega)
  obtain ⟨d2, h2, b2⟩ : ∃ r, ostlerref02_digits.f k s 17 2 = some r ∧ r < 100 := digits_any' s 17 2 (by omega) (by omega) (by omega) (k := k) (by omega)
  obtain ⟨d3, h3, b3⟩ : ∃ r, ostlerref02_digits.f k s 20 2 = some r ∧ r < 100 := digits_any' s 20 2 (by omega) (by omega) (by omega) (k := k) (by omega)
  obtain ⟨d4, h4, b4⟩ : ∃ r, ostlerref02_digits.f k s 23 2 = some r ∧ r < 100 := digits_any' s 23 2 (by omega) (by omega) (by omega) (k := k) (by omega)
  rw [h0, Option.bind_some, h1, Option.bind_some, h2, Option.bind_some, h3, Option.bind_some, h4, Option.bind_some]
  obtain ⟨q, k', a1, a2, a3, a4, a5, a6⟩ := name_loop s hs d0 d1 d2 d3 d4 12 0 (k - 13) rfl
  rw [show k - 13 + 12 + 1 = k by omega, show (((0 + 1 : Nat)) : Int) = 1 from rfl] at a6
  rw [show (⟨#[74, 97, 110, 70, 101, 98, 77, 97, 114, 65, 112, 114, 77, 97, 121, 74, 117, 110, 74, 117, 108, 65, 117, 103, 83, 101, 112, 79, 99, 116, 78, 111, 118, 68, 101, 99]⟩ : ByteArray) = B monthsL from rfl, a6]
  rcases ref_rest s d0 d1 d2 d3 d4 q k' (by omega) a2 (by omega) (by omega) with ⟨e, _⟩ | ⟨k2, y, c1, c2, c3, c4, c5, e⟩
  · rw [e]; exact ⟨_, rfl, .inl rfl⟩
  · rw [e]; exact ref_last c1 _ s
theorem ref_Parse_fmt {n y m d r : Nat} (h : Pt n y m d r) {k : Nat} (hk : 21000 ≤ k) : ostlerref02_Parse.f k (B (fmt (wkOf (n / 86400)) y m d r)) = some ((n : Int), 0) := by
  obtain ⟨b0, b1, b2, b3, b4, b5⟩ := pt_bd h
  obtain ⟨f0, f1, f2, f3, f4, f5, f6, f7, f8, f9⟩ := fmt_shape (wkOf (n / 86400)) (wkOf_len _) y m d r b2
  have cut : ∀ (l t : List UInt8) (p c : Nat), (l.drop p).take c = t → l.drop p = t ++ l.drop (p + c) := by
    intro l t p c e
    rw [← e, ← List.drop_drop]
    exact (List.take_append_drop c (l.drop p)).symm
  unfold ostlerref02_Parse.f
  have hsz : (B (fmt (wkOf (n / 86400)) y m d r)).size = 29 := by rw [B_size, f0]
  rw [if_pos (by omega)]
  have h0 : ostlerref02_digits.f k (B (fmt (wkOf (n / 86400)) y m d r)) 5 2 = some (((d + 1) : Nat) : Int) := digits_two _ 5 (d + 1) _ (by omega) f0 (cut _ _ _ _ f2) (k := k) (by omega)
  have h1 : ostlerref02_digits.f k (B (fmt (wkOf (n / 86400)) y m d r)) 12 4 = some ((y : Nat) : Int) := digits_four _ 12 y _ (by omega) f0 (cut _ _ _ _ f1) (k := k) (by omega)
  have h2 : ostlerref02_digits.f k (B (fmt (wkOf (n / 86400)) y m d r)) 17 2 = some (((r / 3600) : Nat) : Int) := digits_two _ 17 (r / 3600) _ (by omega) f0 (cut _ _ _ _ f3) (k := k) (by omega)
  have h3 : ostlerref02_digits.f k (B (fmt (wkOf (n / 86400)) y m d r)) 20 2 = some (((r / 60 % 60) : Nat) : Int) := digits_two _ 20 (r / 60 % 60) _ (by omega) f0 (cut _ _ _ _ f4) (k := k) (by omega)
  have h4 : ostlerref02_digits.f k (B (fmt (wkOf (n / 86400)) y m d r)) 23 2 = some (((r % 60) : Nat) : Int) := digits_two _ 23 (r % 60) _ (by omega) f0 (cut _ _ _ _ f5) (k := k) (by omega)
  rw [h0, Option.bind_some, h1, Option.bind_some, h2, Option.bind_some, h3, Option.bind_some, h4, Option.bind_some]
  obtain ⟨q, k', a1, a2, a3, a4, a5, a6⟩ := name_loop (B (fmt (wkOf (n / 86400)) y m d r)) hsz ((d + 1 : Nat) : Int) y ((r / 3600 : Nat) : Int) ((r / 60 % 60 : Nat) : Int) ((r % 60 : Nat) : Int) 12 0 (k - 13) rfl
  rw [show k - 13 + 12 + 1 = k by omega, show (((0 + 1 : Nat)) : Int) = 1 from rfl] at a6
  rw [show (⟨#[74, 97, 110, 70, 101, 98, 77, 97, 114, 65, 112, 114, 77, 97, 121, 74, 117, 110, 74, 117, 108, 65, 117, 103, 83, 101, 112, 79, 99, 116, 78, 111, 118, 68, 101, 99]⟩ : ByteArray) = B monthsL from rfl, a6]
  have hmo : ((B (fmt (wkOf (n / 86400)) y m d r)).extract 8 11).data.toList = moOf m := by rw [B_extract, B_toList]; exact f6
  have hqm : q = m := by
    rcases Nat.lt_trichotomy q m with hlt | heq | hgt
    · have := a4 (by omega); rw [hmo] at this; exact (moOf_inj b2 (by omega) this).symm
    · exact heq
    · exact absurd hmo (a5 m (by omega) hgt)
  subst hqm
  have hb := sec_bd h
  have hs := sec_sum h
  obtain ⟨kk, rfl⟩ : ∃ kk, k' = kk + 2 := ⟨k' - 2, by omega⟩
  rcases ref_rest (B (fmt (wkOf (n / 86400)) y q d r)) ((d + 1 : Nat) : Int) y ((r / 3600 : Nat) : Int) ((r / 60 % 60 : Nat) : Int) ((r % 60 : Nat) : Int) q (kk + 2) (by omega) a2 (by omega) (by omega) with ⟨_, e⟩ | ⟨k2, y2, c1, c2, c3, c4, c5, e⟩
  · exact absurd e (by omega)
  · obtain rfl : y2 = y := by omega
    rw [e]
    unfold refFin
    have hsec : (wrap64 ((wrap64 ((wrap64 ((wrap64 (86400 * (((d + 1 : Nat) : Int) - 1 + Cal.U y2 + Cal.ah q (Cal.lp y2)))) + (wrap64 (3600 * ((r / 3600 : Nat) : Int))))) + (wrap64 (60 * ((r / 60 % 60 : Nat) : Int))))) + ((r % 60 : Nat) : Int))) = n := by
      have g2 : r / 3600 ≤ 24 := by omega
      have g3 : r / 60 % 60 ≤ 60 := by omega
      have g4 : r % 60 ≤ 60 := by omega
      clear e a6 h0 h1 h2 h3 h4
      generalize r / 3600 = p2 at *
      generalize r / 60 % 60 = p3 at *
      generalize r % 60 = p4 at *
      generalize Cal.U y2 = u at *
      generalize Cal.ah q (Cal.lp y2) = a at *
      rw [wrap64_of_fits (n := 86400 * (((d + 1 : Nat) : Int) - 1 + u + a)) (by omega) (by omega), wrap64_of_fits (n := 3600 * (p2 : Int)) (by omega) (by omega), wrap64_of_fits (n := 60 * (p3 : Int)) (by omega) (by omega), wrap64_of_fits (n := 86400 * (((d + 1 : Nat) : Int) - 1 + u + a) + 3600 * (p2 : Int)) (by omega) (by omega), wrap64_of_fits (n := 86400 * (((d + 1 : Nat) : Int) - 1 + u + a) + 3600 * (p2 : Int) + 60 * (p3 : Int)) (by omega) (by omega), wrap64_of_fits (by omega) (by omega)]
      omega
    rw [hsec, ref_Format_is h c1, Option.bind_some, if_pos rfl, if_pos rfl]
end Go.Proofs.YtbbcnmdifiblfaaDoor.Q
