/- The calendar in plain numbers: days ahead of a year, days ahead of a month, a second and its parts. -/
import Derived.Test.YtbbcnmdifiblfaaDoorQ0
namespace Go.Proofs.YtbbcnmdifiblfaaDoor.Q
namespace Cal
def lp (y : Int) : Bool := decide (y % 4 = 0) && (decide (y % 100 ≠ 0) || decide (y % 400 = 0))
def U (y : Int) : Int := 365 * (y - 1970) + (y - 1) / 4 - (y - 1) / 100 + (y - 1) / 400 - 477
def ydays (y : Int) : Int := if lp y = true then 366 else 365
theorem U_succ (y : Int) : U (y + 1) = U y + ydays y := by
  unfold U ydays lp
  by_cases h1 : y % 4 = 0 <;> by_cases h2 : y % 100 = 0 <;> by_cases h3 : y % 400 = 0 <;> simp [h1, h2, h3] <;> omega
theorem ydays_bd (y : Int) : 365 ≤ ydays y ∧ ydays y ≤ 366 := by unfold ydays; split <;> omega
theorem U_1970 : U 1970 = 0 := by decide
theorem U_10000 : U 10000 = 2932897 := by decide
theorem U_mono (a : Int) (n : Nat) : U a + 365 * n ≤ U (a + n) := by
  induction n with
  | zero => simp
  | succ n ih => have := U_succ (a + n); have := ydays_bd (a + n); rw [show a + ((n + 1 : Nat) : Int) = a + n + 1 by omega]; omega
theorem U_le {a b : Int} (h : a ≤ b) : U a + 365 * (b - a) ≤ U b := by
  have := U_mono a (b - a).toNat
  rw [show a + (((b - a).toNat : Nat) : Int) = b by omega] at this; omega
theorem U_366 (n : Nat) : U (1970 + n) ≤ 366 * n := by
  induction n with
  | zero => rw [show (1970 : Int) + (0 : Nat) = 1970 by omega, U_1970]; omega
  | succ n ih => have := U_succ (1970 + n); have := ydays_bd (1970 + n); rw [show (1970 : Int) + ((n + 1 : Nat) : Int) = 1970 + n + 1 by omega]; omega
theorem U_uniq {a b d : Int} (ha : U a ≤ d) (ha' : d < U (a + 1)) (hb : U b ≤ d) (hb' : d < U (b + 1)) : a = b := by
  rcases Int.lt_trichotomy a b with h | h | h
  · have := U_le (show a + 1 ≤ b by omega); omega
  · exact h
  · have := U_le (show b + 1 ≤ a by omega); omega
/-- days ahead of a month (from 0 on) -/
def tab : List Int := [0, 31, 59, 90, 120, 151, 181, 212, 243, 273, 304, 334, 365]
def ah (m : Nat) (l : Bool) : Int := tab.getD m 0 + (if l = true ∧ m > 1 then 1 else 0)
def mlen (m : Nat) (l : Bool) : Int := ah (m + 1) l - ah m l
theorem mlen_bd : ∀ m : Fin 12, ∀ l : Bool, 28 ≤ mlen m.val l ∧ mlen m.val l ≤ 31 := by decide
theorem ah_31 : ∀ m : Fin 12, ∀ l : Bool, 0 ≤ ah m.val l ∧ ah m.val l ≤ 31 * m.val ∧ 28 * (m.val : Int) ≤ ah m.val l := by decide
theorem ah_12 (l : Bool) : ah 12 l = if l = true then 366 else 365 := by cases l <;> decide
theorem exists_year (d : Int) (h0 : 0 ≤ d) (h1 : d < 2932897) : ∃ y, 1970 ≤ y ∧ y ≤ 9999 ∧ U y ≤ d ∧ d < U (y + 1) := by
  have key : ∀ n : Nat, ∀ y, 1970 ≤ y → y ≤ 9999 → U y ≤ d → 9999 - y = n → ∃ y, 1970 ≤ y ∧ y ≤ 9999 ∧ U y ≤ d ∧ d < U (y + 1) := by
    intro n
    induction n with
    | zero => intro y a b c e; exact ⟨y, a, b, c, by rw [show y + 1 = 10000 by omega, U_10000]; exact h1⟩
    | succ n ih =>
      intro y a b c e
      by_cases h : d < U (y + 1)
      · exact ⟨y, a, b, c, h⟩
      · exact ih (y + 1) (by omega) (by omega) (by omega) (by omega)
  exact key 8029 1970 (by omega) (by omega) (by rw [U_1970]; exact h0) (by omega)
theorem exists_month (l : Bool) (d : Int) (h0 : 0 ≤ d) (h1 : d < ah 12 l) : ∃ m : Nat, m < 12 ∧ ah m l ≤ d ∧ d < ah (m + 1) l := by
  have key : ∀ n : Nat, ∀ m : Nat, m < 12 → ah m l ≤ d → 11 - m = n → ∃ m : Nat, m < 12 ∧ ah m l ≤ d ∧ d < ah (m + 1) l := by
    intro n
    induction n with
    | zero => intro m a b c; exact ⟨m, a, b, by rw [show m + 1 = 12 by omega]; exact h1⟩
    | succ n ih =>
      intro m a b c
      by_cases h : d < ah (m + 1) l
      · exact ⟨m, a, b, h⟩
      · exact ih (m + 1) (by omega) (by omega) (by omega)
  exact key 11 0 (by omega) (by rw [show ah 0 l = 0 by cases l <;> decide]; exact h0) rfl
theorem ah_le (l : Bool) {a b : Nat} (h : a ≤ b) (hb : b ≤ 12) : ah a l ≤ ah b l := by
  have key : ∀ b : Fin 13, ∀ a : Fin 13, a.val ≤ b.val → ∀ l, ah a.val l ≤ ah b.val l := by decide +kernel
  exact key ⟨b, by omega⟩ ⟨a, by omega⟩ h l
/-- a second and its parts -/
structure Parts (n : Int) (y : Int) (m : Nat) (d : Int) (rest : Int) : Prop where
  y0 : 1970 ≤ y
  y1 : y ≤ 9999
  m1 : m < 12
  d0 : 0 ≤ d
  d1 : d < mlen m (lp y)
  r0 : 0 ≤ rest
  r1 : rest < 86400
  n1 : n = (U y + ah m (lp y) + d) * 86400 + rest
theorem parts_exist (n : Int) (h0 : 0 ≤ n) (h1 : n ≤ 253402300799) : ∃ y m d rest, Parts n y m d rest := by
  obtain ⟨y, a, b, c, e⟩ := exists_year (n / 86400) (by omega) (by omega)
  have hu := U_succ y
  have : n / 86400 - U y < ah 12 (lp y) := by rw [ah_12]; unfold ydays at hu; omega
  obtain ⟨m, p, q, r⟩ := exists_month (lp y) (n / 86400 - U y) (by omega) this
  refine ⟨y, m, n / 86400 - U y - ah m (lp y), n % 86400, a, b, p, by omega, by unfold mlen; omega, by omega, by omega, ?_⟩
  rw [show U y + ah m (lp y) + (n / 86400 - U y - ah m (lp y)) = n / 86400 by omega]; omega
theorem Parts.day {n y m d rest} (h : Parts n y m d rest) : n / 86400 = U y + ah m (lp y) + d ∧ n % 86400 = rest := by
  have := h.n1; have := h.r0; have := h.r1; omega
theorem Parts.day_lt {n y m d rest} (h : Parts n y m d rest) : 0 ≤ ah m (lp y) ∧ ah m (lp y) + d < ydays y ∧ U y ≤ n / 86400 ∧ n / 86400 < U (y + 1) := by
  have h1 := ah_31 ⟨m, h.m1⟩ (lp y)
  have h2 := ah_le (lp y) (show m + 1 ≤ 12 by have := h.m1; omega) (by omega)
  have h3 := h.d1; have h4 := h.d0; have h5 := U_succ y
  unfold mlen at h3
  dsimp only at h1
  rw [ah_12] at h2
  have h6 := h.day.1
  have h7 : ydays y = if lp y = true then 366 else 365 := rfl
  rw [← h7] at h2
  have h8 := h.y0
  refine ⟨by omega, by omega, by omega, by omega⟩
theorem Parts.range {n y m d rest} (h : Parts n y m d rest) : 0 ≤ n ∧ n ≤ 253402300799 := by
  have h1 := h.day_lt
  have h2 := U_le h.y0; rw [U_1970] at h2
  have h3 := U_le (show y + 1 ≤ 10000 by have := h.y1; omega); rw [U_10000] at h3
  have := h.day; have := h.y0; have := h.y1; omega
end Cal
end Go.Proofs.YtbbcnmdifiblfaaDoor.Q
