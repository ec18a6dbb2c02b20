/- The plain law of DateNext: a day later it is as late, and the next day of the week. -/
import Derived.Test.YtbbcnmdifiblfaaDoorQDateA
import Derived.Test.YtbbcnmdifiblfaaDoorPPx18
namespace Go.Proofs.YtbbcnmdifiblfaaDoor.Q
set_option linter.unusedVariables false
set_option linter.unusedSimpArgs false
open Go.RowKit Go.Proofs.YtbbcnmdifiblfaaDoorW.PrintWords Go.Proofs.YtbbcnmdifiblfaaDoorW.PrintLast Go.Proofs.YtbbcnmdifiblfaaDoorW.PrintMore
open PP
def week8L : List UInt8 := [77, 111, 110, 84, 117, 101, 87, 101, 100, 84, 104, 117, 70, 114, 105, 83, 97, 116, 83, 117, 110, 77, 111, 110]
def week8 : ByteArray := ⟨#[77, 111, 110, 84, 117, 101, 87, 101, 100, 84, 104, 117, 70, 114, 105, 83, 97, 116, 83, 117, 110, 77, 111, 110]⟩
def w8 (i : Nat) : List UInt8 := (week8L.drop (3 * i)).take 3
/-- one test of the loop -/
def hit (d : Nat) (i : Nat) : Bool := decide (w8 i = wkOf d) && decide (w8 (i + 1) = wkOf (d + 1))
theorem wk_mod (d : Nat) : wkOf d = wkOf (d % 7) := by unfold wkOf; rw [Nat.mod_mod]
theorem hit_some (d : Nat) : ∃ i, i < 7 ∧ hit d i = true := by
  have key : ∀ j : Fin 7, ∃ i : Fin 7, (decide (w8 i.val = wkOf j.val) && decide (w8 (i.val + 1) = wkOf ((j.val + 1) % 7))) = true := by decide +kernel
  obtain ⟨i, hi⟩ := key ⟨d % 7, Nat.mod_lt _ (by decide)⟩
  refine ⟨i.val, i.isLt, ?_⟩
  unfold hit
  rw [wk_mod d, wk_mod (d + 1), show (d + 1) % 7 = (d % 7 + 1) % 7 by omega]
  exact hi
theorem less_dg : ∀ a b : Fin 10, (dg a.val < dg b.val ↔ a.val < b.val) ∧ (dg a.val = dg b.val ↔ a.val = b.val) := by decide +kernel
theorem less_four (a b : Nat) (ha : a < 10000) (hb : b < 10000) (h : a ≤ b) : (Op.bytesLess (four a) (four b) || four a == four b) = true := by
  unfold four
  have k1 := less_dg ⟨a / 1000, by omega⟩ ⟨b / 1000, by omega⟩
  have k2 := less_dg ⟨a / 100 % 10, by omega⟩ ⟨b / 100 % 10, by omega⟩
  have k3 := less_dg ⟨a / 10 % 10, by omega⟩ ⟨b / 10 % 10, by omega⟩
  have k4 := less_dg ⟨a % 10, by omega⟩ ⟨b % 10, by omega⟩
  dsimp only at k1 k2 k3 k4
  simp only [Op.bytesLess, Bool.or_false, Bool.and_false, Bool.or_eq_true, Bool.and_eq_true, decide_eq_true_eq, beq_iff_eq, List.cons.injEq, and_true, k1.1, k1.2, k2.1, k2.2, k3.1, k3.2, k4.1, k4.2]
  omega
theorem next_end {n y m d r n' y' m' d' : Nat} (h : Pt n y m d r) (h' : Pt n' y' m' d' r) (hn : n' = n + 86400) (k : Nat) (hk : 9000 ≤ k) :
    ostlerlaw02_DateNext.l0 (k + 1) (B (fmt (wkOf (n / 86400)) y m d r)) (B (fmt (wkOf (n' / 86400)) y' m' d' r)) week8 true ((7 : Nat) : Int) = some true := by
  obtain ⟨b0, b1, b2, b3, b4, b5⟩ := pt_bd h
  obtain ⟨c0, c1, c2, c3, c4, c5⟩ := pt_bd h'
  obtain ⟨f0, f1, f2, f3, f4, f5, f6, f7, f8, f9⟩ := fmt_shape (wkOf (n / 86400)) (wkOf_len _) y m d r b2
  obtain ⟨g0, g1, g2, g3, g4, g5, g6, g7, g8, g9⟩ := fmt_shape (wkOf (n' / 86400)) (wkOf_len _) y' m' d' r c2
  have hne : ¬ (((fmt (wkOf (n / 86400)) y m d r).drop 5).take 11 = ((fmt (wkOf (n' / 86400)) y' m' d' r).drop 5).take 11) := by
    intro e
    obtain ⟨rfl, rfl, rfl⟩ := fmt_inj h h' e
    have := h.n1; have := h'.n1; omega
  have hyy : y ≤ y' := by
    rcases Nat.lt_or_ge y' y with hlt | hge
    · have := Cal.U_le (show ((y' : Int) + 1) ≤ y by omega)
      have := h.day_lt; have := h'.day_lt; omega
    · exact hge
  rw [ostlerlaw02_DateNext.l0, if_neg (by decide), awake02 hk, Option.bind_some, if_pos rfl, if_pos rfl, B_size, B_size, f0, g0, if_pos (by decide), if_pos (by decide)]
  simp only [B_extract, Nat.reduceSub]
  rw [f8, g8, List.take_of_length_le (by simp [two]), B_toL, if_pos rfl, if_pos (by decide), if_pos (by decide), if_pos (by decide), B_toL, B_toL, if_neg hne, if_pos (by decide), B_toL, B_toL, f1, g1, less_four y y' (by omega) (by omega) hyy]
theorem next_loop {n y m d r n' y' m' d' : Nat} (h : Pt n y m d r) (h' : Pt n' y' m' d' r) (hn : n' = n + 86400) (k : Nat) (hk : 9000 ≤ k) (i0 : Nat) (hi0 : i0 < 7) (hit0 : hit (n / 86400) i0 = true) :
    ∀ (j i : Nat) (b : Bool), i + j = 7 → (i0 < i → b = true) →
      ostlerlaw02_DateNext.l0 (k + j + 1) (B (fmt (wkOf (n / 86400)) y m d r)) (B (fmt (wkOf (n' / 86400)) y' m' d' r)) week8 b (i : Int) = some true
  | 0, i, b, hij, hb => by
    obtain rfl : i = 7 := by omega
    rw [hb hi0]
    exact next_end h h' hn k hk
  | j + 1, i, b, hij, hb => by
    obtain ⟨b0, b1, b2, b3, b4, b5⟩ := pt_bd h
    obtain ⟨c0, c1, c2, c3, c4, c5⟩ := pt_bd h'
    obtain ⟨f0, f1, f2, f3, f4, f5, f6, f7, f8, f9⟩ := fmt_shape (wkOf (n / 86400)) (wkOf_len _) y m d r b2
    obtain ⟨g0, g1, g2, g3, g4, g5, g6, g7, g8, g9⟩ := fmt_shape (wkOf (n' / 86400)) (wkOf_len _) y' m' d' r c2
    rw [show k + (j + 1) + 1 = (k + j + 1) + 1 by omega, ostlerlaw02_DateNext.l0, if_pos (by omega)]
    by_cases hbt : b = true
    · rw [if_pos hbt, w1 (by omega)]
      exact next_loop h h' hn k hk i0 hi0 hit0 j (i + 1) true (by omega) (fun _ => rfl)
    have e1 : wrap64 (3 * (i : Int)) = ((3 * i : Nat) : Int) := wrapN _ (by omega) (by omega)
    have e2 : wrap64 (((3 * i : Nat) : Int) + 3) = ((3 * i + 3 : Nat) : Int) := wrapN _ (by clear e1; omega) (by clear e1; omega)
    have e3 : wrap64 (((3 * i : Nat) : Int) + 6) = ((3 * i + 6 : Nat) : Int) := wrapN _ (by clear e1 e2; omega) (by clear e1 e2; omega)
    have e4 : (week8.size : Int) = 24 := rfl
    have e5 : week8 = B week8L := rfl
    rw [if_neg hbt, e1, e2, e3, e4, w1 (by clear e1 e2 e3; omega), B_size, B_size, f0, g0]
    clear e1 e2 e3 e4
    rw [if_pos (by omega), if_pos (by omega), if_pos (by omega), if_pos (by omega), if_pos (by omega)]
    rw [e5]
    simp only [Int.toNat_natCast, B_extract, Nat.reduceSub, List.drop_zero]
    rw [f7, g7, show 3 * i + 3 - 3 * i = 3 by omega, show 3 * i + 6 - (3 * i + 3) = 3 by omega, B_toL, B_toL, B_toL, B_toL]
    rw [← e5]
    by_cases hw : (week8L.drop (3 * i)).take 3 = wkOf (n / 86400)
    · rw [if_pos hw, if_pos (by omega), if_pos (by omega), if_pos (by omega), if_pos (by omega)]
      refine next_loop h h' hn k hk i0 hi0 hit0 j (i + 1) _ (by omega) (fun hlt => ?_)
      have hii : i0 = i := by
        rcases Nat.lt_or_ge i0 i with hl | hl
        · exact absurd (hb hl) hbt
        · omega
      subst hii
      unfold hit at hit0
      rw [Bool.and_eq_true, decide_eq_true_eq, decide_eq_true_eq] at hit0
      have e := hit0.2
      unfold w8 at e
      rw [show n' / 86400 = n / 86400 + 1 by omega, ← e, show 3 * (i0 + 1) = 3 * i0 + 3 by omega]
      simp
    · rw [if_neg hw]
      refine next_loop h h' hn k hk i0 hi0 hit0 j (i + 1) _ (by omega) (fun hlt => ?_)
      exfalso
      have hii : i0 = i := by
        rcases Nat.lt_or_ge i0 i with hl | hl
        · exact absurd (hb hl) hbt
        · omega
      subst hii
      unfold hit at hit0
      rw [Bool.and_eq_true, decide_eq_true_eq, decide_eq_true_eq] at hit0
      exact hw hit0.1
theorem DateNext : ostlerlaw02_DateNext.Pure := by
  intro a ha
  refine ⟨9100, ?_⟩
  unfold ostlerlaw02_DateNext.f
  by_cases h : 0 ≤ a ∧ a ≤ 253402214399
  · obtain ⟨N, y, m, d, r, rfl, hp⟩ := pt_exist a h.1 (by omega)
    obtain ⟨N', y', m', d', r', hN, hp'⟩ := pt_exist ((N + 86400 : Nat) : Int) (by omega) (by omega)
    obtain rfl : N' = N + 86400 := by omega
    have hr : r' = r := by have := hp.day; have := hp'.day; omega
    subst hr
    obtain ⟨b0, b1, b2, b3, b4, b5⟩ := pt_bd hp
    obtain ⟨c0, c1, c2, c3, c4, c5⟩ := pt_bd hp'
    obtain ⟨f0, f1, f2, f3, f4, f5, f6, f7, f8, f9⟩ := fmt_shape (wkOf (N / 86400)) (wkOf_len _) y m d r' b2
    obtain ⟨g0, g1, g2, g3, g4, g5, g6, g7, g8, g9⟩ := fmt_shape (wkOf ((N + 86400) / 86400)) (wkOf_len _) y' m' d' r' c2
    rw [if_neg (by omega), show decide ((N : Int) > 253402214399) = false from decide_eq_false (by omega)]
    rw [ostlerlaw02_DateNext.j0, if_neg (by decide), wrapN (N + 86400) (by omega) (by omega), Format_is hp (by decide), Option.bind_some, Format_is hp' (by decide), Option.bind_some, if_pos rfl, if_pos rfl, B_size, B_size, f0, g0, if_pos (show ((29 : Nat) : Int) = 29 from rfl)]
    rw [ostlerlaw02_DateNext.j1, if_neg (by decide)]
    obtain ⟨i0, hi0, hit0⟩ := hit_some (N / 86400)
    exact next_loop hp hp' rfl 9090 (by decide) i0 hi0 hit0 7 0 false rfl (fun hh => by omega)
  · have hj : ostlerlaw02_DateNext.j0 9100 a true = some true := by
      rw [ostlerlaw02_DateNext.j0, if_pos rfl, awake02 (by decide), Option.bind_some]
    by_cases h0 : a < 0
    · rw [if_pos h0]; exact hj
    · rw [if_neg h0, show decide (a > 253402214399) = true from decide_eq_true (by omega)]; exact hj
end Go.Proofs.YtbbcnmdifiblfaaDoor.Q
