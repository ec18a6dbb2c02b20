/- The plain law of RangesExact: one range within the body is just what is asked for. -/
import Derived.Test.YtciibddoejhmlaaDoorQRanges2
import Derived.Test.YtciibddoejhmlaaDoorPPx18
namespace Go.Proofs.YtciibddoejhmlaaDoor.Q
set_option linter.unusedVariables false
set_option linter.unusedSimpArgs false
open Go.RowKit Go.Proofs.YtciibddoejhmlaaDoorW.PrintWords Go.Proofs.YtciibddoejhmlaaDoorW.PrintLast Go.Proofs.YtciibddoejhmlaaDoorW.PrintMore
open PP
theorem exact_yes (a b : Nat) (size : Int) (hab : a ≤ b) (hb : (b : Int) < size) (hs : size ≤ 999999999999999) : ostlerlaw16_RangesExact.j0 1000 a b size false = some true := by
  have l1 := dec_len a (by omega); have l2 := dec_len b (by omega); have l3 := dec_len (b + 1) (by omega)
  rw [ostlerlaw16_RangesExact.j0, if_neg (by decide), ref_decimal_nat a (by omega) (by decide), Option.bind_some, w1' (by omega), ref_decimal_nat b (by omega) (by decide), ref_decimal_nat (b + 1) (by omega) (by decide)]
  rw [show (⟨#[98, 121, 116, 101, 115, 61]⟩ : ByteArray) = B [98, 121, 116, 101, 115, 61] from rfl, show (⟨#[45]⟩ : ByteArray) = B [45] from rfl, show (⟨#[98, 121, 116, 101, 115, 61, 45]⟩ : ByteArray) = B [98, 121, 116, 101, 115, 61, 45] from rfl]
  simp only [B_app, B_size, List.length_append, List.length_cons, List.length_nil, Option.bind_some]
  rw [if_pos (by omega), if_pos (by omega), if_pos (by omega)]
  have p1 := Parse_is ([98, 121, 116, 101, 115, 61] ++ (Lib.decDigits a ++ 45 :: Lib.decDigits b)) size (by simp; omega) (k := 999) (by simp; omega)
  have p2 := Parse_is ([98, 121, 116, 101, 115, 61] ++ (Lib.decDigits a ++ [45])) size (by simp; omega) (k := 999) (by simp; omega)
  have p3 := Parse_is ([98, 121, 116, 101, 115, 61] ++ (45 :: Lib.decDigits (b + 1))) size (by simp; omega) (k := 999) (by simp; omega)
  rw [parse_ab a b size hab hb hs] at p1
  rw [parse_a a size (by omega) hs (by omega), if_pos (by omega)] at p2
  rw [parse_b (b + 1) size (by omega) hs (by omega) (by omega)] at p3
  rw [show [98, 121, 116, 101, 115, 61] ++ Lib.decDigits a ++ [45] ++ Lib.decDigits b = [98, 121, 116, 101, 115, 61] ++ (Lib.decDigits a ++ 45 :: Lib.decDigits b) by simp, p1, Option.bind_some, if_pos (by omega), if_pos (by omega)]
  rw [show [98, 121, 116, 101, 115, 61] ++ Lib.decDigits a ++ [45] = [98, 121, 116, 101, 115, 61] ++ (Lib.decDigits a ++ [45]) by simp, p2, Option.bind_some, if_pos (by omega)]
  rw [show [98, 121, 116, 101, 115, 61, 45] ++ Lib.decDigits (b + 1) = [98, 121, 116, 101, 115, 61] ++ (45 :: Lib.decDigits (b + 1)) by simp, p3, Option.bind_some, if_pos rfl, if_pos rfl]
  rw [ostlerlaw16_RangesExact.j1, if_neg (show ¬ (((0 : Int) != 0) = true) by decide)]
  rw [if_neg (by omega), wrap64_of_fits (n := size - 1) (by omega) (by omega), wrap64_of_fits (n := size - b) (by omega) (by omega), wrap64_of_fits (n := size - b - 1) (by omega) (by omega)]
  rw [show size - ((b + 1 : Nat) : Int) = size - b - 1 by omega, same_one _ _ (by decide), same_one _ _ (by decide), same_one _ _ (by decide), Option.bind_some, Option.bind_some, Option.bind_some, if_pos rfl, if_pos rfl, if_pos rfl, awake16 (by decide)]; rfl
theorem RangesExact : ostlerlaw16_RangesExact.Pure := by
  intro a b size ha hb hs
  refine ⟨1000, ?_⟩
  have hj : ostlerlaw16_RangesExact.j0 1000 a b size true = some true := by rw [ostlerlaw16_RangesExact.j0, if_pos rfl, awake16 (by decide)]; rfl
  unfold ostlerlaw16_RangesExact.f
  by_cases c1 : a < 0
  · rw [if_pos c1]; exact hj
  rw [if_neg c1]
  by_cases c2 : b < a
  · rw [if_pos c2]; exact hj
  rw [if_neg c2]
  by_cases c3 : size ≤ b
  · rw [if_pos c3]; exact hj
  rw [if_neg c3]
  by_cases c4 : size > 999999999999999
  · rw [decide_eq_true c4]; exact hj
  rw [decide_eq_false c4]
  obtain ⟨x, rfl⟩ : ∃ x : Nat, a = x := ⟨a.toNat, by omega⟩
  obtain ⟨y, rfl⟩ : ∃ y : Nat, b = y := ⟨b.toNat, by omega⟩
  exact exact_yes x y size (by omega) (by omega) (by omega)
end Go.Proofs.YtciibddoejhmlaaDoor.Q
