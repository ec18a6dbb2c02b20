/- The plain law of RangesWhole: from the first byte on is the whole body; so is a tail as long as it, or longer. -/
import Derived.Test.YtciibddoejhmlaaDoorQRanges2
import Derived.Test.YtciibddoejhmlaaDoorPPx20
namespace Go.Proofs.YtciibddoejhmlaaDoor.Q
set_option linter.unusedVariables false
set_option linter.unusedSimpArgs false
open Go.RowKit Go.Proofs.YtciibddoejhmlaaDoorW.PrintWords Go.Proofs.YtciibddoejhmlaaDoorW.PrintLast Go.Proofs.YtciibddoejhmlaaDoorW.PrintMore
open PP
theorem whole_yes (n m : Nat) (hn : 1 ≤ n) (hn1 : n ≤ 1099511627776) (hm : m ≤ 1099511627776) : ostlerlaw16_RangesWhole.j0 1000 n m false = some true := by
  have l1 := dec_len (n + m) (by omega)
  have d0 : Lib.decDigits 0 = [48] := by rw [Lib.decDigits, dif_pos (by decide)]; rfl
  have p1 := Parse_is ([98, 121, 116, 101, 115, 61] ++ (Lib.decDigits 0 ++ [45])) n (by rw [d0]; simp) (k := 999) (by rw [d0]; simp)
  have p2 := Parse_is ([98, 121, 116, 101, 115, 61] ++ (45 :: Lib.decDigits (n + m))) n (by simp; omega) (k := 999) (by simp; omega)
  have p3 := Parse_is ([98, 121, 116, 101, 115, 61] ++ (Lib.decDigits (n + m) ++ [45])) n (by simp; omega) (k := 999) (by simp; omega)
  rw [parse_a 0 n (by omega) (by omega) (by decide), if_pos (by omega)] at p1
  rw [parse_b (n + m) n (by omega) (by omega) (by omega) (by omega)] at p2
  rw [parse_a (n + m) n (by omega) (by omega) (by omega), if_neg (by omega)] at p3
  have e0 : wrap64 ((n : Int) + m) = ((n + m : Nat) : Int) := by rw [wrap64_of_fits (by omega) (by omega)]; omega
  rw [ostlerlaw16_RangesWhole.j0, if_neg (by decide), Option.bind_some, e0]
  clear e0
  rw [wrap64_of_fits (by omega) (by omega), ref_decimal_nat (n + m) (by omega) (by decide)]
  rw [show (⟨#[98, 121, 116, 101, 115, 61, 48, 45]⟩ : ByteArray) = B ([98, 121, 116, 101, 115, 61] ++ (Lib.decDigits 0 ++ [45])) by rw [d0]; rfl, p1, Option.bind_some, Option.bind_some]
  rw [show (⟨#[98, 121, 116, 101, 115, 61]⟩ : ByteArray) = B [98, 121, 116, 101, 115, 61] from rfl, show (⟨#[45]⟩ : ByteArray) = B [45] from rfl, show (⟨#[98, 121, 116, 101, 115, 61, 45]⟩ : ByteArray) = B [98, 121, 116, 101, 115, 61, 45] from rfl]
  simp only [B_app, B_size, List.length_append, List.length_cons, List.length_nil, Option.bind_some]
  rw [if_pos (by omega)]
  rw [show [98, 121, 116, 101, 115, 61, 45] ++ Lib.decDigits (n + m) = [98, 121, 116, 101, 115, 61] ++ (45 :: Lib.decDigits (n + m)) by simp, p2, Option.bind_some, if_pos (by omega), if_pos (by omega)]
  rw [show [98, 121, 116, 101, 115, 61] ++ Lib.decDigits (n + m) ++ [45] = [98, 121, 116, 101, 115, 61] ++ (Lib.decDigits (n + m) ++ [45]) by simp, p3, Option.bind_some, if_pos trivial, if_pos rfl, if_pos rfl]
  have ez : (if (n : Int) - ((n + m : Nat) : Int) < 0 then (0 : Int) else (n : Int) - ((n + m : Nat) : Int)) = 0 := by
    by_cases h : (n : Int) - ((n + m : Nat) : Int) < 0
    · rw [if_pos h]
    · rw [if_neg h]; omega
  rw [show ((0 : Nat) : Int) = 0 from rfl, same_one _ _ (by decide), Option.bind_some, if_pos rfl, ez, same_one _ _ (by decide), Option.bind_some, if_pos rfl, awake16 (by decide)]; rfl
theorem RangesWhole : ostlerlaw16_RangesWhole.Pure := by
  intro a b ha hb
  refine ⟨1000, ?_⟩
  have hj : ostlerlaw16_RangesWhole.j0 1000 a b true = some true := by rw [ostlerlaw16_RangesWhole.j0, if_pos rfl, awake16 (by decide)]; rfl
  unfold ostlerlaw16_RangesWhole.f
  by_cases c1 : a < 1
  · rw [if_pos c1]; exact hj
  rw [if_neg c1]
  by_cases c2 : b < 0
  · rw [if_pos c2]; exact hj
  rw [if_neg c2]
  by_cases c3 : a > 1099511627776
  · rw [if_pos c3]; exact hj
  rw [if_neg c3]
  by_cases c4 : b > 1099511627776
  · rw [decide_eq_true c4]; exact hj
  rw [decide_eq_false c4]
  obtain ⟨x, rfl⟩ : ∃ x : Nat, a = x := ⟨a.toNat, by omega⟩
  obtain ⟨y, rfl⟩ : ∃ y : Nat, b = y := ⟨b.toNat, by omega⟩
  exact whole_yes x y (by omega) (by omega) (by omega)
end Go.Proofs.YtciibddoejhmlaaDoor.Q
