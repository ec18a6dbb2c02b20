/- The chapter's examples of ranges hold. -/
import Derived.Test.YtciibddoejhmlaaGreatDoorQRanges1
import Derived.KernelRfl
import Derived.Test.YtciibddoejhmlaaGreatDoorPPx18
namespace Go.Proofs.YtciibddoejhmlaaGreatDoor.Q
set_option linter.unusedVariables false
set_option linter.unusedSimpArgs false
open Go.RowKit Go.Proofs.YtciibddoejhmlaaGreatDoorW.PrintWords Go.Proofs.YtciibddoejhmlaaGreatDoorW.PrintLast Go.Proofs.YtciibddoejhmlaaGreatDoorW.PrintMore
open PP

theorem told_nat (a b c : Nat) (ha : a < 9223372036854775808) (hb : b < 9223372036854775808) (hc : c < 9223372036854775808) : ranges_Told.f (a : Int) (b : Int) (c : Int) = some (B ([98, 121, 116, 101, 115, 32] ++ Lib.decDigits a ++ [45] ++ Lib.decDigits b ++ [47] ++ Lib.decDigits c)) := by
  have la := dec_len a (by omega); have lb := dec_len b (by omega); have lc := dec_len c (by omega)
  unfold ranges_Told.f
  rw [decimal_nat a ha, decimal_nat b hb, decimal_nat c hc, Option.bind_some, Option.bind_some, Option.bind_some]
  rw [show (⟨#[98, 121, 116, 101, 115, 32]⟩ : ByteArray) = B [98, 121, 116, 101, 115, 32] from rfl, show (⟨#[45]⟩ : ByteArray) = B [45] from rfl, show (⟨#[47]⟩ : ByteArray) = B [47] from rfl]
  simp only [B_app, B_size, List.length_append, List.length_cons, List.length_nil]
  rw [if_pos (by omega), if_pos (by omega), if_pos (by omega), if_pos (by omega), if_pos (by omega)]
theorem awake16 {k : Nat} (hk : 100 ≤ k) : ostlerlaw16_awake.f k = some true := by
  have d1 : Lib.decDigits 1 = [49] := by rw [Lib.decDigits, dif_pos (by decide)]; rfl
  have d0 : Lib.decDigits 0 = [48] := by rw [Lib.decDigits, dif_pos (by decide)]; rfl
  have d2 : Lib.decDigits 2 = [50] := by rw [Lib.decDigits, dif_pos (by decide)]; rfl
  have d5 : Lib.decDigits 5 = [53] := by rw [Lib.decDigits, dif_pos (by decide)]; rfl
  have p1 := Parse_is [98, 121, 116, 101, 115, 61, 48, 45, 48, 44, 32, 50, 48, 45, 51, 48, 32, 44, 45, 49] 10 (by decide) (k := k) (by simp; omega)
  have q1 : ParseL [98, 121, 116, 101, 115, 61, 48, 45, 48, 44, 32, 50, 48, 45, 51, 48, 32, 44, 45, 49] 10 = ([⟨0, 0⟩, ⟨9, 9⟩], 0) := by kernel_rfl
  have p2 := Parse_is [98, 121, 116, 101, 115, 61, 53, 45, 52] 10 (by decide) (k := k) (by simp; omega)
  have q2 : ParseL [98, 121, 116, 101, 115, 61, 53, 45, 52] 10 = ([], 160) := by kernel_rfl
  have t1 := told_nat 1 2 5 (by decide) (by decide) (by decide)
  rw [d1, d2, d5] at t1
  have p3 : ranges_Parts.f (⟨#[104, 101, 108, 108, 111]⟩ : ByteArray) (⟨#[97, 47, 98]⟩ : ByteArray) (⟨#[120]⟩ : ByteArray) [(⟨1, 2⟩ : Rg)] = some (B [45, 45, 120, 13, 10, 67, 111, 110, 116, 101, 110, 116, 45, 84, 121, 112, 101, 58, 32, 97, 47, 98, 13, 10, 67, 111, 110, 116, 101, 110, 116, 45, 82, 97, 110, 103, 101, 58, 32, 98, 121, 116, 101, 115, 32, 49, 45, 50, 47, 53, 13, 10, 13, 10, 101, 108, 13, 10, 45, 45, 120, 45, 45, 13, 10], 0) := by
    unfold ranges_Parts.f
    rw [if_pos (by decide), if_pos (by decide), ranges_Parts.go, if_neg (by decide), if_neg (by decide), if_neg (by decide)]
    have e5 : (((⟨#[104, 101, 108, 108, 111]⟩ : ByteArray).size : Nat) : Int) = ((5 : Nat) : Int) := rfl
    rw [e5, show (1 : Int) = ((1 : Nat) : Int) from rfl, show (2 : Int) = ((2 : Nat) : Int) from rfl, t1, Option.bind_some]
    rfl
  have s1 : ostlerref16_Same.f k [(⟨0, 0⟩ : Rg), ⟨9, 9⟩] [(⟨0, 0⟩ : Rg), ⟨9, 9⟩] = some true := by
    obtain ⟨j, rfl⟩ : ∃ j, k = j + 5 := ⟨k - 5, by omega⟩
    have e5 : ostlerref16_Same.f 5 [(⟨0, 0⟩ : Rg), ⟨9, 9⟩] [(⟨0, 0⟩ : Rg), ⟨9, 9⟩] = some true := by kernel_rfl
    exact at_rounds (g := fun k => ostlerref16_Same.f k [(⟨0, 0⟩ : Rg), ⟨9, 9⟩] [(⟨0, 0⟩ : Rg), ⟨9, 9⟩]) (fun k => ostlerref16_Same.mono _ _ k) (show 5 ≤ j + 5 by omega) e5
  have l1 : ranges_Line.f k (⟨#[120, 112, 97, 114, 116, 48]⟩ : ByteArray) = some (B [112, 97, 114, 116, 49]) := by
    obtain ⟨j, rfl⟩ : ∃ j, k = j + 2 := ⟨k - 2, by omega⟩
    have c0 := decimal_nat 0 (by decide); have c1 := decimal_nat 1 (by decide)
    rw [d0] at c0; rw [d1] at c1
    unfold ranges_Line.f
    rw [ranges_Line.l0, show (0 : Int) = ((0 : Nat) : Int) from rfl, c0, Option.bind_some, if_pos (by decide)]
    have g0 : strings_Contains.f (⟨#[120, 112, 97, 114, 116, 48]⟩ : ByteArray) ((⟨#[112, 97, 114, 116]⟩ : ByteArray) ++ B [48]) = some true := by kernel_rfl
    have g1 : strings_Contains.f (⟨#[120, 112, 97, 114, 116, 48]⟩ : ByteArray) ((⟨#[112, 97, 114, 116]⟩ : ByteArray) ++ B [49]) = some false := by kernel_rfl
    rw [g0, Option.bind_some, if_pos rfl, w1' (by decide), ranges_Line.l0, c1, Option.bind_some, if_pos (by decide), g1, Option.bind_some, if_neg (by decide)]
    rfl
  unfold ostlerlaw16_awake.f
  rw [show (⟨#[98, 121, 116, 101, 115, 61, 48, 45, 48, 44, 32, 50, 48, 45, 51, 48, 32, 44, 45, 49]⟩ : ByteArray) = B [98, 121, 116, 101, 115, 61, 48, 45, 48, 44, 32, 50, 48, 45, 51, 48, 32, 44, 45, 49] from rfl, p1, q1, Option.bind_some, show (⟨#[98, 121, 116, 101, 115, 61, 53, 45, 52]⟩ : ByteArray) = B [98, 121, 116, 101, 115, 61, 53, 45, 52] from rfl, p2, q2, Option.bind_some, p3, Option.bind_some, if_pos rfl, if_pos rfl, if_pos rfl, s1, Option.bind_some, if_pos rfl, B_toL, if_pos rfl, l1, Option.bind_some, B_toL]
  rfl
end Go.Proofs.YtciibddoejhmlaaGreatDoor.Q
