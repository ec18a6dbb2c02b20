/- The plain law of RangesCarry: the ranges' bytes stand in the body of parts, in order; the line stands nowhere in the body. -/
import Derived.Test.YtciibddoejhmlaaDoorQLine
import Derived.Test.YtciibddoejhmlaaDoorQParts
import Derived.Test.YtciibddoejhmlaaDoorRowT
import Derived.Test.YtciibddoejhmlaaDoorPPx19
namespace Go.Proofs.YtciibddoejhmlaaDoor.Q
set_option linter.unusedVariables false
set_option linter.unusedSimpArgs false
open Go.RowKit Go.Proofs.YtciibddoejhmlaaDoorW.PrintWords Go.Proofs.YtciibddoejhmlaaDoorW.PrintLast Go.Proofs.YtciibddoejhmlaaDoorW.PrintMore
open PP
theorem bulk_len' (l : List Rg) : l.length ≤ (l.map PR.bulk25).sum := by
  induction l with
  | nil => simp
  | cons r l ih => rw [List.map_cons, List.sum_cons, List.length_cons]; unfold PR.bulk25 at *; omega
def mid : List UInt8 := [13, 10, 67, 111, 110, 116, 101, 110, 116, 45, 84, 121, 112, 101, 58, 32, 97, 47, 98, 13, 10, 67, 111, 110, 116, 101, 110, 116, 45, 82, 97, 110, 103, 101, 58, 32]
theorem piece_mid (b p : List UInt8) (f t : Nat) : [45, 45] ++ p ++ mid ++ toldL f t b.length ++ [13, 10, 13, 10] ++ List.take (t + 1 - f) (List.drop f b) ++ [13, 10] = pieceL b [97, 47, 98] p ⟨(f : Int), (t : Int)⟩ := by
  unfold pieceL headL mid
  simp only [List.append_assoc, List.cons_append, List.nil_append, Int.toNat_natCast]
theorem carry_loop (b p : List UInt8) (hb : b.length ≤ 1048576) (hp : p.length ≤ 24) (l : List Rg) (hl : l.length ≤ 1048576) (s : List UInt8) (hs : s.length ≤ 6000000000000) (hg : l.all (good b) = true) : ∀ (d i k : Nat) (pre : List UInt8), i + d = l.length → d + 110 ≤ k →
    s = pre ++ (allL b [97, 47, 98] p (l.drop i) ++ ([45, 45] ++ p ++ [45, 45, 13, 10])) → ostlerlaw16_RangesCarry.l0 k (B b) l (B p) (B s) (pre.length : Int) (i : Int) = some true
  | d, i, 0, pre, hi, hk, es => absurd hk (by omega)
  | 0, i, k + 1, pre, hi, hk, es => by
    have hsl : pre.length ≤ s.length := by rw [es, List.length_append]; omega
    rw [ostlerlaw16_RangesCarry.l0, if_neg (by omega), B_size s, if_pos (by omega), if_pos (by omega), B_size p, if_pos (by omega)]
    rw [show (⟨#[45, 45]⟩ : ByteArray) = B [45, 45] from rfl, show (⟨#[45, 45, 13, 10]⟩ : ByteArray) = B [45, 45, 13, 10] from rfl, B_app, B_size, if_pos (by simp only [List.length_append, List.length_cons, List.length_nil]; omega), B_app, Int.toNat_natCast, B_extract, B_toL, B_toL]
    have et : (s.drop pre.length).take (s.length - pre.length) = [45, 45] ++ p ++ [45, 45, 13, 10] := by
      rw [es, List.drop_left, List.drop_of_length_le (show l.length ≤ i by omega), allL, List.nil_append, List.length_append, Nat.add_sub_cancel_left, List.take_length]
    rw [if_pos et, awake16 (by omega)]
    rfl
  | d + 1, i, k + 1, pre, hi, hk, es => by
    have hlt : i < l.length := by omega
    have hr : rd_T25 l (i : Int) = l[i] := by unfold rd_T25; rw [Int.toNat_natCast, List.getD_eq_getElem?_getD, List.getElem?_eq_getElem hlt]; rfl
    have hgi : good b l[i] = true := List.all_eq_true.1 hg _ (List.getElem_mem hlt)
    rw [List.drop_eq_getElem_cons hlt, allL] at es
    rw [ostlerlaw16_RangesCarry.l0, if_pos (by omega), if_pos (by omega), hr]
    generalize l[i] = r at *
    obtain ⟨f, t⟩ := r
    obtain ⟨h0, h1, h2⟩ := (good_iff b f t).1 hgi
    obtain ⟨f, rfl⟩ := Int.eq_ofNat_of_zero_le h0
    obtain ⟨t, rfl⟩ := Int.eq_ofNat_of_zero_le (show 0 ≤ t by omega)
    have hzt := toldL_len f t b.length (by omega) (by omega) (by omega)
    have hm : mid.length = 36 := rfl
    have hP : s.length = pre.length + (pieceL b [97, 47, 98] p ⟨(f : Int), (t : Int)⟩).length + (allL b [97, 47, 98] p (l.drop (i + 1)) ++ ([45, 45] ++ p ++ [45, 45, 13, 10])).length := by
      rw [es]; simp only [List.length_append]; omega
    have hE : (s.drop pre.length).take (pieceL b [97, 47, 98] p ⟨(f : Int), (t : Int)⟩).length = pieceL b [97, 47, 98] p ⟨(f : Int), (t : Int)⟩ := by
      rw [es, List.drop_left, List.append_assoc, List.take_left]
    have hN : s = pre ++ pieceL b [97, 47, 98] p ⟨(f : Int), (t : Int)⟩ ++ (allL b [97, 47, 98] p (l.drop (i + 1)) ++ ([45, 45] ++ p ++ [45, 45, 13, 10])) := by
      rw [es]; simp only [List.append_assoc]
    have heq := piece_mid b p f t
    have ih := carry_loop b p hb hp l hl s hs hg d (i + 1) k (pre ++ pieceL b [97, 47, 98] p ⟨(f : Int), (t : Int)⟩) (by omega) (by omega) hN
    clear es hN hr
    generalize pieceL b [97, 47, 98] p ⟨(f : Int), (t : Int)⟩ = P at *
    generalize (allL b [97, 47, 98] p (l.drop (i + 1)) ++ ([45, 45] ++ p ++ [45, 45, 13, 10])).length = q at *
    dsimp only
    rw [B_size p, if_pos (by omega)]
    rw [show (⟨#[45, 45]⟩ : ByteArray) = B [45, 45] from rfl, show (⟨#[13, 10, 67, 111, 110, 116, 101, 110, 116, 45, 84, 121, 112, 101, 58, 32, 97, 47, 98, 13, 10, 67, 111, 110, 116, 101, 110, 116, 45, 82, 97, 110, 103, 101, 58, 32]⟩ : ByteArray) = B mid from rfl, show (⟨#[13, 10, 13, 10]⟩ : ByteArray) = B [13, 10, 13, 10] from rfl, show (⟨#[13, 10]⟩ : ByteArray) = B [13, 10] from rfl]
    rw [B_app, B_size ([45, 45] ++ p), if_pos (by simp only [List.length_append, List.length_cons, List.length_nil]; omega), B_app]
    rw [B_size b, told_nat f t b.length (by omega) (by omega) (by omega), Option.bind_some, show ([98, 121, 116, 101, 115, 32] ++ Lib.decDigits f ++ [45] ++ Lib.decDigits t ++ [47] ++ Lib.decDigits b.length : List UInt8) = toldL f t b.length from rfl]
    rw [show wrap64 ((t : Int) + 1) = ((t + 1 : Nat) : Int) from w1' (by omega), Int.toNat_natCast, Int.toNat_natCast, Int.toNat_natCast, B_extract]
    simp only [B_app, B_size]
    rw [heq]
    rw [if_pos (by simp only [List.length_append, List.length_cons, List.length_nil]; omega)]
    rw [if_pos (by simp only [List.length_append, List.length_cons, List.length_nil]; omega)]
    rw [if_pos (by omega), if_pos (by omega), if_pos (by omega)]
    rw [if_pos (by simp only [List.length_append, List.length_cons, List.length_nil, List.length_take, List.length_drop]; omega)]
    rw [if_pos (by simp only [List.length_append, List.length_cons, List.length_nil, List.length_take, List.length_drop]; omega)]
    rw [show wrap64 ((s.length : Int) - (pre.length : Int)) = ((s.length - pre.length : Nat) : Int) by rw [wrap64_of_fits (by omega) (by omega)]; omega, if_neg (by omega), if_pos (by omega)]
    rw [show wrap64 ((pre.length : Int) + (P.length : Int)) = ((pre.length + P.length : Nat) : Int) by rw [wrap64_of_fits (by omega) (by omega)]; omega, if_pos (by omega), if_pos (by omega)]
    rw [Int.toNat_natCast, B_extract, B_toL, B_toL, Nat.add_sub_cancel_left, if_pos hE, w1' (by omega)]
    rw [List.length_append] at ih
    exact ih
theorem RangesCarry (a0 : ByteArray) (l : List Rg) (G : ∀ x ∈ l, PR.good25 x) (hb : a0.data.size + (l.map PR.bulk25).sum ≤ 1048576) : ∃ k, ostlerlaw16_RangesCarry.f k a0 l = some true := by
  obtain ⟨b, rfl⟩ : ∃ b, a0 = B b := ⟨_, B_of a0⟩
  have hl := bulk_len' l
  have h0 : (B b).data.size = b.length := B_size b
  obtain ⟨p, p1, p2, p3, p4⟩ := Line_is b (by omega)
  obtain ⟨q1, q2, q3⟩ := p4 5000000 (by omega)
  refine ⟨5000000, ?_⟩
  unfold ostlerlaw16_RangesCarry.f
  rw [q1, Option.bind_some, q3, Option.bind_some, if_neg (by decide), show (⟨#[97, 47, 98]⟩ : ByteArray) = B [97, 47, 98] from rfl, Parts_is b [97, 47, 98] p l (by omega) (by decide) p2 (by omega), Option.bind_some]
  unfold partsR
  by_cases hg : l.all (good b) = true
  · rw [if_pos hg]
    by_cases h1 : l = []
    · rw [if_pos h1, if_neg (show ¬ (1 : Int) = 0 by decide), if_pos (by kernel_rfl), if_pos rfl, awake16 (by omega)]; rfl
    · rw [if_neg h1, if_pos rfl]
      have hz := allL_len b [97, 47, 98] p (by omega) (by decide) p2 l hg
      exact carry_loop b p (by omega) p2 l (by omega) _ (by simp only [List.length_append, List.length_cons, List.length_nil]; omega) hg l.length 0 5000000 [] (by omega) (by omega) (by rw [List.drop_zero, List.nil_append]; simp only [List.append_assoc])
  · rw [if_neg hg, if_neg (show ¬ (1 : Int) = 0 by decide), if_pos (by kernel_rfl), if_pos rfl, awake16 (by omega)]; rfl
end Go.Proofs.YtciibddoejhmlaaDoor.Q
