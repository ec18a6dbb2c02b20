/- What a body of several ranges is: the program's pieces, and the reference's, in the words of lists. -/
import Derived.Test.YtciibddoejhmlaaDoorQRangesA
import Derived.Test.YtciibddoejhmlaaDoorPPxErangesParts
import Derived.Test.YtciibddoejhmlaaDoorPPx16
import Derived.Test.YtciibddoejhmlaaDoorPPx7
namespace Go.Proofs.YtciibddoejhmlaaDoor.Q
set_option linter.unusedVariables false
set_option linter.unusedSimpArgs false
open Go.RowKit Go.Proofs.YtciibddoejhmlaaDoorW.PrintWords Go.Proofs.YtciibddoejhmlaaDoorW.PrintLast Go.Proofs.YtciibddoejhmlaaDoorW.PrintMore
open PP
def toldL (a b c : Nat) : List UInt8 := [98, 121, 116, 101, 115, 32] ++ Lib.decDigits a ++ [45] ++ Lib.decDigits b ++ [47] ++ Lib.decDigits c
theorem toldL_len (a b c : Nat) (ha : a < 9223372036854775808) (hb : b < 9223372036854775808) (hc : c < 9223372036854775808) : (toldL a b c).length ≤ 68 := by
  have la := dec_len a (by omega); have lb := dec_len b (by omega); have lc := dec_len c (by omega)
  unfold toldL
  simp only [List.length_append, List.length_cons, List.length_nil]; omega
theorem ref_told_nat (a b c : Nat) (ha : a < 9223372036854775808) (hb : b < 9223372036854775808) (hc : c < 9223372036854775808) {k : Nat} (hk : 30 < k) : ostlerref16_Told.f k (a : Int) (b : Int) (c : Int) = some (B (toldL a b c)) := by
  have la := dec_len a (by omega); have lb := dec_len b (by omega); have lc := dec_len c (by omega)
  unfold ostlerref16_Told.f
  rw [ref_decimal_nat a ha hk, ref_decimal_nat b hb hk, ref_decimal_nat c hc hk, Option.bind_some, Option.bind_some, Option.bind_some]
  rw [show (⟨#[98, 121, 116, 101, 115, 32]⟩ : ByteArray) = B [98, 121, 116, 101, 115, 32] from rfl, show (⟨#[45]⟩ : ByteArray) = B [45] from rfl, show (⟨#[47]⟩ : ByteArray) = B [47] from rfl]
  simp only [B_app, B_size, List.length_append, List.length_cons, List.length_nil]
  rw [if_pos (by omega), if_pos (by omega), if_pos (by omega), if_pos (by omega), if_pos (by omega)]
  rfl
/-- what stands ahead of a piece's bytes -/
def headL (b kind p : List UInt8) (f t : Nat) : List UInt8 :=
  [45, 45] ++ p ++ [13, 10, 67, 111, 110, 116, 101, 110, 116, 45, 84, 121, 112, 101, 58, 32] ++ kind ++ [13, 10, 67, 111, 110, 116, 101, 110, 116, 45, 82, 97, 110, 103, 101, 58, 32] ++ toldL f t b.length ++ [13, 10, 13, 10]
def pieceL (b kind p : List UInt8) (r : Rg) : List UInt8 := headL b kind p r.f0.toNat r.f1.toNat ++ (b.drop r.f0.toNat).take (r.f1.toNat + 1 - r.f0.toNat) ++ [13, 10]
def good (b : List UInt8) (r : Rg) : Bool := decide (0 ≤ r.f0) && decide (r.f0 ≤ r.f1) && decide (r.f1 < (b.length : Int))
def allL (b kind p : List UInt8) : List Rg → List UInt8
  | [] => []
  | r :: l => pieceL b kind p r ++ allL b kind p l
def partsR (b kind p : List UInt8) (l : List Rg) : ByteArray × Int :=
  if l.all (good b) = true then (if l = [] then (⟨#[]⟩, 1) else (B (allL b kind p l ++ [45, 45] ++ p ++ [45, 45, 13, 10]), 0)) else (⟨#[]⟩, 1)
theorem headL_len (b kind p : List UInt8) (f t : Nat) (hb : b.length ≤ 1048576) (hk : kind.length ≤ 1048576) (hp : p.length ≤ 24) (hf : f < 9223372036854775808) (ht : t < 9223372036854775808) : (headL b kind p f t).length ≤ 1048800 := by
  have := toldL_len f t b.length hf ht (by omega)
  unfold headL
  simp only [List.length_append, List.length_cons, List.length_nil]; omega
theorem good_iff (b : List UInt8) (f t : Int) : good b ⟨f, t⟩ = true ↔ 0 ≤ f ∧ f ≤ t ∧ t < (b.length : Int) := by
  unfold good
  simp only [Bool.and_eq_true, decide_eq_true_eq, and_assoc]
theorem go_is (b kind p : List UInt8) (hb : b.length ≤ 1048576) (hk : kind.length ≤ 1048576) (hp : p.length ≤ 24) : ∀ (l : List Rg) (acc : List UInt8), acc.length + l.length * 2200000 ≤ 5000000000000 →
    ranges_Parts.go (B b) (B kind) (B p) l acc = if l.all (good b) = true then some (some (acc ++ allL b kind p l)) else some none
  | [], acc, _ => by rw [ranges_Parts.go]; simp [allL]
  | ⟨f, t⟩ :: l, acc, h => by
    rw [List.all_cons, ranges_Parts.go]
    by_cases hg : good b ⟨f, t⟩ = true
    · obtain ⟨h0, h1, h2⟩ := (good_iff b f t).1 hg
      obtain ⟨f, rfl⟩ := Int.eq_ofNat_of_zero_le h0
      obtain ⟨t, rfl⟩ := Int.eq_ofNat_of_zero_le (show 0 ≤ t by omega)
      rw [hg, Bool.true_and]
      have hz := headL_len b kind p f t hb hk hp (by omega) (by omega)
      have hpc : ranges_Parts.piece (B b) (B kind) (B p) ⟨(f : Int), (t : Int)⟩ (B (toldL f t b.length)) = pieceL b kind p ⟨(f : Int), (t : Int)⟩ := by
        unfold ranges_Parts.piece pieceL headL
        rw [B_extract, B_toList, B_toList, B_toList, B_toList]
        rw [show ((t : Int) + 1).toNat = t + 1 by omega]
        rfl
      have hpl : (pieceL b kind p ⟨(f : Int), (t : Int)⟩).length ≤ 2200000 := by
        unfold pieceL
        simp only [List.length_append, List.length_cons, List.length_nil, List.length_take, List.length_drop, Int.toNat_natCast]
        omega
      dsimp only
      rw [if_neg (by omega), if_neg (by omega), B_size, if_neg (by omega), told_nat f t b.length (by omega) (by omega) (by omega), Option.bind_some]
      rw [show ([98, 121, 116, 101, 115, 32] ++ Lib.decDigits f ++ [45] ++ Lib.decDigits t ++ [47] ++ Lib.decDigits b.length : List UInt8) = toldL f t b.length from rfl, hpc]
      rw [List.length_cons] at h
      rw [if_pos (by rw [List.length_append]; omega), go_is b kind p hb hk hp l _ (by rw [List.length_append]; omega), allL, List.append_assoc]
    · have hf : good b ⟨f, t⟩ = false := by cases hq : good b ⟨f, t⟩ with | false => rfl | true => exact absurd hq hg
      rw [hf, Bool.false_and, if_neg (show ¬ false = true by decide)]
      rw [good_iff] at hg
      dsimp only
      by_cases h0 : f < 0
      · rw [if_pos h0]
      · rw [if_neg h0]
        by_cases h1 : t < f
        · rw [if_pos h1]
        · rw [if_neg h1, B_size, if_pos (by omega)]
theorem allL_len (b kind p : List UInt8) (hb : b.length ≤ 1048576) (hk : kind.length ≤ 1048576) (hp : p.length ≤ 24) : ∀ l : List Rg, l.all (good b) = true → (allL b kind p l).length ≤ l.length * 2200000
  | [], _ => by simp [allL]
  | ⟨f, t⟩ :: l, h => by
    rw [List.all_cons, Bool.and_eq_true] at h
    have ih := allL_len b kind p hb hk hp l h.2
    obtain ⟨h0, h1, h2⟩ := (good_iff b f t).1 h.1
    have hz := headL_len b kind p f.toNat t.toNat hb hk hp (by omega) (by omega)
    rw [allL, List.length_append, List.length_cons]
    have hpl : (pieceL b kind p ⟨f, t⟩).length ≤ 2200000 := by
      unfold pieceL
      simp only [List.length_append, List.length_cons, List.length_nil, List.length_take, List.length_drop]
      omega
    omega
theorem Parts_is (b kind p : List UInt8) (l : List Rg) (hb : b.length ≤ 1048576) (hk : kind.length ≤ 1048576) (hp : p.length ≤ 24) (hl : l.length ≤ 1048576) : ranges_Parts.f (B b) (B kind) (B p) l = some (partsR b kind p l) := by
  unfold ranges_Parts.f partsR
  rw [B_size, B_size, if_pos (by omega), if_pos (by omega), go_is b kind p hb hk hp l [] (by simp only [List.length_nil]; omega)]
  by_cases h : l.all (good b) = true
  · rw [if_pos h, if_pos h, Option.bind_some]
    dsimp only
    by_cases h1 : l = []
    · rw [if_pos h1, if_pos h1]
    · have hz := allL_len b kind p hb hk hp l h
      rw [if_neg h1, if_neg h1, if_pos (by rw [List.nil_append]; omega)]
      rw [List.nil_append, show (⟨#[45, 45]⟩ : ByteArray) = B [45, 45] from rfl, show (⟨#[45, 45, 13, 10]⟩ : ByteArray) = B [45, 45, 13, 10] from rfl, show (⟨(allL b kind p l).toArray⟩ : ByteArray) = B (allL b kind p l) from rfl]
      simp only [B_app]
  · rw [if_neg h, if_neg h, Option.bind_some]
theorem bytesB (l m : List UInt8) : bytesOf (B l) ++ bytesOf (B m) = bytesOf (B (l ++ m)) := by
  unfold bytesOf; rw [B_toList, B_toList, B_toList, List.map_append]
theorem bytesB_len (l : List UInt8) : (bytesOf (B l)).length = l.length := by unfold bytesOf; rw [B_toList, List.length_map]
theorem bytesB_str (l : List UInt8) : strOfNums (bytesOf (B l)) = B l := by
  apply ba_ext
  rw [← Lib.toList_data, Lib.strOfNums_toList]
  unfold bytesOf
  simp [Lib.bytesOf, B, List.map_map, Function.comp_def]
theorem ref_parts_loop (b kind p : List UInt8) (hb : b.length ≤ 1048576) (hkd : kind.length ≤ 1048576) (hp : p.length ≤ 24) (l : List Rg) (hl : l.length ≤ 1048576) : ∀ (d i k : Nat) (acc : List UInt8), i + d = l.length → d + 40 ≤ k → acc.length + d * 2200000 ≤ 5000000000000 →
    ostlerref16_Parts.l0 k (B b) (B kind) (B p) l (bytesOf (B acc)) (i : Int) = some (if (l.drop i).all (good b) = true then (if l = [] then (⟨#[]⟩, 1) else (B (acc ++ allL b kind p (l.drop i) ++ [45, 45] ++ p ++ [45, 45, 13, 10]), 0)) else (⟨#[]⟩, 1))
  | d, i, 0, acc, hi, hk, ha => absurd hk (by omega)
  | 0, i, k + 1, acc, hi, hk, ha => by
    rw [ostlerref16_Parts.l0, if_neg (by omega), List.drop_of_length_le (by omega), List.all_nil, if_pos rfl]
    by_cases h1 : l = []
    · rw [if_pos (by rw [h1]; rfl), if_pos h1]
    · have : 0 < l.length := List.length_pos_iff.2 h1
      rw [if_neg (by omega), if_neg h1, bytesB_str, show (⟨#[45, 45]⟩ : ByteArray) = B [45, 45] from rfl, show (⟨#[45, 45, 13, 10]⟩ : ByteArray) = B [45, 45, 13, 10] from rfl]
      simp only [B_app, B_size, List.length_append, List.length_cons, List.length_nil, allL, List.append_nil]
      rw [if_pos (by omega), if_pos (by omega), if_pos (by omega)]
  | d + 1, i, k + 1, acc, hi, hk, ha => by
    have hlt : i < l.length := by omega
    have hr : rd_T25 l (i : Int) = l[i] := by unfold rd_T25; rw [Int.toNat_natCast, List.getD_eq_getElem?_getD, List.getElem?_eq_getElem hlt]; rfl
    rw [ostlerref16_Parts.l0, if_pos (by omega), if_pos (by omega), hr, List.drop_eq_getElem_cons hlt, List.all_cons]
    generalize l[i] = r
    obtain ⟨f, t⟩ := r
    by_cases hg : good b ⟨f, t⟩ = true
    · obtain ⟨h0, h1, h2⟩ := (good_iff b f t).1 hg
      obtain ⟨f, rfl⟩ := Int.eq_ofNat_of_zero_le h0
      obtain ⟨t, rfl⟩ := Int.eq_ofNat_of_zero_le (show 0 ≤ t by omega)
      have hz := headL_len b kind p f t hb hkd hp (by omega) (by omega)
      have hzt := toldL_len f t b.length (by omega) (by omega) (by omega)
      have hpl : (pieceL b kind p ⟨(f : Int), (t : Int)⟩).length ≤ 2200000 := by
        unfold pieceL
        simp only [List.length_append, List.length_cons, List.length_nil, List.length_take, List.length_drop, Int.toNat_natCast]
        omega
      rw [hg, Bool.true_and]
      dsimp only
      rw [if_neg (by omega), if_neg (by omega), B_size, if_neg (by omega), ref_told_nat f t b.length (by omega) (by omega) (by omega) (by omega), Option.bind_some, show wrap64 ((t : Int) + 1) = ((t + 1 : Nat) : Int) from w1' (by omega), Int.toNat_natCast, Int.toNat_natCast, B_extract]
      rw [show (⟨#[45, 45]⟩ : ByteArray) = B [45, 45] from rfl, show (⟨#[13, 10, 67, 111, 110, 116, 101, 110, 116, 45, 84, 121, 112, 101, 58, 32]⟩ : ByteArray) = B [13, 10, 67, 111, 110, 116, 101, 110, 116, 45, 84, 121, 112, 101, 58, 32] from rfl, show (⟨#[13, 10, 67, 111, 110, 116, 101, 110, 116, 45, 82, 97, 110, 103, 101, 58, 32]⟩ : ByteArray) = B [13, 10, 67, 111, 110, 116, 101, 110, 116, 45, 82, 97, 110, 103, 101, 58, 32] from rfl, show (⟨#[13, 10, 13, 10]⟩ : ByteArray) = B [13, 10, 13, 10] from rfl, show (⟨#[13, 10]⟩ : ByteArray) = B [13, 10] from rfl]
      rw [B_size, if_pos (by omega), B_app]
      rw [B_size, if_pos (by simp only [List.length_append, List.length_cons, List.length_nil]; omega), B_app]
      rw [B_size, B_size, if_pos (by simp only [List.length_append, List.length_cons, List.length_nil]; omega), B_app]
      rw [B_size, if_pos (by simp only [List.length_append, List.length_cons, List.length_nil]; omega), B_app]
      rw [B_size, B_size, if_pos (by simp only [List.length_append, List.length_cons, List.length_nil]; omega), B_app]
      rw [B_size, if_pos (by simp only [List.length_append, List.length_cons, List.length_nil]; omega), B_app]
      rw [show [45, 45] ++ p ++ [13, 10, 67, 111, 110, 116, 101, 110, 116, 45, 84, 121, 112, 101, 58, 32] ++ kind ++ [13, 10, 67, 111, 110, 116, 101, 110, 116, 45, 82, 97, 110, 103, 101, 58, 32] ++ toldL f t b.length ++ [13, 10, 13, 10] = headL b kind p f t from rfl]
      rw [bytesB_len, B_size, if_pos (by omega), Option.bind_some, if_pos (by omega), if_pos (by omega), if_pos (by omega), bytesB, bytesB_len, B_size, if_pos (by simp only [List.length_append, List.length_take, List.length_drop]; omega), Option.bind_some, bytesB, bytesB_len, if_pos (by simp only [List.length_append, List.length_take, List.length_drop]; omega), bytesB, w1' (by omega)]
      have ep : acc ++ headL b kind p f t ++ List.take (t + 1 - f) (List.drop f b) ++ [13, 10] = acc ++ pieceL b kind p ⟨(f : Int), (t : Int)⟩ := by
        unfold pieceL
        simp only [Int.toNat_natCast, List.append_assoc]
      rw [ep, ref_parts_loop b kind p hb hkd hp l hl d (i + 1) k _ (by omega) (by omega) (by rw [List.length_append]; omega), allL, ← List.append_assoc acc]
    · have hf : good b ⟨f, t⟩ = false := by cases hq : good b ⟨f, t⟩ with | false => rfl | true => exact absurd hq hg
      rw [hf, Bool.false_and, if_neg (show ¬ false = true by decide)]
      rw [good_iff] at hg
      dsimp only
      by_cases h0 : f < 0
      · rw [if_pos h0]
      · rw [if_neg h0]
        by_cases h1 : f > t
        · rw [if_pos h1]
        · rw [if_neg h1, B_size, if_pos (by omega)]
theorem ref_Parts_is (b kind p : List UInt8) (l : List Rg) (hb : b.length ≤ 1048576) (hk : kind.length ≤ 1048576) (hp : p.length ≤ 24) (hl : l.length ≤ 1048576) {k : Nat} (hkk : 1048700 ≤ k) : ostlerref16_Parts.f k (B b) (B kind) (B p) l = some (partsR b kind p l) := by
  unfold ostlerref16_Parts.f partsR
  have := ref_parts_loop b kind p hb hk hp l hl l.length 0 k [] (by omega) (by omega) (by simp only [List.length_nil]; omega)
  rw [List.drop_zero, List.nil_append] at this
  exact this
theorem same_loop (l : List Rg) (hl : l.length ≤ 1048576) : ∀ (d i k : Nat), i + d = l.length → d + 1 ≤ k → ostlerref16_Same.l0 k l l (i : Int) = some true
  | d, i, 0, hi, hk => absurd hk (by omega)
  | 0, i, k + 1, hi, hk => by rw [ostlerref16_Same.l0, if_neg (by omega)]
  | d + 1, i, k + 1, hi, hk => by
    rw [ostlerref16_Same.l0, if_pos (by omega), if_pos (by omega), if_pos (by omega), if_neg (by simp), w1' (by omega)]
    exact same_loop l hl d (i + 1) k (by omega) (by omega)
theorem same_self (l : List Rg) (hl : l.length ≤ 1048576) {k : Nat} (hk : 1048700 ≤ k) : ostlerref16_Same.f k l l = some true := by
  unfold ostlerref16_Same.f
  rw [if_pos rfl]
  exact same_loop l hl l.length 0 k (by omega) (by omega)
end Go.Proofs.YtciibddoejhmlaaDoor.Q
