/- What a token and a value are, as the program's functions tell it. -/
import Derived.Test.YtgeekchnolahhaaDoorQ0
import Derived.Test.YtgeekchnolahhaaDoorPPx6
import Derived.Test.YtgeekchnolahhaaDoorPPx8
namespace Go.Proofs.YtgeekchnolahhaaDoor.Q
set_option linter.unusedVariables false
set_option linter.unusedSimpArgs false
open Go.RowKit Go.Proofs.YtgeekchnolahhaaDoorW.PrintWords Go.Proofs.YtgeekchnolahhaaDoorW.PrintLast Go.Proofs.YtgeekchnolahhaaDoorW.PrintMore
open PP
def tokset : List UInt8 := [33, 35, 36, 37, 38, 39, 42, 43, 45, 46, 94, 95, 96, 124, 126]
def alnumB (b : UInt8) : Bool := (text_alnum.f (b.toNat : Int)).getD false
def tokB (b : UInt8) : Bool := alnumB b || decide (0 ≤ Lib.indexByte tokset b)
theorem alnum_some : ∀ b : UInt8, text_alnum.f (b.toNat : Int) = some (alnumB b) := all8 (by decide +kernel)
theorem text_Token_l0 (s : ByteArray) (hs : s.size ≤ 140737488355328) : ∀ (l : List UInt8) (i k : Nat), s.data.toList.drop i = l → i ≤ s.size → l.length < k →
    text_Token.l0 k s (s.size : Int) (i : Int) = some (if l.all tokB = true then s.toList != [] else false)
  | [], i, k, h, hi, hk => by
    obtain ⟨k, rfl⟩ : ∃ m, k = m + 1 := ⟨k - 1, by omega⟩
    have := dn h hi
    unfold text_Token.l0
    rw [if_neg (by omega)]; simp
  | b :: t, i, k, h, hi, hk => by
    obtain ⟨k, rfl⟩ : ∃ m, k = m + 1 := ⟨k - 1, by omega⟩
    obtain ⟨h1, h2, h3⟩ := dc h
    have ih := text_Token_l0 s hs t (i + 1) k h3 (by omega) (by simpa using hk)
    unfold text_Token.l0
    rw [if_pos (by omega), if_pos (by omega), if_pos (by omega), h2, alnum_some b, w1 (by omega), ih]
    unfold strings_IndexByte.f
    rw [u8i]
    simp only [Option.bind_some, List.all_cons, tokB]
    change _ = some (if ((alnumB b || decide (0 ≤ Lib.indexByte tokset b)) && _) = true then _ else _)
    cases ha : alnumB b with
    | true => simp
    | false =>
      by_cases hx : Lib.indexByte tokset b < 0
      · have hz : decide (0 ≤ Lib.indexByte tokset b) = false := decide_eq_false (by omega)
        rw [if_neg (by decide), if_pos (by exact hx), hz]; rfl
      · have hz : decide (0 ≤ Lib.indexByte tokset b) = true := decide_eq_true (by omega)
        rw [if_neg (by decide), if_neg (by exact hx), hz]; rfl
theorem text_Token_is (s : ByteArray) (hs : s.size ≤ 140737488355328) {k : Nat} (hk : s.size < k) : text_Token.f k s = some (s.data.toList.all tokB && decide (0 < s.size)) := by
  unfold text_Token.f
  have := text_Token_l0 s hs s.data.toList 0 k rfl (by omega) (by rw [sz]; omega)
  rw [show ((0 : Nat) : Int) = 0 from rfl] at this
  rw [this]
  have e : (s.toList != []) = decide (0 < s.size) := by
    rw [Bool.eq_iff_iff, bne_iff_ne, ne_eq, lst_nil, decide_eq_true_iff]; omega
  rw [e]
  cases s.data.toList.all tokB <;> rfl

def valB (b : UInt8) : Bool := (b == 9 || !(b < 32)) && b != 127
theorem val_text : ∀ b : UInt8, (if (b.toNat : Int) < 32 then (if (b.toNat : Int) = 9 then (if (b.toNat : Int) = 127 then false else true) else false) else (if (b.toNat : Int) = 127 then false else true)) = valB b := all8 (by decide +kernel)
def trimmed (s : ByteArray) : Bool := Lib.trimS s.data.toList [32, 9] == s.data.toList
theorem text_Trim_is (s : ByteArray) (hs : s.size ≤ 140737488355328) : text_Trim.f s = some ⟨(Lib.trimS s.data.toList [32, 9]).toArray⟩ := by
  simp [text_Trim.f, strings_Trim.f, show s.size ≤ 9223372036854775807 by omega]
theorem text_Value_l0 (s : ByteArray) (hs : s.size ≤ 140737488355328) : ∀ (l : List UInt8) (i k : Nat), s.data.toList.drop i = l → i ≤ s.size → l.length < k →
    text_Value.l0 k s (s.size : Int) (i : Int) = some (l.all valB && trimmed s)
  | [], i, k, h, hi, hk => by
    obtain ⟨k, rfl⟩ : ∃ m, k = m + 1 := ⟨k - 1, by omega⟩
    have := dn h hi
    unfold text_Value.l0
    rw [if_neg (by omega), text_Trim_is s hs, Option.bind_some, Lib.toList_data, Lib.toList_data]; rfl
  | b :: t, i, k, h, hi, hk => by
    obtain ⟨k, rfl⟩ : ∃ m, k = m + 1 := ⟨k - 1, by omega⟩
    obtain ⟨h1, h2, h3⟩ := dc h
    have ih := text_Value_l0 s hs t (i + 1) k h3 (by omega) (by simpa using hk)
    unfold text_Value.l0
    rw [if_pos (by omega), if_pos (by omega), if_pos (by omega), h2, w1 (by omega), ih, List.all_cons, ← val_text b]
    split <;> split <;> (try split) <;> simp
theorem text_Value_is (s : ByteArray) (hs : s.size ≤ 140737488355328) {k : Nat} (hk : s.size < k) : text_Value.f k s = some (s.data.toList.all valB && trimmed s) := by
  unfold text_Value.f
  exact text_Value_l0 s hs s.data.toList 0 k rfl (by omega) (by rw [sz]; omega)

end Go.Proofs.YtgeekchnolahhaaDoor.Q
