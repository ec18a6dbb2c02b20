/- The plain law of TextTokens: a token, a value and the trimmed ends, as both packages tell them. -/
import Derived.Test.YtbmedennhjenhaaDoorQ0
import Derived.Test.YtbmedennhjenhaaDoorPPx16
namespace Go.Proofs.YtbmedennhjenhaaDoor.Q
set_option linter.unusedVariables false
set_option linter.unusedSimpArgs false
open Go.RowKit Go.Proofs.YtbmedennhjenhaaDoorW.PrintWords Go.Proofs.YtbmedennhjenhaaDoorW.PrintLast Go.Proofs.YtbmedennhjenhaaDoorW.PrintMore
open PP

theorem awake01 : ostlerlaw01_awake.f 60 = some true := by kernel_rfl
theorem Ev_awake01 {k : Nat} (hk : 60 ≤ k) : ostlerlaw01_awake.f k = some true := at_rounds ostlerlaw01_awake.mono hk awake01

def tokset : List UInt8 := [33, 35, 36, 37, 38, 39, 42, 43, 45, 46, 94, 95, 96, 124, 126]
def alnumB (b : UInt8) : Bool := (text_alnum.f (b.toNat : Int)).getD false
def tokB (b : UInt8) : Bool := alnumB b || decide (0 ≤ Lib.indexByte tokset b)
theorem alnum_some : ∀ b : UInt8, text_alnum.f (b.toNat : Int) = some (alnumB b) := all8 (by decide +kernel)
theorem rtoken_some : ∀ b : UInt8, ostlerref01_token.f 1 (b.toNat : Int) = some (tokB b) := all8 (by decide +kernel)
theorem rtoken {k : Nat} (hk : 1 ≤ k) (b : UInt8) : ostlerref01_token.f k (b.toNat : Int) = some (tokB b) := at_rounds (ostlerref01_token.mono _) hk (rtoken_some b)

theorem text_Token_l0 (s : ByteArray) (hs : s.size ≤ 140737488355328) : ∀ (l : List UInt8) (i k : Nat), s.data.toList.drop i = l → i ≤ s.size → l.length < k →
    text_Token.l0 k s (s.size : Int) (i : Int) = some (if l.all tokB = true then s.toList != [] else false)
  | [], i, k, h, hi, hk => by
    obtain ⟨k, rfl⟩ : ∃ m, k = m + 1 := ⟨k - 1, by omega⟩
    have := dn h hi
    unfold text_Token.l0
    rw [if_neg (by omega)]; simp
  | b :: t, i, k, h, hi, hk => by
    obtain ⟨k, rfl⟩ : ∃ m, k = m + 1 := ⟨k - 1, by omega⟩
    obtain ⟨h1, h2, h3⟩ := dc h
    have ih := text_Token_l0 s hs t (i + 1) k h3 (by omega) (by simpa using hk)
    unfold text_Token.l0
    rw [if_pos (by omega), if_pos (by omega), if_pos (by omega), h2, alnum_some b, w1 (by omega), ih]
    unfold strings_IndexByte.f
    rw [u8i]
    simp only [Option.bind_some, List.all_cons, tokB]
    change _ = some (if ((alnumB b || decide (0 ≤ Lib.indexByte tokset b)) && _) = true then _ else _)
    cases ha : alnumB b with
    | true => simp
    | false =>
      by_cases hx : Lib.indexByte tokset b < 0
      · have hz : decide (0 ≤ Lib.indexByte tokset b) = false := decide_eq_false (by omega)
        rw [if_neg (by decide), if_pos (by exact hx), hz]; rfl
      · have hz : decide (0 ≤ Lib.indexByte tokset b) = true := decide_eq_true (by omega)
        rw [if_neg (by decide), if_neg (by exact hx), hz]; rfl
theorem text_Token_is (s : ByteArray) (hs : s.size ≤ 140737488355328) {k : Nat} (hk : s.size < k) : text_Token.f k s = some (s.data.toList.all tokB && decide (0 < s.size)) := by
  unfold text_Token.f
  have := text_Token_l0 s hs s.data.toList 0 k rfl (by omega) (by rw [sz]; omega)
  rw [show ((0 : Nat) : Int) = 0 from rfl] at this
  rw [this]
  have e : (s.toList != []) = decide (0 < s.size) := by
    rw [Bool.eq_iff_iff, bne_iff_ne, ne_eq, lst_nil, decide_eq_true_iff]; omega
  rw [e]
  cases s.data.toList.all tokB <;> rfl

theorem ref_Token_l0 (s : ByteArray) (hs : s.size ≤ 140737488355328) : ∀ (l : List UInt8) (i k : Nat), s.data.toList.drop i = l → i ≤ s.size → l.length + 1 < k →
    ostlerref01_Token.l0 k s (i : Int) = some (l.all tokB && decide (0 < s.size))
  | [], i, k, h, hi, hk => by
    simp only [List.length_nil] at hk
    obtain ⟨k, rfl⟩ : ∃ m, k = m + 1 := ⟨k - 1, by omega⟩
    have := dn h hi
    unfold ostlerref01_Token.l0
    rw [if_neg (by omega)]
    exact congrArg some (by rw [Bool.eq_iff_iff]; simp)
  | b :: t, i, k, h, hi, hk => by
    obtain ⟨k, rfl⟩ : ∃ m, k = m + 1 := ⟨k - 1, by omega⟩
    simp only [List.length_cons] at hk
    obtain ⟨h1, h2, h3⟩ := dc h
    have ih := ref_Token_l0 s hs t (i + 1) k h3 (by omega) (by omega)
    unfold ostlerref01_Token.l0
    rw [if_pos (by omega), if_pos (by omega), h2, rtoken (by omega) b, w1 (by omega), ih]
    rw [List.all_cons]
    cases tokB b <;> rfl
theorem ref_Token_is (s : ByteArray) (hs : s.size ≤ 140737488355328) {k : Nat} (hk : s.size + 1 < k) : ostlerref01_Token.f k s = some (s.data.toList.all tokB && decide (0 < s.size)) := by
  unfold ostlerref01_Token.f
  exact ref_Token_l0 s hs s.data.toList 0 k rfl (by omega) (by rw [sz]; omega)

def valB (b : UInt8) : Bool := (b == 9 || !(b < 32)) && b != 127
theorem val_text : ∀ b : UInt8, (if (b.toNat : Int) < 32 then (if (b.toNat : Int) = 9 then (if (b.toNat : Int) = 127 then false else true) else false) else (if (b.toNat : Int) = 127 then false else true)) = valB b := all8 (by decide +kernel)
theorem val_ref : ∀ b : UInt8, (if (b.toNat : Int) = 9 then (if (b.toNat : Int) = 127 then false else true) else (if (b.toNat : Int) < 32 then false else (if (b.toNat : Int) = 127 then false else true))) = valB b := all8 (by decide +kernel)
def trimmed (s : ByteArray) : Bool := Lib.trimS s.data.toList [32, 9] == s.data.toList
theorem text_Trim_is (s : ByteArray) (hs : s.size ≤ 140737488355328) : text_Trim.f s = some ⟨(Lib.trimS s.data.toList [32, 9]).toArray⟩ := by
  simp [text_Trim.f, strings_Trim.f, show s.size ≤ 9223372036854775807 by omega]
theorem text_Value_l0 (s : ByteArray) (hs : s.size ≤ 140737488355328) : ∀ (l : List UInt8) (i k : Nat), s.data.toList.drop i = l → i ≤ s.size → l.length < k →
    text_Value.l0 k s (s.size : Int) (i : Int) = some (l.all valB && trimmed s)
  | [], i, k, h, hi, hk => by
    obtain ⟨k, rfl⟩ : ∃ m, k = m + 1 := ⟨k - 1, by omega⟩
    have := dn h hi
    unfold text_Value.l0
    rw [if_neg (by omega), text_Trim_is s hs, Option.bind_some, Lib.toList_data, Lib.toList_data]; rfl
  | b :: t, i, k, h, hi, hk => by
    obtain ⟨k, rfl⟩ : ∃ m, k = m + 1 := ⟨k - 1, by omega⟩
    obtain ⟨h1, h2, h3⟩ := dc h
    have ih := text_Value_l0 s hs t (i + 1) k h3 (by omega) (by simpa using hk)
    unfold text_Value.l0
    rw [if_pos (by omega), if_pos (by omega), if_pos (by omega), h2, w1 (by omega), ih, List.all_cons, ← val_text b]
    split <;> split <;> (try split) <;> simp
theorem text_Value_is (s : ByteArray) (hs : s.size ≤ 140737488355328) {k : Nat} (hk : s.size < k) : text_Value.f k s = some (s.data.toList.all valB && trimmed s) := by
  unfold text_Value.f
  exact text_Value_l0 s hs s.data.toList 0 k rfl (by omega) (by rw [sz]; omega)

def blankB (b : UInt8) : Bool := b == 32 || b == 9
theorem blank_some : ∀ b : UInt8, ostlerref01_Blank.f (b.toNat : Int) = some (blankB b) := all8 (by decide +kernel)
theorem contains_blank : ∀ b : UInt8, ([32, 9] : List UInt8).contains b = blankB b := all8 (by decide +kernel)
/-- Both ends are no blanks. -/
def ends (l : List UInt8) : Bool := match l with
  | [] => true
  | b :: t => !blankB b && !blankB ((b :: t).getLast (by simp))
theorem trimS_ends (l : List UInt8) : (Lib.trimS l [32, 9] == l) = ends l := by
  have e : (fun b => ([32, 9] : List UInt8).contains b) = blankB := funext contains_blank
  unfold Lib.trimS Lib.trimLeftS Lib.trimRightS
  rw [e]
  rw [Bool.eq_iff_iff, beq_iff_eq]
  constructor
  · intro h
    cases l with
    | nil => rfl
    | cons b t =>
      have hlen := congrArg List.length h
      have l1 : ((b :: t).reverse.dropWhile blankB).length ≤ (b :: t).length := by
        have := (List.dropWhile_sublist (p := blankB) (l := (b :: t).reverse)).length_le
        simpa using this
      have l2 := (List.dropWhile_sublist (p := blankB) (l := ((b :: t).reverse.dropWhile blankB).reverse)).length_le
      rw [List.length_reverse] at l2
      have e1 : (b :: t).reverse.dropWhile blankB = (b :: t).reverse :=
        (List.dropWhile_sublist (p := blankB) (l := (b :: t).reverse)).eq_of_length (by rw [List.length_reverse]; omega)
      rw [e1, List.reverse_reverse] at h
      have hb : blankB b = false := by
        cases hb : blankB b with
        | false => rfl
        | true =>
          rw [List.dropWhile_cons_of_pos hb] at h
          have := congrArg List.length h
          have := (List.dropWhile_sublist (p := blankB) (l := t)).length_le
          simp at *; omega
      have hl : blankB ((b :: t).getLast (by simp)) = false := by
        have hne : (b :: t) ≠ [] := by simp
        rw [← List.dropLast_concat_getLast hne] at e1
        simp only [List.reverse_append, List.reverse_cons, List.reverse_nil, List.nil_append, List.singleton_append] at e1
        cases hb : blankB ((b :: t).getLast hne) with
        | false => rfl
        | true =>
          rw [List.dropWhile_cons_of_pos hb] at e1
          have := congrArg List.length e1
          have := (List.dropWhile_sublist (p := blankB) (l := (b :: t).dropLast.reverse)).length_le
          simp at *; omega
      simp [ends, hb, hl]
  · intro h
    cases l with
    | nil => rfl
    | cons b t =>
      simp only [ends, Bool.and_eq_true, Bool.not_eq_true'] at h
      have hne : (b :: t) ≠ [] := by simp
      have e1 : (b :: t).reverse.dropWhile blankB = (b :: t).reverse := by
        have e2 : (b :: t).reverse = (b :: t).getLast hne :: (b :: t).dropLast.reverse := by
          conv => lhs; rw [← List.dropLast_concat_getLast hne]
          simp
        rw [e2, List.dropWhile_cons_of_neg (by simp [h.2])]
      rw [e1, List.reverse_reverse, List.dropWhile_cons_of_neg (by simp [h.1])]
theorem ref_Value_l0 (s : ByteArray) (hs : s.size ≤ 140737488355328) : ∀ (l : List UInt8) (i k : Nat), s.data.toList.drop i = l → i ≤ s.size → l.length < k →
    ostlerref01_Value.l0 k s (i : Int) = some (l.all valB && trimmed s)
  | [], i, k, h, hi, hk => by
    obtain ⟨k, rfl⟩ : ∃ m, k = m + 1 := ⟨k - 1, by omega⟩
    have := dn h hi
    unfold ostlerref01_Value.l0
    rw [if_neg (by omega)]
    unfold trimmed
    rw [trimS_ends]
    cases hd : s.data.toList with
    | nil =>
      have : s.size = 0 := by rw [← sz, hd]; rfl
      rw [if_pos (by omega)]; rfl
    | cons b t =>
      have e0 : s.size = t.length + 1 := by rw [← sz, hd]; rfl
      obtain ⟨_, hb, _⟩ := dc (i := 0) (show s.data.toList.drop 0 = b :: t from hd)
      have hl : bt s ((s.size - 1 : Nat) : Int) = ((b :: t).getLast (by simp)).toNat := by
        have h2 : s.data.toList.drop (s.size - 1) = [(b :: t).getLast (by simp)] := by
          rw [hd, e0]; simp only [Nat.add_sub_cancel]
          have e3 := List.dropLast_concat_getLast (l := b :: t) (by simp)
          have e4 : (b :: t).dropLast.length = t.length := by simp
          conv => lhs; rw [← e3]
          rw [List.drop_append_of_le_length (by omega), List.drop_eq_nil_of_le (by omega)]; rfl
        exact (dc h2).2.1
      have hb0 : bt s 0 = (b.toNat : Int) := hb
      have he : (([] : List UInt8).all valB && ends (b :: t)) = (!blankB b && !blankB ((b :: t).getLast (by simp))) := rfl
      rw [if_neg (by omega), if_pos (by omega), hb0, blank_some, he]
      clear he hb hb0
      have ew : wrap64 ((s.size : Int) - 1) = ((s.size - 1 : Nat) : Int) := by rw [wrap64_of_fits (by omega) (by omega)]; omega
      rw [ew, hl, blank_some]
      rw [Option.bind_some, Option.bind_some]
      have q1 : (0 : Int) ≤ ((s.size - 1 : Nat) : Int) := by omega
      have q2 : ((s.size - 1 : Nat) : Int) < (s.size : Int) := by omega
      generalize blankB ((b :: t).getLast _) = y
      cases blankB b with
      | true => rfl
      | false => rw [if_neg (by decide), if_pos q1, if_pos q2]; rfl
  | b :: t, i, k, h, hi, hk => by
    obtain ⟨k, rfl⟩ : ∃ m, k = m + 1 := ⟨k - 1, by omega⟩
    obtain ⟨h1, h2, h3⟩ := dc h
    have ih := ref_Value_l0 s hs t (i + 1) k h3 (by omega) (by simpa using hk)
    unfold ostlerref01_Value.l0
    rw [if_pos (by omega), if_pos (by omega), h2, w1 (by omega), ih, List.all_cons, ← val_ref b]
    split <;> split <;> (try split) <;> simp
theorem ref_Value_is (s : ByteArray) (hs : s.size ≤ 140737488355328) {k : Nat} (hk : s.size < k) : ostlerref01_Value.f k s = some (s.data.toList.all valB && trimmed s) := by
  unfold ostlerref01_Value.f
  exact ref_Value_l0 s hs s.data.toList 0 k rfl (by omega) (by rw [sz]; omega)

theorem TextTokens : ostlerlaw01_TextTokens.Pure := by
  intro s hs
  have hs' : s.size ≤ 140737488355328 := by omega
  refine ⟨s.size + 60, ?_⟩
  unfold ostlerlaw01_TextTokens.f
  rw [Ev_awake01 (by omega), text_Token_is s hs' (by omega), ref_Token_is s hs' (by omega), text_Value_is s hs' (by omega), ref_Value_is s hs' (by omega)]
  simp
end Go.Proofs.YtbmedennhjenhaaDoor.Q
