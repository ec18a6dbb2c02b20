/- A text is cut, and split, at a byte: strings.Cut and strings.Split in the words of lists. -/
import Derived.Test.YtciibddoejhmlaaGreatDoorQDec
import Derived.Lib.IndexMore
import Derived.Lib.Split
import Derived.Lib.SplitLaws
import Derived.Lib.CountLaws
import Derived.Test.YtciibddoejhmlaaGreatDoorPPxEstringsSplit
import Derived.Test.YtciibddoejhmlaaGreatDoorPPxEstringsCut
namespace Go.Proofs.YtciibddoejhmlaaGreatDoor.Q
set_option linter.unusedVariables false
set_option linter.unusedSimpArgs false
open Go.RowKit Go.Proofs.YtciibddoejhmlaaGreatDoorW.PrintWords Go.Proofs.YtciibddoejhmlaaGreatDoorW.PrintLast Go.Proofs.YtciibddoejhmlaaGreatDoorW.PrintMore
open PP

theorem index_one (c : UInt8) : ∀ l : List UInt8, (Lib.index l [c] = -1 ∧ c ∉ l) ∨ ∃ p r, l = p ++ c :: r ∧ c ∉ p ∧ Lib.index l [c] = (p.length : Int)
  | [] => .inl ⟨by unfold Lib.index; rfl, by simp⟩
  | b :: l => by
    unfold Lib.index
    by_cases h : c = b
    · subst h
      exact .inr ⟨[], l, rfl, by simp, by simp [List.isPrefixOf]⟩
    · have hp : ([c] : List UInt8).isPrefixOf (b :: l) = false := by simp [List.isPrefixOf, h]
      rw [hp, if_neg (by decide)]
      rcases index_one c l with ⟨e, hn⟩ | ⟨p, r, rfl, hn, e⟩
      · rw [e, if_pos (by decide)]; exact .inl ⟨rfl, by simp [h, hn]⟩
      · rw [e, if_neg (by simp)]
        exact .inr ⟨b :: p, r, rfl, by simp [h, hn], by simp⟩
theorem cut_one (c : UInt8) (l : List UInt8) : (c ∉ l ∧ Lib.cut l [c] = (l, [], false)) ∨ ∃ p r, l = p ++ c :: r ∧ c ∉ p ∧ Lib.cut l [c] = (p, r, true) := by
  unfold Lib.cut
  rcases index_one c l with ⟨e, hn⟩ | ⟨p, r, rfl, hn, e⟩
  · rw [e, if_neg (by decide)]; exact .inl ⟨hn, rfl⟩
  · refine .inr ⟨p, r, rfl, hn, ?_⟩
    rw [e, if_pos (by omega)]
    simp
/-- a list split at a byte -/
def splitC (c : UInt8) : List UInt8 → List (List UInt8)
  | [] => [[]]
  | b :: l => if b = c then [] :: splitC c l else match splitC c l with
    | h :: t => (b :: h) :: t
    | [] => [[b]]
theorem splitC_none (c : UInt8) : ∀ l : List UInt8, c ∉ l → splitC c l = [l]
  | [], _ => rfl
  | b :: l, h => by
    have h1 : b ≠ c := fun e => h (by simp [e])
    unfold splitC
    rw [if_neg h1, splitC_none c l (fun hm => h (by simp [hm]))]
theorem splitC_hit (c : UInt8) (r : List UInt8) : ∀ p : List UInt8, c ∉ p → splitC c (p ++ c :: r) = p :: splitC c r
  | [], _ => by rw [List.nil_append, splitC, if_pos rfl]
  | b :: p, h => by
    have h1 : b ≠ c := fun e => h (by simp [e])
    rw [List.cons_append, splitC, if_neg h1, splitC_hit c r p (fun hm => h (by simp [hm]))]
theorem splitC_ne (c : UInt8) : ∀ l, splitC c l ≠ []
  | [] => by simp [splitC]
  | b :: l => by
    unfold splitC
    split
    · simp
    · split <;> simp
theorem split_is (c : UInt8) (hc : (B [c]).size = 1) : ∀ (n : Nat) (l : List UInt8), l.length ≤ n → Lib.splitB (B [c]) 0 (Lib.countB (B l) (B [c])) (B l) = (splitC c l).map B
  | n, l, hn => by
    have hi : Lib.indexB (B l) (B [c]) = Lib.index l [c] := rfl
    rcases index_one c l with ⟨e, hm⟩ | ⟨p, r, rfl, hm, e⟩
    · rw [Lib.countB_miss _ _ (hi.trans e), Lib.splitB_zero, splitC_none c l hm]; rfl
    · have hx : (B (p ++ c :: r)).extract (p.length + (B [c]).size) (B (p ++ c :: r)).size = B r := by
        rw [hc, B_extract, B_size]
        congr 1
        rw [show p ++ c :: r = (p ++ [c]) ++ r by simp, List.drop_left' (by simp)]
        rw [List.take_of_length_le (by simp; omega)]
      have hy : (B (p ++ c :: r)).extract 0 (p.length + 0) = B p := by
        rw [B_extract]; congr 1; simp
      rw [Lib.countB_hit _ _ p.length (by omega) (hi.trans e), Nat.add_comm 1, Lib.splitB_hit _ _ _ _ p.length (hi.trans e), hx, hy, splitC_hit c r p hm, List.map_cons]
      cases n with
      | zero => simp at hn
      | succ n =>
        rw [split_is c hc n r (by simp at hn; omega)]
theorem Split_is (c : UInt8) (l : List UInt8) (h : l.length < 4294967281) : strings_Split.f (B l) (B [c]) = some ((splitC c l).map B) := by
  have hc : (B [c]).size = 1 := B_size [c]
  unfold strings_Split.f
  rw [if_pos (by rw [B_size]; exact h), if_pos (by omega), split_is c hc l.length l (Nat.le_refl _)]
theorem Cut_is (c : UInt8) (l : List UInt8) (h : l.length < 4294967281) : strings_Cut.f (B l) (B [c]) = some (B (Lib.cut l [c]).1, B (Lib.cut l [c]).2.1, (Lib.cut l [c]).2.2) := by
  unfold strings_Cut.f
  rw [if_pos (by rw [B_size]; exact h)]; rfl
/-- all pieces are made of the text's bytes, and are no longer than it; there are no more than bytes, and one -/
theorem splitC_mem (c : UInt8) : ∀ l : List UInt8, (splitC c l).length ≤ l.length + 1 ∧ ∀ x ∈ splitC c l, x.length ≤ l.length ∧ ∀ b ∈ x, b ∈ l
  | [] => by simp [splitC]
  | b :: l => by
    obtain ⟨h1, h2⟩ := splitC_mem c l
    unfold splitC
    by_cases hb : b = c
    · rw [if_pos hb]
      refine ⟨by simp; omega, fun x hx => ?_⟩
      rcases List.mem_cons.1 hx with rfl | hx
      · simp
      · have := h2 x hx
        exact ⟨by simp; omega, fun y hy => by simp [this.2 y hy]⟩
    · rw [if_neg hb]
      revert h1 h2
      cases splitC c l with
      | nil => intro h1 h2; exact ⟨by simp, fun x hx => by simp at hx; subst hx; simp⟩
      | cons y t =>
        intro h1 h2
        refine ⟨by simp at h1 ⊢; omega, fun x hx => ?_⟩
        rcases List.mem_cons.1 hx with rfl | hx
        · have := h2 y (by simp)
          refine ⟨by simp; omega, fun z hz => ?_⟩
          rcases List.mem_cons.1 hz with rfl | hz
          · simp
          · simp [this.2 z hz]
        · have := h2 x (by simp [hx])
          exact ⟨by simp; omega, fun z hz => by simp [this.2 z hz]⟩
end Go.Proofs.YtciibddoejhmlaaGreatDoor.Q
