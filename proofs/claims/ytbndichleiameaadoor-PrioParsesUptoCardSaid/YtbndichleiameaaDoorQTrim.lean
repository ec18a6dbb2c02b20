/- A text without blanks at its ends, as the second package tells it. -/
import Derived.Test.YtbndichleiameaaDoorQ0
import Derived.Test.YtbndichleiameaaDoorPPx10
import Derived.Test.YtbndichleiameaaDoorPPxEstringsTrim
namespace Go.Proofs.YtbndichleiameaaDoor.Q
set_option linter.unusedVariables false
set_option linter.unusedSimpArgs false
open Go.RowKit Go.Proofs.YtbndichleiameaaDoorW.PrintWords Go.Proofs.YtbndichleiameaaDoorW.PrintLast Go.Proofs.YtbndichleiameaaDoorW.PrintMore
open PP
def blankB (b : UInt8) : Bool := b == 32 || b == 9
theorem blank_some : ∀ b : UInt8, ostlerref01_Blank.f (b.toNat : Int) = some (blankB b) := all8 (by decide +kernel)
theorem contains_blank : ∀ b : UInt8, ([32, 9] : List UInt8).contains b = blankB b := all8 (by decide +kernel)
theorem trim_both (p : UInt8 → Bool) : ∀ l : List UInt8, ((l.dropWhile p).reverse.dropWhile p).reverse = ((l.reverse.dropWhile p).reverse).dropWhile p
  | [] => rfl
  | a :: t => by
    have ih := trim_both p t
    rw [List.reverse_cons, List.dropWhile_append]
    cases ha : p a with
    | true =>
      rw [List.dropWhile_cons_of_pos ha, ih]
      cases he : (t.reverse.dropWhile p).isEmpty with
      | true =>
        rw [if_pos rfl, List.isEmpty_iff.1 he, List.dropWhile_cons_of_pos ha]; rfl
      | false =>
        rw [if_neg (by simp), List.reverse_append, List.reverse_singleton, List.singleton_append, List.dropWhile_cons_of_pos ha]
    | false =>
      have hna : ¬ p a = true := by simp [ha]
      rw [List.dropWhile_cons_of_neg hna, List.reverse_cons, List.dropWhile_append]
      cases he : (t.reverse.dropWhile p).isEmpty with
      | true =>
        rw [if_pos rfl, List.dropWhile_cons_of_neg hna, List.reverse_singleton, List.dropWhile_cons_of_neg hna]
      | false =>
        rw [if_neg (by simp), List.reverse_append, List.reverse_singleton, List.singleton_append, List.dropWhile_cons_of_neg hna]
theorem trimS_blank (l : List UInt8) : Lib.trimS l [32, 9] = ((l.reverse.dropWhile blankB).reverse).dropWhile blankB := by
  have e : (fun b => ([32, 9] : List UInt8).contains b) = blankB := funext contains_blank
  unfold Lib.trimS Lib.trimLeftS Lib.trimRightS
  rw [e]
theorem ref_Trim_l1 : ∀ (n : Nat) (s : ByteArray) (k : Nat), s.size = n → n ≤ 140737488355328 → n < k → ∃ r, ostlerref01_Trim.l1 k s = some r ∧ r.data.toList = (s.data.toList.reverse.dropWhile blankB).reverse
  | 0, s, k, h, _, hk => by
    obtain ⟨k, rfl⟩ : ∃ m, k = m + 1 := ⟨k - 1, by omega⟩
    unfold ostlerref01_Trim.l1
    rw [if_neg (by omega)]
    have e : s.data.toList = [] := by rw [← List.length_eq_zero_iff, sz]; exact h
    exact ⟨s, rfl, by rw [e]; rfl⟩
  | n + 1, s, k, h, hn, hk => by
    obtain ⟨k, rfl⟩ : ∃ m, k = m + 1 := ⟨k - 1, by omega⟩
    have hne : s.data.toList ≠ [] := by intro e; have := congrArg List.length e; rw [sz, List.length_nil] at this; omega
    obtain ⟨t, b, e⟩ : ∃ t b, s.data.toList = t ++ [b] := ⟨_, _, (List.dropLast_concat_getLast hne).symm⟩
    have hlen : t.length = n := by have := congrArg List.length e; rw [sz, List.length_append, List.length_singleton] at this; omega
    have ew : wrap64 ((s.size : Int) - 1) = (n : Int) := by rw [wrap64_of_fits (by omega) (by omega)]; omega
    have hd : s.data.toList.drop n = [b] := by rw [e, ← hlen]; simp
    obtain ⟨h1, h2, _⟩ := dc hd
    unfold ostlerref01_Trim.l1
    rw [if_pos (by omega), ew, if_pos (by omega), if_pos (by omega), h2, blank_some, Option.bind_some]
    rw [e, List.reverse_append, List.reverse_singleton, List.singleton_append]
    cases hb : blankB b with
    | true =>
      rw [if_pos rfl, if_pos (by omega), List.dropWhile_cons_of_pos hb]
      have ex : (s.extract 0 ((n : Int)).toNat).data.toList = t := extract_front e (by omega)
      obtain ⟨r, hr, hr2⟩ := ref_Trim_l1 n (s.extract 0 ((n : Int)).toNat) k (by rw [← sz, ex, hlen]) (by omega) (by omega)
      exact ⟨r, hr, by rw [hr2, ex]⟩
    | false =>
      rw [if_neg (by decide), List.dropWhile_cons_of_neg (by simp [hb])]
      exact ⟨s, rfl, by rw [e]; simp⟩
theorem ref_Trim_l0 : ∀ (n : Nat) (s : ByteArray) (k : Nat), s.size = n → n ≤ 140737488355328 → n + n + 2 < k → ∃ r, ostlerref01_Trim.l0 k s = some r ∧ r.data.toList = ((s.data.toList.dropWhile blankB).reverse.dropWhile blankB).reverse
  | 0, s, k, h, _, hk => by
    obtain ⟨k, rfl⟩ : ∃ m, k = m + 1 + 1 := ⟨k - 2, by omega⟩
    unfold ostlerref01_Trim.l0
    rw [if_neg (by omega)]
    unfold ostlerref01_Trim.j1
    have e : s.data.toList = [] := by rw [← List.length_eq_zero_iff, sz]; exact h
    obtain ⟨r, hr, hr2⟩ := ref_Trim_l1 0 s k h (by omega) (by omega)
    exact ⟨r, hr, by rw [hr2, e]; rfl⟩
  | n + 1, s, k, h, hn, hk => by
    obtain ⟨k, rfl⟩ : ∃ m, k = m + 1 + 1 := ⟨k - 2, by omega⟩
    cases e : s.data.toList with
    | nil => have := congrArg List.length e; rw [sz, List.length_nil] at this; omega
    | cons b t =>
      obtain ⟨h1, h2, _⟩ := dc (i := 0) (show s.data.toList.drop 0 = b :: t from e)
      have h2' : bt s 0 = (b.toNat : Int) := h2
      have hlen : t.length = n := by have := congrArg List.length e; rw [sz, List.length_cons] at this; omega
      unfold ostlerref01_Trim.l0
      rw [if_pos (by omega), if_pos (by omega), h2', blank_some, Option.bind_some]
      cases hb : blankB b with
      | true =>
        rw [if_pos rfl, if_pos (by omega), List.dropWhile_cons_of_pos hb]
        have ex := extract_tail e
        obtain ⟨r, hr, hr2⟩ := ref_Trim_l0 n (s.extract 1 s.size) (k + 1) (by rw [← sz, ex, hlen]) (by omega) (by omega)
        exact ⟨r, hr, by rw [hr2, ex]⟩
      | false =>
        rw [if_neg (by decide), List.dropWhile_cons_of_neg (by simp [hb]), ← e]
        unfold ostlerref01_Trim.j1
        exact ref_Trim_l1 (n + 1) s k h (by omega) (by omega)
theorem ref_Trim_is (s : ByteArray) (hs : s.size ≤ 140737488355328) {k : Nat} (hk : s.size + s.size + 2 < k) : ostlerref01_Trim.f k s = some ⟨(Lib.trimS s.data.toList [32, 9]).toArray⟩ := by
  obtain ⟨r, hr, hr2⟩ := ref_Trim_l0 s.size s k rfl hs hk
  have e : r = ⟨(Lib.trimS s.data.toList [32, 9]).toArray⟩ := ba_ext (by rw [hr2, trim_both, ← trimS_blank])
  rw [← e]; exact hr

end Go.Proofs.YtbndichleiameaaDoor.Q
