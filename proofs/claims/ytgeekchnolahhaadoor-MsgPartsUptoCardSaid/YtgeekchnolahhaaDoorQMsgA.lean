/- msg: what the program's functions come to, field by field; the chapter's example holds. -/
import Derived.Test.YtgeekchnolahhaaDoorQTok
import Derived.KernelRfl
import Derived.Test.YtgeekchnolahhaaDoorPPx9
import Derived.Test.YtgeekchnolahhaaDoorPPx26
import Derived.Test.YtgeekchnolahhaaDoorPPx17
import Derived.Test.YtgeekchnolahhaaDoorPPx22
namespace Go.Proofs.YtgeekchnolahhaaDoor.Q
set_option linter.unusedVariables false
set_option linter.unusedSimpArgs false
open Go.RowKit Go.Proofs.YtgeekchnolahhaaDoorW.PrintWords Go.Proofs.YtgeekchnolahhaaDoorW.PrintLast Go.Proofs.YtgeekchnolahhaaDoorW.PrintMore
open PP
abbrev Fd := S30
theorem awake14_80 : ostlerlaw14_awake.f 80 = some true := by kernel_rfl
theorem awake14 {k : Nat} (hk : 80 ≤ k) : ostlerlaw14_awake.f k = some true := at_rounds ostlerlaw14_awake.mono hk awake14_80
theorem w1' {i : Nat} (h : i < 9223372036854775807) : wrap64 ((i : Int) + 1) = ((i + 1 : Nat) : Int) := by rw [wrap64_of_fits (by omega) (by omega)]; omega
theorem pseudo_some (s : ByteArray) : ∃ b, msg_pseudo.f s = some b := by
  unfold msg_pseudo.f strings_HasPrefix.f stringslite_HasPrefix.f
  by_cases h : (s.size : Int) ≥ ((⟨#[58]⟩ : ByteArray).size : Int)
  · rw [if_pos h, if_pos (by omega), if_pos h]; exact ⟨_, rfl⟩
  · rw [if_neg h]; exact ⟨_, rfl⟩
theorem Bound_some (s : ByteArray) (hs : s.size ≤ 140737488355328) : ∃ b, msg_Bound.f s = some b := by
  unfold msg_Bound.f text_Lower.f
  rw [if_pos hs, Option.bind_some]
  repeat' (first | exact ⟨_, rfl⟩ | split)
theorem plain_some (a b : ByteArray) (ha : a.size ≤ 140737488355328) (hb : b.size ≤ 140737488355328) : ∃ r, ∀ k, a.size < k → b.size < k → msg_plain.f k a b = some r := by
  obtain ⟨c, hc⟩ := Bound_some a ha
  refine ⟨if (a.data.toList.all tokB && decide (0 < a.size)) = true then (if (lowerS a).toList = a.toList then (if (b.data.toList.all valB && trimmed b) = true then !c else false) else false) else false, fun k h1 h2 => ?_⟩
  unfold msg_plain.f text_Lower.f
  rw [text_Token_is a ha h1, Option.bind_some, if_pos ha, Option.bind_some, text_Value_is b hb h2, Option.bind_some, hc, Option.bind_some]
  split
  · split
    · split <;> rfl
    · rfl
  · rfl
/-- what is wrong with a field among trailers -/
theorem trailer_step (f : Fd) (ha : f.f0.size ≤ 140737488355328) (hb : f.f1.size ≤ 140737488355328) : ∃ o : Option Int, (∀ e, o = some e → e ≠ 0) ∧ ∀ (l : List Fd) (i k : Nat) (h : i < l.length), l[i]'h = f → f.f0.size < k → f.f1.size < k → l.length < 4611686018427387904 →
    msg_Trailers.l0 (k + 1) l (l.length : Int) (i : Int) = match o with | some e => some e | none => msg_Trailers.l0 k l (l.length : Int) ((i + 1 : Nat) : Int) := by
  obtain ⟨p, hp⟩ := pseudo_some f.f0
  obtain ⟨q, hq⟩ := plain_some f.f0 f.f1 ha hb
  have unf : ∀ (l : List Fd) (i k : Nat) (h : i < l.length), l[i]'h = f → rd_T30 l (i : Int) = f := fun l i k h he => by
    unfold rd_T30
    rw [Int.toNat_natCast, List.getD, List.getElem?_eq_getElem h, he]; rfl
  by_cases hpt : p = true
  · refine ⟨some 140, by rintro e ⟨⟩; decide, fun l i k h he h1 h2 hl => ?_⟩
    rw [msg_Trailers.l0, if_pos (by omega), if_pos (by omega), if_pos (by omega), unf l i k h he, hp, Option.bind_some, if_pos hpt]
  by_cases hqt : q = true
  case neg =>
    refine ⟨some 143, by rintro e ⟨⟩; decide, fun l i k h he h1 h2 hl => ?_⟩
    rw [msg_Trailers.l0, if_pos (by omega), if_pos (by omega), if_pos (by omega), unf l i k h he, hp, Option.bind_some, if_neg hpt, hq k h1 h2, Option.bind_some, if_neg hqt]
  by_cases hn : f.f0.toList ∈ ([[104, 111, 115, 116], [116, 101], [116, 114, 97, 105, 108, 101, 114], [99, 111, 110, 116, 101, 110, 116, 45, 108, 101, 110, 103, 116, 104], [99, 111, 110, 116, 101, 110, 116, 45, 116, 121, 112, 101], [99, 111, 110, 116, 101, 110, 116, 45, 101, 110, 99, 111, 100, 105, 110, 103], [99, 111, 110, 116, 101, 110, 116, 45, 114, 97, 110, 103, 101], [97, 117, 116, 104, 111, 114, 105, 122, 97, 116, 105, 111, 110], [101, 120, 112, 101, 99, 116], [99, 111, 111, 107, 105, 101], [115, 101, 116, 45, 99, 111, 111, 107, 105, 101]] : List (List UInt8))
  · refine ⟨some 143, by rintro e ⟨⟩; decide, fun l i k h he h1 h2 hl => ?_⟩
    rw [msg_Trailers.l0, if_pos (by omega), if_pos (by omega), if_pos (by omega), unf l i k h he, hp, Option.bind_some, if_neg hpt, hq k h1 h2, Option.bind_some, if_pos hqt]
    simp only [List.mem_cons, List.not_mem_nil, or_false] at hn
    rcases hn with h | h | h | h | h | h | h | h | h | h | h <;> (rw [h]; rfl)
  · refine ⟨none, (by rintro e ⟨⟩), fun l i k h he h1 h2 hl => ?_⟩
    rw [msg_Trailers.l0, if_pos (by omega), if_pos (by omega), if_pos (by omega), unf l i k h he, hp, Option.bind_some, if_neg hpt, hq k h1 h2, Option.bind_some, if_pos hqt]
    simp only [List.mem_cons, List.not_mem_nil, or_false, not_or] at hn
    obtain ⟨n1, n2, n3, n4, n5, n6, n7, n8, n9, n10, n11⟩ := hn
    rw [if_neg n1, if_neg n2, if_neg n3, if_neg n4, if_neg n5, if_neg n6, if_neg n7, if_neg n8, if_neg n9, if_neg n10, if_neg n11, w1' (by omega)]
noncomputable def bad (f : Fd) : Option Int := open Classical in if h : f.f0.size ≤ 140737488355328 ∧ f.f1.size ≤ 140737488355328 then (trailer_step f h.1 h.2).choose else none
theorem bad_ne (f : Fd) (ha : f.f0.size ≤ 140737488355328) (hb : f.f1.size ≤ 140737488355328) (e : Int) (h : bad f = some e) : e ≠ 0 := by
  unfold bad at h; rw [dif_pos ⟨ha, hb⟩] at h
  exact (trailer_step f ha hb).choose_spec.1 e h
theorem bad_step (f : Fd) (ha : f.f0.size ≤ 140737488355328) (hb : f.f1.size ≤ 140737488355328) (l : List Fd) (i k : Nat) (h : i < l.length) (he : l[i]'h = f) (h1 : f.f0.size < k) (h2 : f.f1.size < k) (hl : l.length < 4611686018427387904) :
    msg_Trailers.l0 (k + 1) l (l.length : Int) (i : Int) = match bad f with | some e => some e | none => msg_Trailers.l0 k l (l.length : Int) ((i + 1 : Nat) : Int) := by
  unfold bad; rw [dif_pos ⟨ha, hb⟩]
  exact (trailer_step f ha hb).choose_spec.2 l i k h he h1 h2 hl
noncomputable def trailB : List Fd → Int
  | [] => 0
  | f :: l => match bad f with | some e => e | none => trailB l
def small (l : List Fd) : Prop := ∀ f ∈ l, f.f0.size ≤ 1048576 ∧ f.f1.size ≤ 1048576
theorem trail_loop (l : List Fd) (hs : small l) (hl : l.length ≤ 4194304) : ∀ (m : List Fd) (i k : Nat), l.drop i = m → 1048577 + m.length < k → msg_Trailers.l0 k l (l.length : Int) (i : Int) = some (trailB m)
  | [], i, k, hd, hk => by
    obtain ⟨j, rfl⟩ : ∃ j, k = j + 1 := ⟨k - 1, by omega⟩
    have := List.drop_eq_nil_iff.1 hd
    rw [msg_Trailers.l0, if_neg (by omega)]; rfl
  | f :: m, i, k, hd, hk => by
    rw [List.length_cons] at hk
    obtain ⟨j, rfl⟩ : ∃ j, k = j + 1 := ⟨k - 1, by omega⟩
    have hi : i < l.length := by
      rcases Nat.lt_or_ge i l.length with h | h
      · exact h
      · rw [List.drop_eq_nil_of_le h] at hd; cases hd
    rw [List.drop_eq_getElem_cons hi] at hd
    obtain ⟨e1, e2⟩ := List.cons.inj hd
    have hf := hs f (by rw [← e1]; exact List.getElem_mem hi)
    rw [bad_step f (by omega) (by omega) l i j hi e1 (by omega) (by omega) (by omega), trailB]
    cases bad f with
    | some e => rfl
    | none => exact trail_loop l hs hl m (i + 1) j e2 (by omega)
theorem Trailers_is (l : List Fd) (hs : small l) (hl : l.length ≤ 4194304) {k : Nat} (hk : 1048577 + l.length < k) : msg_Trailers.f k l = some (trailB l) := by
  unfold msg_Trailers.f
  exact trail_loop l hs hl l 0 k rfl hk
theorem trailB_zero (l : List Fd) (hs : small l) : trailB l = 0 ↔ ∀ f ∈ l, bad f = none := by
  induction l with
  | nil => simp [trailB]
  | cons f l ih =>
    have hf := hs f (by simp)
    have ih := ih (fun g hg => hs g (by simp [hg]))
    rw [trailB]
    cases hb : bad f with
    | some e => simp [hb, bad_ne f (by omega) (by omega) e hb]
    | none => simp [hb, ih]
/-- how much a list of fields counts -/
def sizeB (l : List Fd) : Nat := (l.map fun f => f.f0.size + f.f1.size).sum
theorem sizeB_app (a b : List Fd) : sizeB (a ++ b) = sizeB a + sizeB b := by unfold sizeB; rw [List.map_append, List.sum_append]
theorem wsum (a b : Nat) (h : a + b < 9223372036854775807) : wrap64 ((a : Int) + (b : Int)) = ((a + b : Nat) : Int) := by
  rw [wrap64_of_fits (by omega) (by omega)]; omega
theorem size_loop (l : List Fd) (hl : l.length ≤ 4194304) : ∀ (m : List Fd) (i k n : Nat), l.drop i = m → m.length < k → n + sizeB m < 4611686018427387904 → msg_Size.l0 k (n : Int) l (l.length : Int) (i : Int) = some ((n + sizeB m : Nat) : Int)
  | [], i, k, n, hd, hk, hn => by
    obtain ⟨j, rfl⟩ : ∃ j, k = j + 1 := ⟨k - 1, by omega⟩
    have := List.drop_eq_nil_iff.1 hd
    rw [msg_Size.l0, if_neg (by omega)]; rfl
  | f :: m, i, k, n, hd, hk, hn => by
    rw [List.length_cons] at hk
    obtain ⟨j, rfl⟩ : ∃ j, k = j + 1 := ⟨k - 1, by omega⟩
    have hi : i < l.length := by
      rcases Nat.lt_or_ge i l.length with h | h
      · exact h
      · rw [List.drop_eq_nil_of_le h] at hd; cases hd
    have e0 : rd_T30 l (i : Int) = f := by
      rw [List.drop_eq_getElem_cons hi] at hd
      unfold rd_T30
      rw [Int.toNat_natCast, List.getD, List.getElem?_eq_getElem hi, (List.cons.inj hd).1]; rfl
    rw [List.drop_eq_getElem_cons hi] at hd
    obtain ⟨e1, e2⟩ := List.cons.inj hd
    have hz : sizeB (f :: m) = f.f0.size + f.f1.size + sizeB m := by unfold sizeB; rw [List.map_cons, List.sum_cons]
    rw [hz] at hn ⊢
    have b1 : (i : Int) < (l.length : Int) := by omega
    have b2 : (0 : Int) ≤ (i : Int) := by omega
    have b3 : i < 9223372036854775807 := by omega
    have b4 : m.length < j := by omega
    have b5 : n + (f.f0.size + f.f1.size) + sizeB m < 4611686018427387904 := by omega
    have ih := size_loop l hl m (i + 1) j (n + (f.f0.size + f.f1.size)) e2 b4 b5
    rw [msg_Size.l0, if_pos b1, if_pos b2, if_pos b1, e0, wsum _ _ (by omega), wsum _ _ (by omega), w1' b3, ih, Nat.add_assoc]
theorem Size_is (l : List Fd) (hl : l.length ≤ 4194304) (hn : sizeB l ≤ 4194304) {k : Nat} (hk : l.length < k) : msg_Size.f k l = some ((32 * l.length + sizeB l : Nat) : Int) := by
  unfold msg_Size.f
  rw [wrap64_of_fits (by omega) (by omega), show (32 : Int) * (l.length : Int) = ((32 * l.length : Nat) : Int) by omega]
  exact size_loop l hl l 0 k _ rfl hk (by omega)
end Go.Proofs.YtgeekchnolahhaaDoor.Q
