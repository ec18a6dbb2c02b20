/- The plain law of RangesLie: what is asked for lies within the body, in at most eight pieces. -/
import Derived.Test.YtciibddoejhmlaaDoorQRangesA
import Derived.Test.YtciibddoejhmlaaDoorPPx17
namespace Go.Proofs.YtciibddoejhmlaaDoor.Q
set_option linter.unusedVariables false
set_option linter.unusedSimpArgs false
open Go.RowKit Go.Proofs.YtciibddoejhmlaaDoorW.PrintWords Go.Proofs.YtciibddoejhmlaaDoorW.PrintLast Go.Proofs.YtciibddoejhmlaaDoorW.PrintMore
open PP
/-- a range within a body -/
def Within (size : Int) (r : Rg) : Prop := 0 ≤ r.f0 ∧ r.f0 ≤ r.f1 ∧ r.f1 < size
theorem part_within (l : List UInt8) (size : Int) (h0 : 0 ≤ size) (h1 : size ≤ 9223372036854775807) (hok : (Part l size).2.2.2 = true) (hin : (Part l size).2.2.1 = true) : Within size ⟨(Part l size).1, (Part l size).2.1⟩ := by
  unfold Part at hok hin ⊢
  have b1 := NumR_bd (Lib.cut l [45]).1
  have b2 := NumR_bd (Lib.cut l [45]).2.1
  generalize Lib.cut l [45] = c at *
  obtain ⟨p, r, f⟩ := c
  dsimp only at *
  have e1 : wrap64 (size - 1) = size - 1 := wrap64_of_fits (by omega) (by omega)
  have e2 : wrap64 (size - (NumR r).1) = size - (NumR r).1 := wrap64_of_fits (by clear e1; omega) (by clear e1; omega)
  rw [e1, e2] at hok hin ⊢
  clear e1 e2
  generalize hp : NumR p = np at *
  generalize hr : NumR r = nr at *
  obtain ⟨a, oa⟩ := np
  obtain ⟨b, ob⟩ := nr
  dsimp only at *
  cases f with
  | false => simp at hok
  | true =>
    rw [if_pos rfl] at hok hin ⊢
    by_cases c1 : p = [] ∧ r = []
    · rw [if_pos c1] at hok; simp at hok
    · rw [if_neg c1] at hok hin ⊢
      by_cases c2 : p = []
      · rw [if_pos c2] at hok hin ⊢
        simp only [Bool.and_eq_true, decide_eq_true_eq] at hin
        unfold Within mx
        dsimp only
        split <;> (refine ⟨?_, ?_, ?_⟩ <;> omega)
      · rw [if_neg c2] at hok hin ⊢
        by_cases c3 : r = []
        · rw [if_pos c3] at hok hin ⊢
          simp only [decide_eq_true_eq] at hin
          unfold Within
          dsimp only
          refine ⟨?_, ?_, ?_⟩ <;> omega
        · rw [if_neg c3] at hok hin ⊢
          simp only [decide_eq_true_eq, Bool.and_eq_true] at hin hok
          obtain ⟨_, _, hab⟩ := hok
          unfold Within mn
          dsimp only
          split <;> (refine ⟨?_, ?_, ?_⟩ <;> omega)
theorem parseL_good (size : Int) (h0 : 0 ≤ size) (h1 : size ≤ 9223372036854775807) : ∀ (xs : List (List UInt8)) (acc : List Rg) (n : Nat), acc.length ≤ 8 → (∀ r ∈ acc, Within size r) →
    ((parseL size xs acc n).2 = 0 ∧ (∀ r ∈ (parseL size xs acc n).1, Within size r) ∧ 1 ≤ (parseL size xs acc n).1.length ∧ (parseL size xs acc n).1.length ≤ 8) ∨ ((parseL size xs acc n).2 ≠ 0 ∧ (parseL size xs acc n).2 ≠ 1 ∧ (parseL size xs acc n).1 = [])
  | [], acc, n, ha, hg => by
    unfold parseL
    by_cases c1 : n = 0
    · rw [if_pos c1]; exact .inr ⟨by simp, by simp, rfl⟩
    · rw [if_neg c1]
      by_cases c2 : n > 8
      · rw [if_pos c2]; exact .inr ⟨by simp, by simp, rfl⟩
      · rw [if_neg c2]
        by_cases c3 : acc = []
        · rw [if_pos c3]; exact .inr ⟨by simp, by simp, rfl⟩
        · rw [if_neg c3]; exact .inl ⟨rfl, hg, List.length_pos_iff.2 c3, ha⟩
  | x :: xs, acc, n, ha, hg => by
    unfold parseL
    by_cases c1 : trimL x = []
    · rw [if_pos c1]; exact parseL_good size h0 h1 xs acc n ha hg
    · rw [if_neg c1]
      by_cases c2 : (Part (trimL x) size).2.2.2 = true
      · rw [if_pos c2]
        by_cases c3 : (Part (trimL x) size).2.2.1 = true ∧ acc.length < 8
        · rw [if_pos c3]
          refine parseL_good size h0 h1 xs _ (n + 1) (by simp; omega) (fun r hr => ?_)
          rcases List.mem_append.1 hr with hr | hr
          · exact hg r hr
          · simp at hr; subst hr
            exact part_within (trimL x) size h0 h1 c2 c3.1
        · rw [if_neg c3]; exact parseL_good size h0 h1 xs acc (n + 1) ha hg
      · rw [if_neg c2]; exact .inr ⟨by simp, by simp, rfl⟩
theorem lie_loop (size : Int) (l : List Rg) (hg : ∀ r ∈ l, Within size r) (hl : 1 ≤ l.length) (hl8 : l.length ≤ 8) : ∀ (d i k : Nat), i + d = l.length → d + 101 ≤ k → ostlerlaw16_RangesLie.l0 k size l (i : Int) = some true
  | 0, i, k, hi, hk => by
    obtain ⟨k, rfl⟩ : ∃ m, k = m + 1 := ⟨k - 1, by omega⟩
    rw [ostlerlaw16_RangesLie.l0, if_neg (by omega), if_pos (by omega), if_pos (by omega), awake16 (by omega)]; rfl
  | d + 1, i, k, hi, hk => by
    obtain ⟨k, rfl⟩ : ∃ m, k = m + 1 := ⟨k - 1, by omega⟩
    have hlt : i < l.length := by omega
    have hr : rd_T25 l (i : Int) = l[i] := by unfold rd_T25; rw [Int.toNat_natCast, List.getD_eq_getElem?_getD, List.getElem?_eq_getElem hlt]; rfl
    obtain ⟨w1_, w2_, w3_⟩ := hg l[i] (List.getElem_mem hlt)
    rw [ostlerlaw16_RangesLie.l0, if_pos (by omega), if_pos (by omega), hr, if_neg (by omega), if_neg (by omega), if_neg (by omega), w1' (by omega)]
    exact lie_loop size l hg hl hl8 d (i + 1) k (by omega) (by omega)
theorem RangesLie (s : ByteArray) (size : Int) (hw : (Lit.int .i64 size).wf = true) (hb : s.data.size ≤ 1048576) : ∃ k, ostlerlaw16_RangesLie.f k s size = some true := by
  have hsz := wf64 hw
  obtain ⟨l, rfl⟩ : ∃ l, s = B l := ⟨_, B_of s⟩
  have hl : l.length ≤ 1048576 := by have : (B l).data.size = l.length := B_size l; omega
  refine ⟨2000000, ?_⟩
  unfold ostlerlaw16_RangesLie.f
  rw [Parse_is l size (by omega) (by omega), Option.bind_some]
  unfold ParseL
  by_cases h0 : size < 0
  · rw [if_pos h0, if_neg (by decide), if_pos (by decide), show decide (size ≥ 0) = false from decide_eq_false (by omega), if_pos (by decide), awake16 (by decide)]; rfl
  · rw [if_neg h0]
    by_cases h1 : l.take 6 = [98, 121, 116, 101, 115, 61]
    · rw [if_pos h1]
      rcases parseL_good size (by omega) hsz.2 (splitC 44 (l.drop 6)) [] 0 (by simp) (by simp) with ⟨g1, g2, g3, g4⟩ | ⟨g1, g2, g3⟩
      · rw [if_pos g1]
        exact lie_loop size _ g2 g3 g4 _ 0 _ (Nat.zero_add _) (by omega)
      · rw [if_neg g1, g3, if_pos (by decide), show decide (size ≥ 0) = true from decide_eq_true (by omega), show ((parseL size (splitC 44 (l.drop 6)) [] 0).2 != 1) = true from bne_iff_ne.2 g2, if_pos (by decide), awake16 (by decide)]; rfl
    · rw [if_neg h1, if_neg (by decide), if_pos (by decide), show decide (size ≥ 0) = true from decide_eq_true (by omega), if_pos (by decide), awake16 (by decide)]; rfl
end Go.Proofs.YtciibddoejhmlaaDoor.Q
