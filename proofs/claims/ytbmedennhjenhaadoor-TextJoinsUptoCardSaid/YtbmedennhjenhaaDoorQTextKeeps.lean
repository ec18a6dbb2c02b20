/- The plain law of TextKeeps: what small letters and trimming keep. -/
import Derived.Test.YtbmedennhjenhaaDoorQTextLowers
import Derived.Test.YtbmedennhjenhaaDoorPPx28
namespace Go.Proofs.YtbmedennhjenhaaDoor.Q
set_option linter.unusedVariables false
set_option linter.unusedSimpArgs false
open Go.RowKit Go.Proofs.YtbmedennhjenhaaDoorW.PrintWords Go.Proofs.YtbmedennhjenhaaDoorW.PrintLast Go.Proofs.YtbmedennhjenhaaDoorW.PrintMore
open PP

theorem lowB_lowB : ∀ b : UInt8, lowB (lowB b) = lowB b := all8 (by decide +kernel)
theorem tokB_lowB : ∀ b : UInt8, tokB (lowB b) = tokB b := all8 (by decide +kernel)
theorem tokB_valB : ∀ b : UInt8, tokB b = true → valB b = true ∧ blankB b = false := all8 (by decide +kernel)
theorem map_lowB (l : List UInt8) : (l.map lowB).map lowB = l.map lowB := by
  rw [List.map_map]; exact List.map_congr_left fun b _ => lowB_lowB b
theorem all_lowB (l : List UInt8) : (l.map lowB).all tokB = l.all tokB := by
  rw [List.all_map]; congr 1; funext b; exact tokB_lowB b
theorem trimmed_of_tok {l : List UInt8} (h : l.all tokB = true) : ends l = true := by
  cases l with
  | nil => rfl
  | cons b t =>
    rw [List.all_eq_true] at h
    simp [ends, (tokB_valB _ (h b (by simp))).2, (tokB_valB _ (h ((b :: t).getLast (by simp)) (List.getLast_mem _))).2]
theorem dropWhile_twice (p : UInt8 → Bool) (l : List UInt8) : (l.dropWhile p).dropWhile p = l.dropWhile p := by
  induction l with
  | nil => rfl
  | cons a t ih =>
    cases ha : p a with
    | true => rw [List.dropWhile_cons_of_pos ha, ih]
    | false => rw [List.dropWhile_cons_of_neg (by simp [ha]), List.dropWhile_cons_of_neg (by simp [ha])]
theorem trimS_twice (l : List UInt8) : Lib.trimS (Lib.trimS l [32, 9]) [32, 9] = Lib.trimS l [32, 9] := by
  rw [trimS_blank (Lib.trimS l [32, 9]), trimS_blank l, trim_both, List.reverse_reverse, dropWhile_twice, dropWhile_twice]
theorem trimS_length (l : List UInt8) : (Lib.trimS l [32, 9]).length ≤ l.length := by
  rw [trimS_blank]
  have h1 := (List.dropWhile_sublist (p := blankB) (l := (l.reverse.dropWhile blankB).reverse)).length_le
  have h2 := (List.dropWhile_sublist (p := blankB) (l := l.reverse)).length_le
  simp only [List.length_reverse] at h1 h2
  omega
theorem j0_is (s : ByteArray) (hs : s.size ≤ 140737488355328) {k : Nat} (hk : s.size + 62 < k) : ostlerlaw01_TextKeeps.j0 k s (lowerS s) ⟨(Lib.trimS s.data.toList [32, 9]).toArray⟩ false = some true := by
  obtain ⟨k, rfl⟩ : ∃ m, k = m + 1 := ⟨k - 1, by omega⟩
  have hl := lowerS_size s
  have hT : (⟨(Lib.trimS s.data.toList [32, 9]).toArray⟩ : ByteArray).size ≤ s.size := by
    rw [← sz, ← sz]; exact trimS_length _
  have eL : lowerS (lowerS s) = lowerS s := ba_ext (map_lowB _)
  have eS : sameB s (lowerS s) = true := by
    unfold sameB; rw [lowerS_list, map_lowB]; simp
  have eT : (⟨(Lib.trimS (Lib.trimS s.data.toList [32, 9]).toArray.toList [32, 9]).toArray⟩ : ByteArray) = ⟨(Lib.trimS s.data.toList [32, 9]).toArray⟩ := ba_ext (trimS_twice _)
  rw [ostlerlaw01_TextKeeps.j0, if_neg (by decide), Ev_awake01 (by omega), Option.bind_some, if_pos rfl, if_pos (by omega), text_Lower_is _ (by omega), eL, Option.bind_some, if_pos rfl, text_Same_is _ _ hs (by omega), eS, Option.bind_some, if_pos rfl,
    text_Trim_is _ (by omega), Option.bind_some, eT, if_pos rfl, text_Token_is _ (by omega) (by omega), text_Token_is _ (by omega) (by omega), lowerS_list, all_lowB, hl]
  simp
theorem TextKeeps : ostlerlaw01_TextKeeps.Pure := by
  intro s hs
  have hs' : s.size ≤ 140737488355328 := by omega
  have hl := lowerS_size s
  refine ⟨s.size + 64, ?_⟩
  unfold ostlerlaw01_TextKeeps.f
  rw [text_Lower_is _ hs', text_Trim_is _ hs', text_Token_is _ hs' (by omega), text_Value_is _ hs' (by omega)]
  simp only [Option.bind_some]
  rw [text_Token_is (lowerS s) (by omega) (by omega), lowerS_list, all_lowB, hl]
  simp only [Option.bind_some]
  cases ht : s.data.toList.all tokB && decide (0 < s.size) with
  | false => rw [if_neg (by decide)]; exact j0_is s hs' (k := s.size + 64) (by omega)
  | true =>
    have ha : s.data.toList.all tokB = true := (Bool.and_eq_true _ _ ▸ ht).1
    have hv : s.data.toList.all valB = true := by
      rw [List.all_eq_true] at ha ⊢
      exact fun b hb => (tokB_valB b (ha b hb)).1
    have htr : trimmed s = true := by unfold trimmed; rw [trimS_ends]; exact trimmed_of_tok ha
    have hne : ((⟨(Lib.trimS s.data.toList [32, 9]).toArray⟩ : ByteArray).toList != s.toList) = false := by
      rw [Lib.toList_data, Lib.toList_data]
      unfold trimmed at htr
      rw [beq_iff_eq] at htr
      rw [show (⟨(Lib.trimS s.data.toList [32, 9]).toArray⟩ : ByteArray).data.toList = Lib.trimS s.data.toList [32, 9] from rfl, htr]
      simp
    rw [hv, htr, hne]
    exact j0_is s hs' (k := s.size + 64) (by omega)
end Go.Proofs.YtbmedennhjenhaaDoor.Q
