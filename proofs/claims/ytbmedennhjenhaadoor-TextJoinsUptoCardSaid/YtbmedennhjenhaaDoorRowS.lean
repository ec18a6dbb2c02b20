/- Parameters that are rows of strings: from what the row's form tells to what the walks ask. -/
import Derived.Test.YtbmedennhjenhaaDoorRowG
namespace Go.Proofs.YtbmedennhjenhaaDoor.PR
set_option linter.unusedVariables false
open Go.ChangeShapes Go.WideShapes Go.ChangeAt Go.RowKit Go.Proofs.YtbmedennhjenhaaDoorW.PrintWords

theorem laidOut : laidOutB Tryd.prog = true := by kernel_rfl
theorem list_of {α : Type} {P : Nat → α → Prop} : ∀ n : Nat, (∀ i, i < n → ∃ a, P i a) → ∃ l : List α, l.length = n ∧ ∀ i a, l[i]? = some a → P i a
  | 0, _ => ⟨[], rfl, fun i a h => by simp at h⟩
  | n + 1, h => by
    obtain ⟨l, h1, h2⟩ := list_of n (fun i hi => h i (by omega))
    obtain ⟨a, ha⟩ := h n (by omega)
    refine ⟨l ++ [a], by simp [h1], fun i b hb => ?_⟩
    by_cases hi : i < l.length
    · rw [List.getElem?_append_left hi] at hb; exact h2 i b hb
    · rw [List.getElem?_append_right (by omega)] at hb
      have : i - l.length = 0 := by
        rcases Nat.eq_zero_or_pos (i - l.length) with h | h
        · exact h
        · rw [List.getElem?_eq_none (by simp; omega)] at hb; cases hb
      rw [this] at hb
      simp at hb
      have : i = n := by omega
      rw [this, ← hb]; exact ha
theorem cells_one {W : World} {base : Nat} {a : Addr} {cs : List Value} (h : W.cells? base a 1 = some cs) : ∃ v, cs = [v] ∧ W.cell? a = some v := by
  unfold World.cells? at h
  split at h
  · rw [show List.range 1 = [0] from rfl] at h
    simp only [List.mapM_cons, List.mapM_nil, Option.bind_eq_bind, Option.bind_eq_some_iff, Option.pure_def, Option.some.injEq] at h
    obtain ⟨v, hv, r, hr, e⟩ := h
    subst hr
    have e0 : a.add 0 = a := by cases a; simp [Addr.add]
    rw [e0] at hv
    exact ⟨v, e.symm, hv⟩
  · cases h
theorem open_strs {H : Type} {enc : TypeId × Value → H} {P : Program} {W : World} {base : Nat} {t e : TypeId} {v : Value} {d : DataW H} {p : List MemPlace}
    (ht : P.underlying t = some (.slice e)) (he : P.underlying e = some .string) (hce : P.cellsOf e = 1)
    (hval : Value.okWide P W .any base t v) (h : DataW.Trod enc P W 0 (fun _ => true) true t v d p) :
    ∃ (A : Option Addr) (cap : Nat) (l : List ByteArray), v = .slice A l.length cap ∧ l.length ≤ cap ∧ Kd.string.C W A l.length l ∧
      ((d = .nil ∧ l = []) ∨ ∃ sp, d = .slice (l.map fun s => .lit (.string s.data.toList)) sp) := by
  obtain ⟨A, len, cap, rfl⟩ := okWide_slice ht hval
  obtain ⟨fuel, hf⟩ := h
  rcases DataW.trod_slice ht hf with ⟨hc, hx⟩ | ⟨a, len', cap', elems, rest, n, rfl, hc, hx, _, hlc, hcm, hel, hcell, _, _⟩
  · simp [Value.cells] at hc
    obtain ⟨rfl, rfl, rfl⟩ := hc
    exact ⟨none, 0, [], rfl, Nat.le_refl _, ⟨rfl, by simp, fun h => absurd h (by simp)⟩, .inl ⟨(Prod.mk.inj hx).1, rfl⟩⟩
  · simp [Value.cells] at hc
    obtain ⟨rfl, rfl, rfl⟩ := hc
    have key : ∀ i, i < len → ∃ s : ByteArray, elems[i]? = some (.lit (.string s.data.toList), []) ∧ W.cell? (a.add i) = some (.string s) := by
      intro i hi
      have h1 := hcell i hi
      rw [hce, Nat.mul_one, List.getElem?_eq_getElem (by omega)] at h1
      obtain ⟨cs', h2, h3⟩ := Option.bind_eq_some_iff.1 h1
      obtain ⟨v, rfl, hv⟩ := cells_one h2
      obtain ⟨s, e1, e2, _⟩ := DataW.trod_string he h3
      injection e1 with e1
      rw [e1] at hv
      exact ⟨s, by rw [List.getElem?_eq_getElem (by omega), e2], hv⟩
    obtain ⟨l, hl, hP⟩ := list_of len key
    subst hl
    refine ⟨some a, cap, l, rfl, hlc, ⟨rfl, by unfold maxLen at hcm; omega, fun _ => ⟨a, rfl, fun j s hs => ?_⟩⟩, .inr ⟨rest.map (·.1), ?_⟩⟩
    · refine ⟨[.string s], rfl, rfl, fun i u hu => ?_⟩
      have hi : i = 0 := by
        rcases Nat.eq_zero_or_pos i with h | h
        · exact h
        · rw [List.getElem?_eq_none (by simp; omega)] at hu; cases hu
      subst hi
      simp at hu
      have := (hP j s hs).2
      rw [← hu]
      show W.cell? (a.add (j * 1 + 0)) = _
      rw [Nat.mul_one, Nat.add_zero]; exact this
    · have e : elems.map (·.1) = l.map fun s => (.lit (.string s.data.toList) : DataW H) := by
        apply List.ext_getElem?
        intro i
        rw [List.getElem?_map, List.getElem?_map]
        by_cases hi : i < l.length
        · rw [List.getElem?_eq_getElem hi, (hP i l[i] (List.getElem?_eq_getElem hi)).1]; rfl
        · rw [List.getElem?_eq_none (by omega), List.getElem?_eq_none (by omega)]; rfl
      rw [(Prod.mk.inj hx).1, e]
def bulkS : List ByteArray → Nat
  | [] => 0
  | s :: r => (s.size + 1) + bulkS r
theorem bulkS_all {H : Type} : ∀ l : List ByteArray, Rows.uptoBulkAll (l.map fun s => (.lit (.string s.data.toList) : DataW H)) = bulkS l
  | [] => by simp [Rows.uptoBulkAll, bulkS]
  | s :: r => by
    rw [List.map_cons, Rows.uptoBulkAll, upto_string, bulkS_all r, bulkS, Array.length_toList]; rfl
theorem bulkS_le {H : Type} {d : DataW H} {l : List ByteArray} (h : (d = .nil ∧ l = []) ∨ ∃ sp, d = .slice (l.map fun s => .lit (.string s.data.toList)) sp) : bulkS l ≤ Rows.uptoBulk d := by
  rcases h with ⟨rfl, rfl⟩ | ⟨sp, rfl⟩
  · simp [bulkS]
  · have := bulkS_all (H := H) l
    simp only [Rows.uptoBulk]; omega
end Go.Proofs.YtbmedennhjenhaaDoor.PR
