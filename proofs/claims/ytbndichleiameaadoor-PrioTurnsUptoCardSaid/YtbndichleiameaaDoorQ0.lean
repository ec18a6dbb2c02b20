/- What the plain laws of this seat have in common: bytes of a string one after another, and a few words on rounds. -/
import Derived.Test.YtbndichleiameaaDoorPPx0
import Derived.KernelRfl
import Derived.Lib.Strings
import Derived.Lib.IndexBytes
namespace Go.Proofs.YtbndichleiameaaDoor.Q
set_option linter.unusedVariables false
set_option linter.unusedSimpArgs false
open Go.RowKit Go.Proofs.YtbndichleiameaaDoorW.PrintWords Go.Proofs.YtbndichleiameaaDoorW.PrintLast Go.Proofs.YtbndichleiameaaDoorW.PrintMore

theorem all8 {P : UInt8 → Prop} (h : ∀ n : Fin 256, P (UInt8.ofNat n.val)) : ∀ b : UInt8, P b := fun b => by
  have e := h ⟨b.toNat, b.toNat_lt⟩
  rw [show UInt8.ofNat (⟨b.toNat, b.toNat_lt⟩ : Fin 256).val = b from UInt8.ofNat_toNat] at e
  exact e
theorem sz (s : ByteArray) : s.data.toList.length = s.size := by rw [Array.length_toList]; rfl
theorem dn {s : ByteArray} {i : Nat} (h : s.data.toList.drop i = []) (hi : i ≤ s.size) : i = s.size := by
  have := List.drop_eq_nil_iff.1 h
  rw [sz] at this; omega
theorem dc {s : ByteArray} {i : Nat} {b : UInt8} {t : List UInt8} (h : s.data.toList.drop i = b :: t) :
    i < s.size ∧ bt s (i : Int) = (b.toNat : Int) ∧ s.data.toList.drop (i + 1) = t := by
  have hl : i < s.data.toList.length := by
    rcases Nat.lt_or_ge i s.data.toList.length with h1 | h1
    · exact h1
    · rw [List.drop_eq_nil_of_le h1] at h; cases h
  have hl' : i < s.size := by rw [sz] at hl; exact hl
  rw [List.drop_eq_getElem_cons hl] at h
  injection h with h1 h2
  refine ⟨hl', ?_, h2⟩
  have e := bt_at s (i : Int) (by simpa using hl')
  rw [← e, ← h1]
  have e2 := Lib.data_getElem? s i hl'
  rw [List.getElem?_eq_getElem hl] at e2
  rw [Option.some.inj e2]
  rfl
theorem wrap64_of_fits {n : Int} (h : -9223372036854775808 ≤ n) (h' : n ≤ 9223372036854775807) : wrap64 n = n := by unfold wrap64; omega
theorem w1 {i : Nat} (h : i < 4611686018427387904) : wrap64 ((i : Int) + 1) = ((i + 1 : Nat) : Int) := by
  rw [wrap64_of_fits (by omega) (by omega)]; omega
theorem u8i (b : UInt8) : ((b.toNat : Int)).toNat.toUInt8 = b := by simp
theorem lst_nil (s : ByteArray) : (s.toList = []) ↔ s.size = 0 := by
  rw [Lib.toList_data, ← List.length_eq_zero_iff, sz]
theorem ba_ext {s t : ByteArray} (h : s.data.toList = t.data.toList) : s = t := by
  cases s; cases t; simp at h; simp [h]
theorem from_le {α : Type} {g : Nat → Option α} (hg : ∀ k, LeO (g k) (g (k + 1))) {k : Nat} {r : α} (h : g k = some r) {k' : Nat} (hk : k ≤ k') : g k' = some r := at_rounds hg hk h
theorem extract_tail {s : ByteArray} {b : UInt8} {t : List UInt8} (h : s.data.toList = b :: t) : (s.extract 1 s.size).data.toList = t := by
  have e : s.size = t.length + 1 := by rw [← sz, h]; rfl
  rw [Lib.extract_data, h, e]; simp
theorem extract_front {s : ByteArray} {b : UInt8} {t : List UInt8} (h : s.data.toList = t ++ [b]) {n : Nat} (hn : n = t.length) : (s.extract 0 n).data.toList = t := by
  rw [Lib.extract_data, h, hn]; simp
end Go.Proofs.YtbndichleiameaaDoor.Q
