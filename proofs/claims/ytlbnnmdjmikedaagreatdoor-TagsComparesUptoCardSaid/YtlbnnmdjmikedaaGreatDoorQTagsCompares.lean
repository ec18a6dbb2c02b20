/- The plain law of TagsCompares: when two tags are the same. -/
import Derived.Test.YtlbnnmdjmikedaaGreatDoorQTagsB
import Derived.Test.YtlbnnmdjmikedaaGreatDoorRowT
import Derived.Test.YtlbnnmdjmikedaaGreatDoorPPx28
namespace Go.Proofs.YtlbnnmdjmikedaaGreatDoor.Q
set_option linter.unusedVariables false
set_option linter.unusedSimpArgs false
open Go.RowKit Go.Proofs.YtlbnnmdjmikedaaGreatDoorW.PrintWords Go.Proofs.YtlbnnmdjmikedaaGreatDoorW.PrintLast Go.Proofs.YtlbnnmdjmikedaaGreatDoorW.PrintMore
open PP
theorem strong_is (w x : Bool) (v u : ByteArray) : tags_Strong.f w v x u = some (!w && !x && (v.toList == u.toList)) := by
  unfold tags_Strong.f; cases w <;> cases x <;> simp
theorem ref_strong_is (w x : Bool) (v u : ByteArray) : ostlerref15_Strong.f w v x u = some (!w && !x && (v.toList == u.toList)) := by
  unfold ostlerref15_Strong.f; cases w <;> cases x <;> simp
theorem weak_is (w x : Bool) (v u : ByteArray) : tags_Weak.f w v x u = some (v.toList == u.toList) := rfl
theorem ref_weak_is (w x : Bool) (v u : ByteArray) : ostlerref15_Weak.f w v x u = some (v.toList == u.toList) := rfl
theorem ref_Make_is (body : ByteArray) (time seq : Int) (hb : body.size ≤ 1073741824) (hs : seq ≤ 9223372036854775807) {k : Nat} (hk : 30 < k) : ostlerref15_Make.f k body time seq = some (B (tagL seq.toNat body.size)) := by
  have l1 := dec_len seq.toNat (by omega); have l2 := dec_len body.size (by omega)
  unfold ostlerref15_Make.f tagL
  rw [mx0, ref_decimal_nat _ (by omega) hk, Option.bind_some, ref_decimal_nat _ (by omega) hk]
  rw [show (⟨#[34]⟩ : ByteArray) = B [34] from rfl, show (⟨#[45]⟩ : ByteArray) = B [45] from rfl]
  simp only [B_app, B_size, Option.bind_some, List.length_append, List.length_cons, List.length_nil]
  rw [if_pos (by omega), if_pos (by omega), if_pos (by omega), if_pos (by omega)]
  simp
theorem beq_swap (v u : List UInt8) : (u == v) = (v == u) := by
  by_cases h : v = u
  · rw [h]
  · rw [beq_eq_false_iff_ne.2 h, beq_eq_false_iff_ne.2 (fun e => h e.symm)]
theorem TagsCompares (a b : Tg) (f : S35) (ha : PR.good31 a) (hb : PR.good31 b) (hf : PR.good35 f) (hbk : PR.bulk31 a + PR.bulk31 b + PR.bulk35 f ≤ 1048576) : ∃ k, ostlerlaw15_TagsCompares.f k a.f0 a.f1 b.f0 b.f1 f.f0 f.f1 f.f2 = some true := by
  obtain ⟨w, v⟩ := a
  obtain ⟨x, u⟩ := b
  obtain ⟨fb, ft, fs⟩ := f
  obtain ⟨-, hf1, hf2⟩ := hf
  have bf : fb.size ≤ 1048576 := by unfold PR.bulk35 at hbk; dsimp only at hbk; omega
  have rf := wf64 hf2
  dsimp only at rf
  have Mf := Make_is fb ft fs (by omega) rf.2
  have Rf := ref_Make_is fb ft fs (by omega) rf.2 (k := 301) (by decide)
  have AW := awake15 (k := 300) (by decide)
  have e := beq_swap v.toList u.toList
  refine ⟨301, ?_⟩
  unfold ostlerlaw15_TagsCompares.f
  dsimp only
  rw [strong_is, ref_strong_is, Option.bind_some, Option.bind_some, bne_self_eq_false, if_neg (by decide), weak_is, ref_weak_is, Option.bind_some, Option.bind_some, bne_self_eq_false, if_neg (by decide), Mf, Rf, Option.bind_some, Option.bind_some, bne_self_eq_false, ostlerlaw15_TagsCompares.j0, if_neg (by decide)]
  rw [strong_is, strong_is, weak_is, weak_is, AW, e]
  simp only [Option.bind_some]
  cases w <;> cases x <;> cases (v.toList == u.toList) <;> rfl
end Go.Proofs.YtlbnnmdjmikedaaGreatDoor.Q
