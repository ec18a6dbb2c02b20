/- The plain law of RangesParts: the program's body of parts is the reference's. -/
import Derived.Test.YtciibddoejhmlaaDoorQLine
import Derived.Test.YtciibddoejhmlaaDoorQParts
import Derived.Test.YtciibddoejhmlaaDoorRowT
import Derived.Test.YtciibddoejhmlaaDoorPPx16
namespace Go.Proofs.YtciibddoejhmlaaDoor.Q
set_option linter.unusedVariables false
set_option linter.unusedSimpArgs false
open Go.RowKit Go.Proofs.YtciibddoejhmlaaDoorW.PrintWords Go.Proofs.YtciibddoejhmlaaDoorW.PrintLast Go.Proofs.YtciibddoejhmlaaDoorW.PrintMore
open PP
theorem bulk_len (l : List Rg) : l.length ≤ (l.map PR.bulk25).sum := by
  induction l with
  | nil => simp
  | cons r l ih => rw [List.map_cons, List.sum_cons, List.length_cons]; unfold PR.bulk25 at *; omega
theorem RangesParts (a0 a1 : ByteArray) (l : List Rg) (G : ∀ x ∈ l, PR.good25 x) (hb : a0.data.size + a1.data.size + (l.map PR.bulk25).sum ≤ 1048576) : ∃ k, ostlerlaw16_RangesParts.f k a0 a1 l = some true := by
  obtain ⟨b, rfl⟩ : ∃ b, a0 = B b := ⟨_, B_of a0⟩
  obtain ⟨kind, rfl⟩ : ∃ b, a1 = B b := ⟨_, B_of a1⟩
  have hl := bulk_len l
  have h0 : (B b).data.size = b.length := B_size b
  have h1 : (B kind).data.size = kind.length := B_size kind
  obtain ⟨p, p1, p2, p3, p4⟩ := Line_is b (by omega)
  obtain ⟨q1, q2, q3⟩ := p4 5000000 (by omega)
  refine ⟨5000000, ?_⟩
  have et : (([] : List Rg) ++ l ++ [(⟨(-77), 0⟩ : Rg)]).take l.length = l := by rw [List.nil_append, List.take_left]
  have er : (rd_T25 (([] : List Rg) ++ l ++ [(⟨(-77), 0⟩ : Rg)]) (l.length : Int)).f0 = -77 := by
    unfold rd_T25
    rw [Int.toNat_natCast, List.nil_append, List.getD_eq_getElem?_getD, List.getElem?_append_right (Nat.le_refl _), Nat.sub_self]
    rfl
  unfold ostlerlaw16_RangesParts.f
  rw [q1, Option.bind_some, if_pos (by simp only [List.length_nil]; omega), Option.bind_some, if_pos (by simp only [List.nil_append]; omega), Option.bind_some, if_pos (by omega), if_pos (by simp only [List.nil_append, List.length_append, List.length_cons, List.length_nil]; omega),
    Int.toNat_natCast, et, Parts_is b kind p l (by omega) (by omega) p2 (by omega), Option.bind_some, ref_Parts_is b kind p l (by omega) (by omega) p2 (by omega) (by omega), Option.bind_some, q2, Option.bind_some, if_pos rfl, if_pos rfl, if_pos rfl, same_self l (by omega) (by omega), Option.bind_some, if_pos rfl,
    if_pos (by simp only [List.nil_append, List.length_append, List.length_cons, List.length_nil]; omega), er, if_pos rfl, awake16 (by omega)]
  rfl
end Go.Proofs.YtciibddoejhmlaaDoor.Q
