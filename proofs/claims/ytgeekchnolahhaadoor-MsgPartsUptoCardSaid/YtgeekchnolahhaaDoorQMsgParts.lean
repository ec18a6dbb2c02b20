/- The plain law of MsgParts: trailers that may be are fields each of which may be by itself. -/
import Derived.Test.YtgeekchnolahhaaDoorQMsgA
import Derived.Test.YtgeekchnolahhaaDoorRowT
import Derived.Test.YtgeekchnolahhaaDoorPPx26
namespace Go.Proofs.YtgeekchnolahhaaDoor.Q
set_option linter.unusedVariables false
set_option linter.unusedSimpArgs false
open Go.RowKit Go.Proofs.YtgeekchnolahhaaDoorW.PrintWords Go.Proofs.YtgeekchnolahhaaDoorW.PrintLast Go.Proofs.YtgeekchnolahhaaDoorW.PrintMore
open PP
theorem bulk_small : ∀ (l : List Fd) (n : Nat), (l.map PR.bulk30).sum ≤ n → l.length ≤ n ∧ sizeB l ≤ n ∧ ∀ f ∈ l, f.f0.size ≤ n ∧ f.f1.size ≤ n
  | [], n, h => ⟨by simp, by simp [sizeB], by simp⟩
  | f :: l, n, h => by
    rw [List.map_cons, List.sum_cons] at h
    have hf : PR.bulk30 f = (f.f0.size + 1) + (f.f1.size + 1) + 1 := rfl
    obtain ⟨h1, h2, h3⟩ := bulk_small l (n - PR.bulk30 f) (by omega)
    have hz : sizeB (f :: l) = f.f0.size + f.f1.size + sizeB l := by unfold sizeB; rw [List.map_cons, List.sum_cons]
    refine ⟨by rw [List.length_cons]; omega, by omega, fun g hg => ?_⟩
    rcases List.mem_cons.1 hg with rfl | hg
    · omega
    · have := h3 g hg; omega
theorem one_of (l : List Fd) (i : Nat) (hi : i < l.length) : (l.take (i + 1)).drop i = [l[i]] := by
  rw [List.take_succ_eq_append_getElem hi, List.drop_append_of_le_length (by rw [List.length_take]; omega), List.drop_of_length_le (by rw [List.length_take]; omega)]; rfl
theorem parts_loop (a b l : List Fd) (hs : small l) (hl : l.length ≤ 4194304) (R : Bool → Option Bool)
    (hR : ∀ x6 k, 4000000 < k → (((msg_Trailers.f k a).bind fun t243 => (if t243 = 0 then ((msg_Trailers.f k b).bind fun t244 => (ostlerlaw14_MsgParts.j1 k a b l x6 (t244 == 0))) else (ostlerlaw14_MsgParts.j1 k a b l x6 false)))) = R x6) :
    ∀ (m : List Fd) (i k : Nat) (x6 : Bool), l.drop i = m → 4000001 + m.length < k → ostlerlaw14_MsgParts.l0 k a b l x6 (i : Int) = R (x6 && m.all fun f => (bad f).isNone)
  | [], i, k, x6, hd, hk => by
    obtain ⟨j, rfl⟩ : ∃ j, k = j + 1 := ⟨k - 1, by omega⟩
    have := List.drop_eq_nil_iff.1 hd
    rw [ostlerlaw14_MsgParts.l0, if_neg (by omega), List.all_nil, Bool.and_true]
    exact hR x6 j (by simp at hk; omega)
  | f :: m, i, k, x6, hd, hk => by
    rw [List.length_cons] at hk
    obtain ⟨j, rfl⟩ : ∃ j, k = j + 1 := ⟨k - 1, by omega⟩
    have hi : i < l.length := by
      rcases Nat.lt_or_ge i l.length with h | h
      · exact h
      · rw [List.drop_eq_nil_of_le h] at hd; cases hd
    rw [List.drop_eq_getElem_cons hi] at hd
    obtain ⟨e1, e2⟩ := List.cons.inj hd
    rw [ostlerlaw14_MsgParts.l0, if_pos (by omega), w1' (by omega)]
    by_cases h6 : x6 = true
    · subst h6
      rw [if_pos rfl, if_pos (by omega), if_pos (by omega), if_pos (by omega), Int.toNat_natCast, Int.toNat_natCast, one_of l i hi, e1]
      have hf := hs f (by rw [← e1]; exact List.getElem_mem hi)
      have hsf : small [f] := fun g hg => by rw [List.mem_singleton.1 hg]; exact hf
      rw [Trailers_is [f] hsf (by simp) (by simp; omega), Option.bind_some, parts_loop a b l hs hl R hR m (i + 1) j _ e2 (by omega)]
      have : (trailB [f] == 0) = (bad f).isNone := by
        rw [Bool.eq_iff_iff, beq_iff_eq, trailB_zero [f] hsf]
        simp [Option.isNone_iff_eq_none]
      rw [this, List.all_cons, Bool.true_and]
    · have h6 := Bool.eq_false_iff.2 h6
      subst h6
      rw [if_neg (by decide), parts_loop a b l hs hl R hR m (i + 1) j _ e2 (by omega), Bool.false_and, Bool.false_and]
theorem MsgParts (a b : List Fd) (ha : ∀ x ∈ a, PR.good30 x) (hb : ∀ x ∈ b, PR.good30 x) (hk : (a.map PR.bulk30).sum + (b.map PR.bulk30).sum ≤ 1048576) : ∃ k, ostlerlaw14_MsgParts.f k a b = some true := by
  obtain ⟨a1, a2, a3⟩ := bulk_small a 1048576 (by omega)
  obtain ⟨b1, b2, b3⟩ := bulk_small b 1048576 (by omega)
  have hsa : small a := a3
  have hsb : small b := b3
  have hsl : small (a ++ b) := fun f hf => by
    rcases List.mem_append.1 hf with h | h
    · exact a3 f h
    · exact b3 f h
  have hlen : (a ++ b).length = a.length + b.length := List.length_append
  have hll : (a ++ b).length ≤ 4194304 := by omega
  refine ⟨9000000, ?_⟩
  unfold ostlerlaw14_MsgParts.f
  rw [List.nil_append, if_pos (by simp; omega), Option.bind_some, if_pos (by omega)]
  have key := parts_loop a b (a ++ b) hsl hll (fun x6 => if (((trailB (a ++ b) == 0) == x6) = true) then (if (((if trailB a = 0 then (trailB b == 0) else false) == x6) = true) then some true else some false) else some false) ?_ (a ++ b) 0 9000000 true rfl (by omega)
  · have e : ((0 : Nat) : Int) = 0 := rfl
    rw [e] at key
    rw [key, Bool.true_and]
    have hall : ((a ++ b).all fun f => (bad f).isNone) = (trailB (a ++ b) == 0) := by
      rw [Bool.eq_iff_iff, beq_iff_eq, trailB_zero _ hsl, List.all_eq_true]
      simp [Option.isNone_iff_eq_none]
    have hone : (if trailB a = 0 then (trailB b == 0) else false) = (trailB (a ++ b) == 0) := by
      rw [Bool.eq_iff_iff, beq_iff_eq, trailB_zero _ hsl]
      by_cases h : trailB a = 0
      · rw [if_pos h, beq_iff_eq, trailB_zero _ hsb]
        have := (trailB_zero _ hsa).1 h
        constructor
        · intro hb f hf
          rcases List.mem_append.1 hf with h | h
          · exact this f h
          · exact hb f h
        · exact fun hb f hf => hb f (List.mem_append_right _ hf)
      · rw [if_neg h]
        constructor
        · intro h; cases h
        · exact fun hb => absurd ((trailB_zero _ hsa).2 fun f hf => hb f (List.mem_append_left _ hf)) h
    rw [hall, hone, if_pos (by simp), if_pos (by simp)]
  · intro x6 k hk
    have j1 : ∀ x8, ostlerlaw14_MsgParts.j1 k a b (a ++ b) x6 x8 = if (((trailB (a ++ b) == 0) == x6) = true) then (if ((x8 == x6) = true) then some true else some false) else some false := by
      intro x8
      obtain ⟨k, rfl⟩ : ∃ j, k = j + 1 := ⟨k - 1, by omega⟩
      rw [ostlerlaw14_MsgParts.j1, Trailers_is _ hsl hll (by omega), Option.bind_some]
      have s1 := Size_is (a ++ b) hll (by rw [sizeB_app]; omega) (k := k) (by omega)
      have s2 := Size_is a (by omega) (by omega) (k := k) (by omega)
      have s3 := Size_is b (by omega) (by omega) (k := k) (by omega)
      have ew : ((32 * (a ++ b).length + sizeB (a ++ b) : Nat) : Int) = wrap64 (((32 * a.length + sizeB a : Nat) : Int) + ((32 * b.length + sizeB b : Nat) : Int)) := by
        rw [wrap64_of_fits (by omega) (by omega), sizeB_app, List.length_append]; omega
      rw [s1, s2, s3, Option.bind_some, Option.bind_some, Option.bind_some, if_pos ew, awake14 (by omega)]; rfl
    rw [Trailers_is a hsa (by omega) (by omega), Option.bind_some]
    by_cases h : trailB a = 0
    · rw [if_pos h, Trailers_is b hsb (by omega) (by omega), Option.bind_some, j1, if_pos h]
    · rw [if_neg h, j1, if_neg h]
end Go.Proofs.YtgeekchnolahhaaDoor.Q
