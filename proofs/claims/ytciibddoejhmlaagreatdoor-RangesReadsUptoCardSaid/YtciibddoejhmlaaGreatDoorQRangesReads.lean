/- The plain law of RangesReads: which ranges a value asks for, and how they are told. -/
import Derived.Test.YtciibddoejhmlaaGreatDoorQReads
import Derived.Test.YtciibddoejhmlaaGreatDoorRowT
import Derived.Test.YtciibddoejhmlaaGreatDoorPPx19
namespace Go.Proofs.YtciibddoejhmlaaGreatDoor.Q
set_option linter.unusedVariables false
set_option linter.unusedSimpArgs false
open Go.RowKit Go.Proofs.YtciibddoejhmlaaGreatDoorW.PrintWords Go.Proofs.YtciibddoejhmlaaGreatDoorW.PrintLast Go.Proofs.YtciibddoejhmlaaGreatDoorW.PrintMore
open PP
theorem same_loopZ (l : List Rg) (hl : l.length ≤ 1048576) : ∀ (d i k : Nat), i + d = l.length → d + 1 ≤ k → ostlerref16_Same.l0 k l l (i : Int) = some true
  | d, i, 0, hi, hk => absurd hk (by omega)
  | 0, i, k + 1, hi, hk => by rw [ostlerref16_Same.l0, if_neg (by omega)]
  | d + 1, i, k + 1, hi, hk => by
    rw [ostlerref16_Same.l0, if_pos (by omega), if_pos (by omega), if_pos (by omega), if_neg (by simp), w1' (by omega)]
    exact same_loopZ l hl d (i + 1) k (by omega) (by omega)
theorem same_selfZ (l : List Rg) (hl : l.length ≤ 1048576) {k : Nat} (hk : 1048700 ≤ k) : ostlerref16_Same.f k l l = some true := by
  unfold ostlerref16_Same.f
  rw [if_pos rfl]
  exact same_loopZ l hl l.length 0 k (by omega) (by omega)
theorem itoa_len (n : Int) (h0 : -9223372036854775808 ≤ n) (h1 : n ≤ 9223372036854775807) : (Lib.itoa n).length ≤ 21 := by
  unfold Lib.itoa
  split
  · have := dec_len n.natAbs (by omega)
    first
      | (simp only [List.length_cons]; omega)
      | (simp; omega)
  · have := dec_len n.natAbs (by omega)
    have := dec_len n.toNat (by omega)
    first
      | omega
      | (simp; omega)
theorem told_both (a b c : Int) (ha0 : -9223372036854775808 ≤ a) (ha1 : a ≤ 9223372036854775807) (hb0 : -9223372036854775808 ≤ b) (hb1 : b ≤ 9223372036854775807) (hc0 : -9223372036854775808 ≤ c) (hc1 : c ≤ 9223372036854775807) {k : Nat} (hk : 30 < k) :
    ∃ x, ranges_Told.f a b c = some x ∧ ostlerref16_Told.f k a b c = some x := by
  have la := itoa_len a ha0 ha1; have lb := itoa_len b hb0 hb1; have lc := itoa_len c hc0 hc1
  refine ⟨B ([98, 121, 116, 101, 115, 32] ++ Lib.itoa a ++ [45] ++ Lib.itoa b ++ [47] ++ Lib.itoa c), ?_, ?_⟩
  · unfold ranges_Told.f
    rw [decimal_any a ha0 ha1, decimal_any b hb0 hb1, decimal_any c hc0 hc1, Option.bind_some, Option.bind_some, Option.bind_some]
    rw [show (⟨#[98, 121, 116, 101, 115, 32]⟩ : ByteArray) = B [98, 121, 116, 101, 115, 32] from rfl, show (⟨#[45]⟩ : ByteArray) = B [45] from rfl, show (⟨#[47]⟩ : ByteArray) = B [47] from rfl]
    simp only [B_app, B_size, List.length_append, List.length_cons, List.length_nil]
    rw [if_pos (by omega), if_pos (by omega), if_pos (by omega), if_pos (by omega), if_pos (by omega)]
  · unfold ostlerref16_Told.f
    rw [ref_Decimal_is a ha0 ha1 hk, ref_Decimal_is b hb0 hb1 hk, ref_Decimal_is c hc0 hc1 hk, Option.bind_some, Option.bind_some, Option.bind_some]
    rw [show (⟨#[98, 121, 116, 101, 115, 32]⟩ : ByteArray) = B [98, 121, 116, 101, 115, 32] from rfl, show (⟨#[45]⟩ : ByteArray) = B [45] from rfl, show (⟨#[47]⟩ : ByteArray) = B [47] from rfl]
    simp only [show ∀ n, (⟨(Lib.itoa n).toArray⟩ : ByteArray) = B (Lib.itoa n) from fun _ => rfl, B_app, B_size, List.length_append, List.length_cons, List.length_nil]
    rw [if_pos (by omega), if_pos (by omega), if_pos (by omega), if_pos (by omega), if_pos (by omega)]
theorem unmet_both (c : Int) (hc0 : -9223372036854775808 ≤ c) (hc1 : c ≤ 9223372036854775807) {k : Nat} (hk : 30 < k) : ∃ x, ranges_Unmet.f c = some x ∧ ostlerref16_Unmet.f k c = some x := by
  have lc := itoa_len c hc0 hc1
  refine ⟨B ([98, 121, 116, 101, 115, 32, 42, 47] ++ Lib.itoa c), ?_, ?_⟩
  · unfold ranges_Unmet.f
    rw [decimal_any c hc0 hc1, Option.bind_some, B_size, if_pos (by omega), show (⟨#[98, 121, 116, 101, 115, 32, 42, 47]⟩ : ByteArray) = B [98, 121, 116, 101, 115, 32, 42, 47] from rfl, B_app]
  · unfold ostlerref16_Unmet.f
    rw [ref_Decimal_is c hc0 hc1 hk, Option.bind_some, show (⟨(Lib.itoa c).toArray⟩ : ByteArray) = B (Lib.itoa c) from rfl, B_size, if_pos (by omega), show (⟨#[98, 121, 116, 101, 115, 32, 42, 47]⟩ : ByteArray) = B [98, 121, 116, 101, 115, 32, 42, 47] from rfl, B_app]
theorem parseL_len (size : Int) : ∀ (xs : List (List UInt8)) (acc : List Rg) (n : Nat), acc.length ≤ 8 → (parseL size xs acc n).1.length ≤ 8
  | [], acc, n, h => by
    rw [parseL]; split
    · simp
    · split
      · simp
      · split
        · simp
        · exact h
  | x :: xs, acc, n, h => by
    rw [parseL]; split
    · exact parseL_len size xs acc n h
    · split
      · split
        · rename_i hh
          exact parseL_len size xs _ _ (by simp; omega)
        · exact parseL_len size xs _ _ h
      · simp
theorem ParseL_len (l : List UInt8) (size : Int) : (ParseL l size).1.length ≤ 8 := by
  unfold ParseL
  split
  · simp
  · split
    · exact parseL_len _ _ _ _ (by simp)
    · simp
theorem reads_loop (size : Int) (y z : List Rg) (f0 f1 : Int) (k : Nat) : ∀ (n i : Nat) (x : List Rg), i + n = x.length → x.length ≤ 8 → ∃ x' : List Rg, x'.length = x.length ∧ ostlerlaw16_RangesReads.l0 (k + n) size x y z (i : Int) f0 f1 = ostlerlaw16_RangesReads.l0 k size x' y z (x'.length : Int) f0 f1
  | 0, i, x, hi, hx => ⟨x, rfl, by rw [show i = x.length by omega]; rfl⟩
  | n + 1, i, x, hi, hx => by
    obtain ⟨x', h1, h2⟩ := reads_loop size y z f0 f1 k n (i + 1) (x.set (i : Int).toNat ⟨-1, 0⟩) (by rw [List.length_set]; omega) (by rw [List.length_set]; exact hx)
    rw [List.length_set] at h1
    refine ⟨x', h1, ?_⟩
    rw [show k + (n + 1) = (k + n) + 1 by omega, ostlerlaw16_RangesReads.l0, if_pos (by omega), if_pos (by omega), w1' (by omega), h2]
theorem RangesReads (a0 : ByteArray) (size : Int) (r : Rg) (hw : (Lit.int .i64 size).wf = true) (G : PR.good23 r) (hb : a0.data.size + PR.bulk23 r ≤ 1048576) : ∃ k, ostlerlaw16_RangesReads.f k a0 size r.f0 r.f1 = some true := by
  obtain ⟨l, rfl⟩ : ∃ b, a0 = B b := ⟨_, B_of a0⟩
  have hsz := wf64 hw
  obtain ⟨g0, g1⟩ := G
  have hr0 := wf64 g0
  have hr1 := wf64 g1
  have h0 : (B l).data.size = l.length := B_size l
  have hz := ParseL_len l size
  obtain ⟨t, t1, t2⟩ := told_both r.f0 r.f1 size hr0.1 hr0.2 hr1.1 hr1.2 hsz.1 hsz.2 (k := 9000000) (by omega)
  obtain ⟨u, u1, u2⟩ := unmet_both size hsz.1 hsz.2 (k := 9000000) (by omega)
  have hp := Parse_is l size (by omega) (k := 9000002 + (ParseL l size).1.length) (by omega)
  have hq := ref_Parse_is l size (by omega) hsz.2 (k := 9000002 + (ParseL l size).1.length) (by omega)
  refine ⟨9000002 + (ParseL l size).1.length, ?_⟩
  unfold ostlerlaw16_RangesReads.f
  rw [hp, hq, Option.bind_some, Option.bind_some, Option.bind_some, if_pos rfl, if_pos rfl, same_selfZ _ (by omega) (by omega), Option.bind_some]
  generalize (ParseL l size).1 = x at *
  rw [show 9000002 + x.length = (9000001 + x.length) + 1 by omega, ostlerlaw16_RangesReads.j0, if_neg (by decide)]
  obtain ⟨x', e1, e2⟩ := reads_loop size x x r.f0 r.f1 9000001 x.length 0 x (Nat.zero_add _) hz
  rw [show (0 : Int) = ((0 : Nat) : Int) from rfl, e2, ostlerlaw16_RangesReads.l0, if_neg (by omega), same_selfZ x (by omega) (by omega), Option.bind_some, if_pos rfl, t1, t2, Option.bind_some, Option.bind_some, if_pos rfl, u1, u2, Option.bind_some, Option.bind_some, if_pos rfl, awake16 (by omega)]
  rfl
end Go.Proofs.YtciibddoejhmlaaGreatDoor.Q
