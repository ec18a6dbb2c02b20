/- Lists of members, as both packages cut them. -/
import Derived.Test.YtbndichleiameaaDoorQTrim
import Derived.Test.YtbndichleiameaaDoorPPx3
import Derived.Test.YtbndichleiameaaDoorPPxEtextList
import Derived.Test.YtbndichleiameaaDoorPPx10
namespace Go.Proofs.YtbndichleiameaaDoor.Q
set_option linter.unusedVariables false
set_option linter.unusedSimpArgs false
open Go.RowKit Go.Proofs.YtbndichleiameaaDoorW.PrintWords Go.Proofs.YtbndichleiameaaDoorW.PrintLast Go.Proofs.YtbndichleiameaaDoorW.PrintMore
open PP

/-- The piece from a to i. -/
def seg (s : ByteArray) (a i : Nat) : List UInt8 := (s.data.toList.drop a).take (i - a)
def addM (s : ByteArray) (a i : Nat) (out : List ByteArray) : List ByteArray :=
  if Lib.trimS (seg s a i) [32, 9] = [] then out else out ++ [⟨(Lib.trimS (seg s a i) [32, 9]).toArray⟩]
def G (s : ByteArray) : List UInt8 → Bool → Nat → Nat → List ByteArray → List ByteArray
  | [], _, i, a, out => addM s a i out
  | [c], q, i, a, out =>
    if c = 44 ∧ q = false then addM s (i + 1) (i + 1) (addM s a i out) else addM s a (i + 1) out
  | c :: d :: t, q, i, a, out =>
    if c = 44 ∧ q = false then G s (d :: t) false (i + 1) (i + 1) (addM s a i out)
    else if c = 92 ∧ q = true then G s t true (i + 1 + 1) a out
    else if c = 34 then G s (d :: t) (!q) (i + 1) a out else G s (d :: t) q (i + 1) a out
theorem G_nil (s : ByteArray) (q : Bool) (i a : Nat) (out : List ByteArray) : G s [] q i a out = addM s a i out := by rw [G]
theorem G_comma (s : ByteArray) (t : List UInt8) (i a : Nat) (out : List ByteArray) : G s (44 :: t) false i a out = G s t false (i + 1) (i + 1) (addM s a i out) := by
  cases t <;> simp [G]
theorem G_quote (s : ByteArray) (t : List UInt8) (q : Bool) (i a : Nat) (out : List ByteArray) : G s (34 :: t) q i a out = G s t (!q) (i + 1) a out := by
  cases t <;> simp [G]
theorem G_other (s : ByteArray) (c : UInt8) (t : List UInt8) (q : Bool) (i a : Nat) (out : List ByteArray) (h1 : ¬ (c = 44 ∧ q = false)) (h2 : ¬ (c = 92 ∧ q = true)) (h3 : c ≠ 34) :
    G s (c :: t) q i a out = G s t q (i + 1) a out := by
  cases t with
  | nil => rw [G_nil]; unfold G; rw [if_neg h1]
  | cons d t => rw [G, if_neg h1, if_neg h2, if_neg h3]
theorem G_slash (s : ByteArray) (d : UInt8) (t : List UInt8) (i a : Nat) (out : List ByteArray) : G s (92 :: d :: t) true i a out = G s t true (i + 1 + 1) a out := by
  simp [G]
theorem G_slash_last (s : ByteArray) (q : Bool) (i a : Nat) (out : List ByteArray) : G s [92] q i a out = addM s a (i + 1) out := by
  simp [G]

theorem extract_seg (s : ByteArray) (a i : Nat) : (s.extract a i).data.toList = seg s a i := Lib.extract_data s a i
theorem extract_size (s : ByteArray) (a i : Nat) (h : i ≤ s.size) : (s.extract a i).size ≤ s.size := by
  rw [← sz, ← sz, extract_seg]
  unfold seg
  rw [List.length_take, List.length_drop]; omega
theorem addM_length (s : ByteArray) (a i : Nat) (out : List ByteArray) : (addM s a i out).length ≤ out.length + 1 := by
  unfold addM; split
  · omega
  · rw [List.length_append]; exact Nat.le_refl _
theorem text_Trim_is (s : ByteArray) (hs : s.size ≤ 140737488355328) : text_Trim.f s = some ⟨(Lib.trimS s.data.toList [32, 9]).toArray⟩ := by
  simp [text_Trim.f, strings_Trim.f, show s.size ≤ 9223372036854775807 by omega]
theorem text_m_is (s : ByteArray) (hs : s.size ≤ 140737488355328) (a i : Nat) (out : List ByteArray) (h1 : a ≤ i) (h2 : i ≤ s.size) (h3 : out.length < 8796093022208) : text_List.m s a i out = some (addM s a i out) := by
  have hx := extract_size s a i h2
  unfold text_List.m addM
  rw [if_pos h1, if_pos h2, text_Trim_is _ (by omega), Option.bind_some, Lib.toList_data, extract_seg]
  show (if Lib.trimS (seg s a i) [32, 9] = [] then _ else _) = _
  split
  · rfl
  · first | rfl | rw [if_pos h3]

theorem quoted_G (s : ByteArray) (hs : s.size ≤ 140737488355328) (i : Nat) (hi : i ≤ s.size) : ∀ (n : Nat) (l : List UInt8) (x k : Nat), l.length ≤ n → s.data.toList.drop (i + x) = l → i + x ≤ s.size → l.length < k →
    ∃ r : Nat, text_quoted.l0 k (s.extract i s.size) (x : Int) = some (r : Int) ∧ x ≤ r ∧ i + r ≤ s.size ∧ ∀ a out, G s l true (i + x) a out = G s (s.data.toList.drop (i + r)) false (i + r) a out
  | n, l, x, k, hln, hd, hx, hk => by
    have es : (s.extract i s.size).data.toList = s.data.toList.drop i := by
      rw [Lib.extract_data]; exact List.take_of_length_le (by rw [List.length_drop, sz]; omega)
    have ez : (s.extract i s.size).size = s.size - i := by rw [← sz, es, List.length_drop, sz]
    have ed : (s.extract i s.size).data.toList.drop x = l := by rw [es, List.drop_drop]; exact hd
    obtain ⟨k, rfl⟩ : ∃ m, k = m + 1 := ⟨k - 1, by omega⟩
    match n, l, hln, hd, ed, hk with
    | _, [], _, hd, ed, hk =>
      have hn := dn hd hx
      refine ⟨x, ?_, Nat.le_refl _, hx, fun a out => by rw [hd, G_nil, G_nil]⟩
      unfold text_quoted.l0
      rw [if_neg (by omega), ez]; congr 1; omega
    | 0, c :: t, hln, hd, ed, hk => simp at hln
    | n + 1, c :: t, hln, hd, ed, hk =>
      simp only [List.length_cons] at hk hln
      obtain ⟨h1, h2, h3⟩ := dc ed
      obtain ⟨g1, _, g3⟩ := dc hd
      have hx3 : x < 4611686018427387904 := by omega
      have hx4 : x + 1 < 4611686018427387904 := by omega
      have e1 : wrap64 ((x : Int) + 1) = ((x + 1 : Nat) : Int) := w1 hx3
      have e2 : wrap64 (((x + 1 : Nat) : Int) + 1) = ((x + 1 + 1 : Nat) : Int) := w1 hx4
      have q1 : (x : Int) < ((s.extract i s.size).size : Int) := by clear e1 e2; omega
      have q2 : (0 : Int) ≤ (x : Int) := by clear e1 e2; omega
      by_cases hc : c = 92
      · subst hc
        match t, g3, hk, hln with
        | [], g3, hk, hln =>
          obtain ⟨k, rfl⟩ : ∃ m, k = m + 1 := ⟨k - 1, by clear e1 e2; simp at hk; omega⟩
          have hn := dn g3 (by clear e1 e2; omega)
          have q3 : ¬ (((x + 1 + 1 : Nat) : Int) < ((s.extract i s.size).size : Int)) := by clear e1 e2; omega
          refine ⟨x + 1, ?_, Nat.le_succ _, by clear e1 e2; omega, fun a out => ?_⟩
          · rw [text_quoted.l0, if_pos q1, if_pos q2, h2, if_pos (show ((UInt8.toNat 92 : Nat) : Int) = 92 from rfl), e1, e2, text_quoted.l0, if_neg q3, ez]
            congr 1; clear e1 e2; omega
          · rw [← Nat.add_assoc, g3, G_slash_last, G_nil]
        | d :: t, g3, hk, hln =>
          obtain ⟨f1, _, f3⟩ := dc g3
          obtain ⟨r, r1, r2, r3, r4⟩ := quoted_G s hs i hi n t (x + 1 + 1) k (by clear e1 e2; simp at hln; omega) (by rw [← Nat.add_assoc, ← Nat.add_assoc]; exact f3) (by clear e1 e2; omega) (by clear e1 e2; simp at hk; omega)
          refine ⟨r, ?_, by clear e1 e2; omega, r3, fun a out => ?_⟩
          · rw [text_quoted.l0, if_pos q1, if_pos q2, h2, if_pos (show ((UInt8.toNat 92 : Nat) : Int) = 92 from rfl), e1, e2, r1]
          · rw [G_slash, ← r4 a out, ← Nat.add_assoc, ← Nat.add_assoc]
      · have hc1 : ¬ ((c.toNat : Int) = 92) := fun h => hc (UInt8.toNat_inj.1 (by show c.toNat = 92; omega))
        by_cases hq : c = 34
        · subst hq
          refine ⟨x + 1, ?_, Nat.le_succ _, by clear e1 e2; omega, fun a out => ?_⟩
          · rw [text_quoted.l0, if_pos q1, if_pos q2, h2, if_neg (by decide), if_pos (show ((UInt8.toNat 34 : Nat) : Int) = 34 from rfl), e1]
          · rw [G_quote, ← Nat.add_assoc, g3]; rfl
        · have hq1 : ¬ ((c.toNat : Int) = 34) := fun h => hq (UInt8.toNat_inj.1 (by show c.toNat = 34; omega))
          obtain ⟨r, r1, r2, r3, r4⟩ := quoted_G s hs i hi n t (x + 1) k (by clear e1 e2; omega) (by rw [← Nat.add_assoc]; exact g3) (by clear e1 e2; omega) (by clear e1 e2; omega)
          refine ⟨r, ?_, by clear e1 e2; omega, r3, fun a out => ?_⟩
          · rw [text_quoted.l0, if_pos q1, if_pos q2, h2, if_neg hc1, if_neg hq1, e1, r1]
          · rw [G_other s c t true (i + x) a out (by simp) (by simp [hc]) hq, ← r4 a out, ← Nat.add_assoc]

theorem text_List_G (s : ByteArray) (hs : s.size ≤ 16777216) : ∀ (n : Nat) (l : List UInt8) (i a k : Nat) (out : List ByteArray), l.length ≤ n → s.data.toList.drop i = l → i ≤ s.size → a ≤ i → out.length + l.length ≤ 33554432 → l.length + s.size + 2 < k →
    text_List.l0 k s i a out = some (G s l false i a out)
  | n, [], i, a, k, out, hln, hd, hi, ha, ho, hk => by
    obtain ⟨k, rfl⟩ : ∃ m, k = m + 1 := ⟨k - 1, by omega⟩
    have hn := dn hd hi
    rw [text_List.l0, if_neg (by omega), text_m_is s (by omega) a s.size out (by omega) (Nat.le_refl _) (by simp at ho; omega), G_nil, hn]
  | 0, c :: t, i, a, k, out, hln, hd, hi, ha, ho, hk => by simp at hln
  | n + 1, c :: t, i, a, k, out, hln, hd, hi, ha, ho, hk => by
    simp only [List.length_cons] at hln ho hk
    obtain ⟨k, rfl⟩ : ∃ m, k = m + 1 := ⟨k - 1, by omega⟩
    obtain ⟨h1, h2, h3⟩ := dc hd
    rw [text_List.l0, if_pos h1, h2]
    by_cases hq : c = 34
    · subst hq
      have hlen : (s.data.toList.drop (i + 1)).length = s.size - (i + 1) := by rw [List.length_drop, sz]
      obtain ⟨r, r1, r2, r3, r4⟩ := quoted_G s (by omega) i hi t.length t 1 k (Nat.le_refl _) h3 (by omega) (by omega)
      have hl2 : (s.data.toList.drop (i + r)).length ≤ t.length := by rw [List.length_drop, sz, ← h3, hlen]; omega
      have ih := text_List_G s hs n (s.data.toList.drop (i + r)) (i + r) a k out (by omega) rfl r3 (by omega) (by omega) (by omega)
      have r1' : text_quoted.f k (s.extract i s.size) = some (r : Int) := r1
      rw [if_pos (show ((UInt8.toNat 34 : Nat) : Int) = 34 from rfl), r1', Option.bind_some, if_pos (by omega), if_pos (by omega), Int.toNat_natCast, ih, G_quote]
      exact congrArg some (r4 a out).symm
    · have hq1 : ¬ ((c.toNat : Int) = 34) := fun h => hq (UInt8.toNat_inj.1 (by show c.toNat = 34; omega))
      rw [if_neg hq1]
      by_cases hc : c = 44
      · subst hc
        have hal := addM_length s a i out
        have ih := text_List_G s hs n t (i + 1) (i + 1) k (addM s a i out) (by omega) h3 (by omega) (Nat.le_refl _) (by omega) (by omega)
        rw [if_pos (show ((UInt8.toNat 44 : Nat) : Int) = 44 from rfl), text_m_is s (by omega) a i out ha hi (by omega), Option.bind_some, ih, G_comma]
      · have hc1 : ¬ ((c.toNat : Int) = 44) := fun h => hc (UInt8.toNat_inj.1 (by show c.toNat = 44; omega))
        have ih := text_List_G s hs n t (i + 1) a k out (by omega) h3 (by omega) (by omega) (by omega) (by omega)
        rw [if_neg hc1, ih, G_other s c t false i a out (by simp [hc]) (by simp) hq]
theorem text_List_is (s : ByteArray) (hs : s.size ≤ 16777216) {k : Nat} (hk : 2 * s.size + 2 < k) : text_List.f k s = some (G s s.data.toList false 0 0 []) := by
  unfold text_List.f
  rw [if_pos (by omega)]
  exact text_List_G s hs s.data.toList.length s.data.toList 0 0 k [] (Nat.le_refl _) rfl (by omega) (Nat.le_refl _) (by rw [sz]; simp; omega) (by rw [sz]; omega)

/-- The second package's piece. -/
theorem ref_j1_true (s : ByteArray) (hs : s.size ≤ 16777216) (a i k : Nat) (q : Bool) (out : List ByteArray) (h1 : a ≤ i) (h2 : i ≤ s.size) (h3 : out.length < 8796093022208) (hk : 2 * s.size + 3 < k) :
    ostlerref01_List.j1 (k + 1) s out (a : Int) q (i : Int) true = ostlerref01_List.l0 k s (addM s a i out) ((i + 1 : Nat) : Int) q ((i + 1 : Nat) : Int) := by
  have hx := extract_size s a i h2
  have e1 : wrap64 ((i : Int) + 1) = ((i + 1 : Nat) : Int) := w1 (by omega)
  have q1 : (0 : Int) ≤ (a : Int) := by clear e1; omega
  have q2 : (a : Int) ≤ (i : Int) := by clear e1; omega
  have q3 : (i : Int) ≤ (s.size : Int) := by clear e1; omega
  have q4 : (s.extract a i).size ≤ 140737488355328 := by clear e1; omega
  have q5 : (s.extract a i).size + (s.extract a i).size + 2 < k := by clear e1; omega
  rw [ostlerref01_List.j1, if_pos rfl, if_pos q1, if_pos q2, if_pos q3, Int.toNat_natCast, Int.toNat_natCast, ref_Trim_is _ q4 q5, Option.bind_some, e1, extract_seg]
  unfold addM
  by_cases h : Lib.trimS (seg s a i) [32, 9] = []
  · have : ¬ (((⟨(Lib.trimS (seg s a i) [32, 9]).toArray⟩ : ByteArray).size : Int) > 0) := by rw [h]; decide
    rw [if_neg this, if_pos h]
  · have : (((⟨(Lib.trimS (seg s a i) [32, 9]).toArray⟩ : ByteArray).size : Int) > 0) := by
      have := List.length_pos_iff.2 h
      have e : (⟨(Lib.trimS (seg s a i) [32, 9]).toArray⟩ : ByteArray).size = (Lib.trimS (seg s a i) [32, 9]).length := by rw [← sz]
      clear e1; omega
    rw [if_pos this, if_neg h, if_pos h3]
theorem ref_List_G (s : ByteArray) (hs : s.size ≤ 16777216) : ∀ (n : Nat) (l : List UInt8) (q : Bool) (i a k : Nat) (out : List ByteArray), l.length ≤ n → s.data.toList.drop i = l → i ≤ s.size → a ≤ i → out.length + l.length ≤ 33554432 → 3 * l.length + 2 * s.size + 10 < k →
    ostlerref01_List.l0 k s out (a : Int) q (i : Int) = some (G s l q i a out)
  | n, [], q, i, a, k, out, hln, hd, hi, ha, ho, hk => by
    simp only [List.length_nil] at ho hk
    obtain ⟨k, rfl⟩ : ∃ m, k = m + 3 := ⟨k - 3, by omega⟩
    have hn := dn hd hi
    have q1 : (i : Int) ≤ (s.size : Int) := by omega
    have q2 : (i : Int) = (s.size : Int) := by omega
    have q3 : ¬ (((i + 1 : Nat) : Int) ≤ (s.size : Int)) := by omega
    rw [ostlerref01_List.l0, if_pos q1, if_pos q2, ref_j1_true s hs a i (k + 1) q out ha hi (by omega) (by omega), ostlerref01_List.l0, if_neg q3, G_nil]
  | 0, c :: t, q, i, a, k, out, hln, hd, hi, ha, ho, hk => by simp at hln
  | n + 1, c :: t, q, i, a, k, out, hln, hd, hi, ha, ho, hk => by
    simp only [List.length_cons] at hln ho hk
    obtain ⟨k, rfl⟩ : ∃ m, k = m + 3 := ⟨k - 3, by omega⟩
    obtain ⟨h1, h2, h3⟩ := dc hd
    have q1 : (i : Int) ≤ (s.size : Int) := by omega
    have q2 : ¬ ((i : Int) = (s.size : Int)) := by omega
    have q3 : (0 : Int) ≤ (i : Int) := by omega
    have q4 : (i : Int) < (s.size : Int) := by omega
    have ih1 : ∀ (q : Bool), ostlerref01_List.l0 k s out (a : Int) q ((i + 1 : Nat) : Int) = some (G s t q (i + 1) a out) := fun q => ref_List_G s hs n t q (i + 1) a k out (by omega) h3 (by omega) (by omega) (by omega) (by omega)
    have e1 : wrap64 ((i : Int) + 1) = ((i + 1 : Nat) : Int) := w1 (by omega)
    have jf : c ≠ 34 → ostlerref01_List.j2 (k + 1) s out (a : Int) q (i : Int) false = some (G s t q (i + 1) a out) := by
      intro hq
      have hq1 : ¬ ((c.toNat : Int) = 34) := fun h => hq (UInt8.toNat_inj.1 (by show c.toNat = 34; clear e1; omega))
      rw [ostlerref01_List.j2, if_neg (by decide), if_pos q3, if_pos q4, h2, if_neg hq1, e1, ih1]
    by_cases hc : c = 44
    · subst hc
      cases q with
      | false =>
        have hal := addM_length s a i out
        have ih := ref_List_G s hs n t false (i + 1) (i + 1) (k + 1) (addM s a i out) (by clear e1; omega) h3 (by clear e1; omega) (Nat.le_refl _) (by clear e1; omega) (by clear e1; omega)
        rw [ostlerref01_List.l0, if_pos q1, if_neg q2, if_pos q3, if_pos q4, h2, if_pos (show ((UInt8.toNat 44 : Nat) : Int) = 44 from rfl)]
        show ostlerref01_List.j1 (k + 1 + 1) s out (a : Int) false (i : Int) true = _
        rw [ref_j1_true s hs a i (k + 1) false out ha hi (by clear e1; omega) (by clear e1; omega), ih, G_comma]
      | true =>
        rw [ostlerref01_List.l0, if_pos q1, if_neg q2, if_pos q3, if_pos q4, h2, if_pos (show ((UInt8.toNat 44 : Nat) : Int) = 44 from rfl)]
        show ostlerref01_List.j1 (k + 1 + 1) s out (a : Int) true (i : Int) false = _
        rw [ostlerref01_List.j1, if_neg (by decide), if_pos q3, if_pos q4, h2, if_neg (by decide), jf (by decide), G_other s 44 t true i a out (by simp) (by simp) (by decide)]
    · have hc1 : ¬ ((c.toNat : Int) = 44) := fun h => hc (UInt8.toNat_inj.1 (by show c.toNat = 44; clear e1; omega))
      rw [ostlerref01_List.l0, if_pos q1, if_neg q2, if_pos q3, if_pos q4, h2, if_neg hc1, ostlerref01_List.j1, if_neg (by decide), if_pos q3, if_pos q4, h2]
      by_cases hs2 : c = 92
      · subst hs2
        rw [if_pos (show ((UInt8.toNat 92 : Nat) : Int) = 92 from rfl)]
        cases q with
        | false =>
          rw [if_neg (by decide), jf (by decide), G_other s 92 t false i a out (by simp) (by simp) (by decide)]
        | true =>
          rw [if_pos rfl, e1]
          match t, h3, hln, ho, hk, jf with
          | [], h3, hln, ho, hk, jf =>
            have hn := dn h3 (by clear e1; omega)
            rw [decide_eq_false (by clear e1; omega), jf (by decide), G_slash_last, G_nil]
          | d :: t, h3, hln, ho, hk, jf =>
            simp only [List.length_cons] at hln ho hk
            obtain ⟨f1, _, f3⟩ := dc h3
            have e2 : wrap64 (((i + 1 : Nat) : Int) + 1) = ((i + 1 + 1 : Nat) : Int) := w1 (by clear e1; omega)
            have ih := ref_List_G s hs n t true (i + 1 + 1) a k out (by clear e1 e2; omega) f3 (by clear e1 e2; omega) (by clear e1 e2; omega) (by clear e1 e2; omega) (by clear e1 e2; omega)
            rw [decide_eq_true (by clear e1 e2; omega), ostlerref01_List.j2, if_pos rfl, e1, e2, ih, G_slash]
      · have hs3 : ¬ ((c.toNat : Int) = 92) := fun h => hs2 (UInt8.toNat_inj.1 (by show c.toNat = 92; clear e1; omega))
        rw [if_neg hs3]
        by_cases hq : c = 34
        · subst hq
          rw [ostlerref01_List.j2, if_neg (by decide), if_pos q3, if_pos q4, h2, if_pos (show ((UInt8.toNat 34 : Nat) : Int) = 34 from rfl), e1, ih1, G_quote]
        · rw [jf hq, G_other s c t q i a out (by simp [hc]) (by simp [hs2]) hq]
theorem ref_List_is (s : ByteArray) (hs : s.size ≤ 16777216) {k : Nat} (hk : 5 * s.size + 10 < k) : ostlerref01_List.f k s = some (G s s.data.toList false 0 0 []) := by
  unfold ostlerref01_List.f
  exact ref_List_G s hs s.data.toList.length s.data.toList false 0 0 k [] (Nat.le_refl _) rfl (by omega) (Nat.le_refl _) (by rw [sz]; simp; omega) (by rw [sz]; omega)
theorem G_length (s : ByteArray) : ∀ (l : List UInt8) (q : Bool) (i a : Nat) (out : List ByteArray), (G s l q i a out).length ≤ out.length + l.length + 1
  | [], q, i, a, out => by rw [G]; exact addM_length s a i out
  | [c], q, i, a, out => by
    rw [G]
    have h1 := addM_length s a i out
    have h2 := addM_length s (i + 1) (i + 1) (addM s a i out)
    have h3 := addM_length s a (i + 1) out
    split <;> simp only [List.length_cons, List.length_nil] <;> omega
  | c :: d :: t, q, i, a, out => by
    have h1 := addM_length s a i out
    have g1 := G_length s (d :: t) false (i + 1) (i + 1) (addM s a i out)
    have g2 := G_length s t true (i + 1 + 1) a out
    have g3 := G_length s (d :: t) (!q) (i + 1) a out
    have g4 := G_length s (d :: t) q (i + 1) a out
    rw [G]
    simp only [List.length_cons] at g1 g3 g4 ⊢
    split
    · omega
    · split
      · omega
      · split <;> omega
/-- What holds of each piece that is added holds of each member. -/
theorem G_all (s : ByteArray) (P : ByteArray → Prop) (hP : ∀ a i, Lib.trimS (seg s a i) [32, 9] ≠ [] → P ⟨(Lib.trimS (seg s a i) [32, 9]).toArray⟩) : ∀ (l : List UInt8) (q : Bool) (i a : Nat) (out : List ByteArray), (∀ m ∈ out, P m) → ∀ m ∈ G s l q i a out, P m := by
  have hM : ∀ (a i : Nat) (out : List ByteArray), (∀ m ∈ out, P m) → ∀ m ∈ addM s a i out, P m := by
    intro a i out h m hm
    unfold addM at hm
    split at hm
    · exact h m hm
    · rename_i hne
      rcases List.mem_append.1 hm with hm | hm
      · exact h m hm
      · rw [List.mem_singleton.1 hm]; exact hP a i hne
  intro l
  suffices all : ∀ (n : Nat) (l : List UInt8), l.length ≤ n → ∀ (q : Bool) (i a : Nat) (out : List ByteArray), (∀ m ∈ out, P m) → ∀ m ∈ G s l q i a out, P m from all l.length l (Nat.le_refl _)
  intro n
  induction n with
  | zero =>
    intro l hl q i a out h
    rw [List.length_eq_zero_iff.1 (by omega : l.length = 0), G_nil]
    exact hM a i out h
  | succ n ih =>
    intro l hl q i a out h
    match l, hl with
    | [], _ => rw [G_nil]; exact hM a i out h
    | [c], _ =>
      unfold G
      split
      · exact hM _ _ _ (hM _ _ _ h)
      · exact hM _ _ _ h
    | c :: d :: t, hl =>
      simp only [List.length_cons] at hl
      unfold G
      split
      · exact ih _ (by simp; omega) _ _ _ _ (hM _ _ _ h)
      · split
        · exact ih _ (by omega) _ _ _ _ h
        · split
          · exact ih _ (by simp; omega) _ _ _ _ h
          · exact ih _ (by simp; omega) _ _ _ _ h
theorem seg_length (s : ByteArray) (a i : Nat) : (seg s a i).length ≤ s.size := by
  unfold seg; rw [List.length_take, List.length_drop, sz]; omega
theorem trimS_length (l : List UInt8) : (Lib.trimS l [32, 9]).length ≤ l.length := by
  rw [trimS_blank]
  have h1 := (List.dropWhile_sublist (p := blankB) (l := (l.reverse.dropWhile blankB).reverse)).length_le
  have h2 := (List.dropWhile_sublist (p := blankB) (l := l.reverse)).length_le
  simp only [List.length_reverse] at h1 h2
  omega
end Go.Proofs.YtbndichleiameaaDoor.Q
