/- What the reference reads of a list of ranges is what the program reads. -/
import Derived.Test.YtciibddoejhmlaaGreatDoorQRangesA
import Derived.Test.YtciibddoejhmlaaGreatDoorQNum
import Derived.Test.YtciibddoejhmlaaGreatDoorQTrim
import Derived.Test.YtciibddoejhmlaaGreatDoorPPx13
import Derived.Test.YtciibddoejhmlaaGreatDoorPPx8
namespace Go.Proofs.YtciibddoejhmlaaGreatDoor.Q
set_option linter.unusedVariables false
set_option linter.unusedSimpArgs false
open Go.RowKit Go.Proofs.YtciibddoejhmlaaGreatDoorW.PrintWords Go.Proofs.YtciibddoejhmlaaGreatDoorW.PrintLast Go.Proofs.YtciibddoejhmlaaGreatDoorW.PrintMore
open PP
theorem spec10 (l : List UInt8) : NumR l = if (text_parse.spec 10 l).2 = 0 then ((text_parse.spec 10 l).1, decide (l.length ≤ 15)) else (0, false) := by
  unfold NumR text_parse.spec
  by_cases h1 : l = []
  · rw [if_pos h1, if_pos h1, if_neg (show ¬ (10 : Int) = 0 by decide)]
  · rw [if_neg h1, if_neg h1]
    by_cases h2 : l.all (fun c => (digOf 10 c).isSome) = true
    · rw [if_pos h2, if_pos h2]
      by_cases h3 : numOf 10 0 l < 9223372036854775808
      · rw [if_pos h3, if_pos h3, if_pos rfl]
      · rw [if_neg h3, if_neg h3, if_neg (show ¬ (5 : Int) = 0 by decide)]
    · rw [if_neg h2, if_neg h2, if_neg (show ¬ (10 : Int) = 0 by decide)]
theorem spec10_bd (l : List UInt8) : 0 ≤ (text_parse.spec 10 l).1 ∧ (text_parse.spec 10 l).1 < 9223372036854775808 := by
  unfold text_parse.spec
  split
  · simp
  · split
    · split
      · simp only; omega
      · simp
    · simp
theorem digits_is (l : List UInt8) (h : l.length ≤ 1048576) {k : Nat} (hk : 3000000 ≤ k) : ∃ v, ostlerref16_digits.f k (B l) = some (v, (NumR l).2) ∧ ((NumR l).2 = true → v = (NumR l).1) ∧ 0 ≤ v ∧ v < 9223372036854775808 := by
  have hr := ref_number_is base10 (B l) (by rw [B_size]; omega) (k := k) (by rw [B_size]; omega)
  unfold ostlerref16_digits.f
  rw [B_size]
  by_cases h0 : l.length < 1
  · have e : l = [] := List.length_eq_zero_iff.1 (by omega)
    subst e
    exact ⟨0, by rw [if_pos (by simp)]; rfl, fun _ => rfl, by decide, by decide⟩
  · rw [if_neg (by omega)]
    by_cases h1 : l.length > 15
    · have hn : (NumR l).2 = false := by
        rw [spec10]; split
        · exact decide_eq_false (by omega)
        · rfl
      rw [if_pos (by omega), hn]
      exact ⟨0, rfl, (fun h => by cases h), by decide, by decide⟩
    · have hb := spec10_bd l
      rw [if_neg (by omega), spec10]
      unfold ostlerref01_Number.f
      rw [show (10 : Int) = ((10 : Nat) : Int) from rfl, hr, Option.bind_some, Option.bind_some, B_toList]
      refine ⟨(text_parse.spec 10 l).1, ?_, ?_, hb.1, hb.2⟩
      · by_cases h2 : (text_parse.spec 10 l).2 = 0
        · rw [if_pos h2, h2, decide_eq_true (by omega)]; rfl
        · rw [if_neg h2]
          refine congrArg some (Prod.ext rfl ?_)
          exact beq_eq_false_iff_ne.2 h2
      · intro h3
        by_cases h2 : (text_parse.spec 10 l).2 = 0
        · rw [if_pos h2]
        · rw [if_neg h2] at h3; cases h3
theorem piece_any (l : List UInt8) (size : Int) (d : Nat) (hl : l.length ≤ 1048576) (k : Nat) : ∀ (n i : Nat), i + n = l.length → ostlerref16_piece.l0 (k + n) (B l) size (d : Int) (i : Int) = ostlerref16_piece.l0 k (B l) size (d : Int) (l.length : Int)
  | 0, i, hi => by rw [show i = l.length by omega]; rfl
  | n + 1, i, hi => by
    have ih := piece_any l size d hl k n (i + 1) (by omega)
    rw [show k + (n + 1) = (k + n) + 1 by omega, ostlerref16_piece.l0, B_size, if_pos (by omega), if_pos (by omega)]
    by_cases hq : bt (B l) (i : Int) = 45
    · rw [if_pos hq, if_neg (by omega), w1' (by omega), ih]
    · rw [if_neg hq, w1' (by omega), ih]
theorem piece_no (l : List UInt8) (size : Int) (hl : l.length ≤ 1048576) (k : Nat) : ∀ (n i : Nat) (p t : List UInt8), l.drop i = p ++ t → p.length = n → (45 : UInt8) ∉ p → ostlerref16_piece.l0 (k + n) (B l) size (-1) (i : Int) = ostlerref16_piece.l0 k (B l) size (-1) ((i + n : Nat) : Int)
  | 0, i, p, t, hd, hp, hn => rfl
  | n + 1, i, [], t, hd, hp, hn => by cases hp
  | n + 1, i, c :: p, t, hd, hp, hn => by
    rw [List.cons_append] at hd
    obtain ⟨h1, h2, h3⟩ := dc (s := B l) (i := i) (b := c) (t := p ++ t) (by rw [B_toList]; exact hd)
    rw [B_toList] at h3
    rw [B_size] at h1
    have hc : ¬ (c.toNat : Int) = 45 := by
      intro e
      have : c = 45 := UInt8.toNat_inj.1 (by rw [show (45 : UInt8).toNat = 45 from rfl]; omega)
      exact hn (by simp [this])
    have ih := piece_no l size hl k n (i + 1) p t h3 (by simpa using hp) (fun h => hn (List.mem_cons_of_mem _ h))
    rw [show k + (n + 1) = (k + n) + 1 by omega, ostlerref16_piece.l0, B_size, if_pos (by omega), if_pos (by omega), h2, if_neg hc, w1' (by omega), ih, show i + 1 + n = i + (n + 1) by omega]
/-- what the reference's piece tells, beside what the program's tells -/
theorem piece_is (l : List UInt8) (size : Int) (h : l.length ≤ 1048576) (hs0 : 0 ≤ size) (hs1 : size ≤ 9223372036854775807) {k : Nat} (hk : 6000000 ≤ k) : ∃ q, ostlerref16_piece.f k (B l) size = some q ∧ q.2.2.2 = (Part l size).2.2.2 ∧ (q.2.2.2 = true → q = Part l size) := by
  unfold ostlerref16_piece.f Part
  rcases cut_one 45 l with ⟨hn, e⟩ | ⟨p, r, hl, hn, e⟩
  · rw [e]
    dsimp only
    rw [if_neg (show ¬ false = true by decide)]
    refine ⟨(0, 0, false, false), ?_, rfl, fun h => by cases h⟩
    have := piece_no l size h (k - l.length) l.length 0 l [] (by simp) rfl hn
    rw [show k - l.length + l.length = k by omega, Nat.zero_add] at this
    have this' : ostlerref16_piece.l0 k (B l) size (-1) 0 = ostlerref16_piece.l0 (k - l.length) (B l) size (-1) ((l.length : Nat) : Int) := this
    rw [this']
    obtain ⟨m, hm⟩ : ∃ m, k - l.length = m + 1 := ⟨k - l.length - 1, by omega⟩
    rw [hm, ostlerref16_piece.l0, B_size, if_neg (by omega), if_pos (by decide)]
  · rw [e]
    dsimp only
    rw [if_pos rfl]
    have hlen : l.length = p.length + 1 + r.length := by rw [hl]; simp; omega
    have a1 := piece_no l size h (k - p.length) p.length 0 p (45 :: r) (by rw [hl]; rfl) rfl hn
    rw [show k - p.length + p.length = k by omega, Nat.zero_add] at a1
    obtain ⟨m, hm⟩ : ∃ m, k - p.length = m + 1 + r.length + 1 := ⟨k - p.length - 1 - r.length - 1, by omega⟩
    obtain ⟨h1, h2, h3⟩ := dc (s := B l) (i := p.length) (b := 45) (t := r) (by rw [B_toList, hl]; simp)
    have a2 := piece_any l size p.length h (m + 1) r.length (p.length + 1) (by omega)
    have ep : l.take p.length = p := by rw [hl]; simp
    have er : l.drop (p.length + 1) = r := by rw [hl]; simp
    obtain ⟨u, u1, u2, u3, u4⟩ := digits_is p (by omega) (k := m) (by omega)
    obtain ⟨v, v1, v2, v3, v4⟩ := digits_is r (by omega) (k := m) (by omega)
    have e1 : wrap64 (size - 1) = size - 1 := wrap64_of_fits (by omega) (by omega)
    have e2 : wrap64 (size - v) = size - v := wrap64_of_fits (by clear e1; omega) (by clear e1; omega)
    have e3 : wrap64 (size - (NumR r).1) = size - (NumR r).1 := by have := NumR_bd r; exact wrap64_of_fits (by clear e1 e2; omega) (by clear e1 e2; omega)
    have a1' : ostlerref16_piece.l0 k (B l) size (-1) 0 = ostlerref16_piece.l0 (k - p.length) (B l) size (-1) ((p.length : Nat) : Int) := a1
    rw [a1', hm, ostlerref16_piece.l0, if_pos (by clear e1 e2 e3; omega), if_pos (by clear e1 e2 e3; omega), h2, if_pos (show ((UInt8.toNat 45 : Nat) : Int) = 45 from rfl), if_pos (by decide), w1' (by clear e1 e2 e3; omega), a2, ostlerref16_piece.l0, B_size, if_neg (by clear e1 e2 e3; omega), if_neg (by clear e1 e2 e3; omega), if_pos (by clear e1 e2 e3; omega), if_pos (by clear e1 e2 e3; omega),
      Int.toNat_natCast, B_extract, Nat.sub_zero, List.drop_zero, ep, u1, Option.bind_some, w1' (by clear e1 e2 e3; omega), if_pos (by clear e1 e2 e3; omega), if_pos (by clear e1 e2 e3; omega), Int.toNat_natCast, B_extract, er, List.take_of_length_le (by clear e1 e2 e3; omega), v1, Option.bind_some, e1, e2, e3]
    dsimp only
    rw [show wrap64 ((l.length : Int) - 1) = ((p.length + r.length : Nat) : Int) by clear e1 e2 e3; rw [wrap64_of_fits (by omega) (by omega)]; omega]
    clear e1 e2 e3 a1 a1' a2 h1 h2 h3 u1 v1
    by_cases hp : p = []
    · have hp0 : p.length = 0 := by rw [hp]; rfl
      rw [if_pos (show ((p.length : Nat) : Int) = 0 by omega)]
      by_cases hr : r = []
      · have hf : (NumR r).2 = false := by rw [hr]; rfl
        rw [if_pos (show p = [] ∧ r = [] from ⟨hp, hr⟩), hf]
        by_cases hv : v > 0
        · rw [if_pos hv]; exact ⟨_, rfl, rfl, fun h => by cases h⟩
        · rw [if_neg hv]; exact ⟨_, rfl, rfl, fun h => by cases h⟩
      · rw [if_neg (show ¬ (p = [] ∧ r = []) from fun h => hr h.2), if_pos hp]
        by_cases hv : v > 0
        · rw [if_pos hv]
          refine ⟨_, rfl, rfl, fun hq => ?_⟩
          have ev := v2 hq
          rw [← ev, decide_eq_true hv, Bool.true_and]
          refine Prod.ext ?_ rfl
          show mx _ _ = mx _ _
          unfold mx; split <;> split <;> omega
        · rw [if_neg hv]
          refine ⟨_, rfl, rfl, fun hq => ?_⟩
          have ev := v2 hq
          rw [← ev, decide_eq_false hv, Bool.false_and]
          refine Prod.ext ?_ rfl
          show mx _ _ = mx _ _
          unfold mx; split <;> split <;> omega
    · have hp0 : 0 < p.length := List.length_pos_iff.2 hp
      rw [if_neg (show ¬ ((p.length : Nat) : Int) = 0 by omega), if_neg (show ¬ (p = [] ∧ r = []) from fun h => hp h.1), if_neg hp]
      by_cases hr : r = []
      · have hr0 : r.length = 0 := by rw [hr]; rfl
        rw [if_pos (show ((p.length : Nat) : Int) = ((p.length + r.length : Nat) : Int) by omega), if_pos hr]
        refine ⟨_, rfl, rfl, fun hq => ?_⟩
        rw [u2 hq]
      · have hr0 : 0 < r.length := List.length_pos_iff.2 hr
        rw [if_neg (show ¬ ((p.length : Nat) : Int) = ((p.length + r.length : Nat) : Int) by omega), if_neg hr]
        by_cases hu : (NumR p).2 = true
        · rw [if_pos hu, hu, Bool.true_and]
          by_cases hv : (NumR r).2 = true
          · rw [if_pos hv, hv, Bool.true_and, u2 hu, v2 hv]
            exact ⟨_, rfl, rfl, fun _ => rfl⟩
          · have hf : (NumR r).2 = false := by simpa using hv
            rw [if_neg hv, hf, Bool.false_and]
            exact ⟨_, rfl, rfl, fun h => by cases h⟩
        · have hf : (NumR p).2 = false := by simpa using hu
          rw [if_neg hu, hf, Bool.false_and]
          exact ⟨_, rfl, rfl, fun h => by cases h⟩
/-- a text at its commas, trimmed, the empty ones left out -/
def cutL (ws : List (List UInt8)) : List (List UInt8) := (ws.map trimL).filter (fun x => x ≠ [])
def addC (out : List (List UInt8)) (cur : List UInt8) : List (List UInt8) := if trimL cur = [] then out else out ++ [trimL cur]
def cutF : List UInt8 → List UInt8 → List (List UInt8) → List (List UInt8)
  | [], cur, out => addC out cur
  | c :: t, cur, out => if c = 44 then cutF t [] (addC out cur) else cutF t (cur ++ [c]) out
theorem addC_is (out : List (List UInt8)) (cur : List UInt8) : addC out cur = out ++ cutL [cur] := by
  unfold addC cutL
  by_cases h : trimL cur = []
  · rw [if_pos h]; simp [h]
  · rw [if_neg h]; simp [h]
theorem cutL_cons (x : List UInt8) (ws : List (List UInt8)) : cutL (x :: ws) = cutL [x] ++ cutL ws := by
  unfold cutL
  by_cases h : trimL x = [] <;> simp [h]
theorem cutF_is : ∀ (t cur : List UInt8) (out : List (List UInt8)), (44 : UInt8) ∉ cur → cutF t cur out = out ++ cutL (splitC 44 (cur ++ t))
  | [], cur, out, h => by rw [cutF, addC_is, List.append_nil, splitC_none 44 cur h]
  | c :: t, cur, out, h => by
    rw [cutF]
    by_cases hc : c = 44
    · rw [if_pos hc, hc, cutF_is t [] _ (by simp), splitC_hit 44 t cur h, addC_is, cutL_cons cur (splitC 44 t), List.nil_append, List.append_assoc]
    · rw [if_neg hc, cutF_is t (cur ++ [c]) out (by simp [h]; exact fun e => hc e.symm), List.append_assoc]; rfl
theorem ref_trim_B (l : List UInt8) (h : l.length ≤ 1048576) {k : Nat} (hk : 3000000 ≤ k) : ostlerref01_Trim.f k (B l) = some (B (trimL l)) :=
  ref_Trim_is (B l) (by rw [B_size]; omega) (by rw [B_size]; omega)
theorem addC_len (out : List (List UInt8)) (cur : List UInt8) : (addC out cur).length ≤ out.length + 1 := by
  unfold addC; split
  · omega
  · simp
theorem B_ext_seg (l : List UInt8) (a i : Nat) : (B l).extract a i = B ((l.drop a).take (i - a)) := B_extract l a i
theorem cut_j1 (l : List UInt8) (hl : l.length ≤ 1048576) (out : List (List UInt8)) (ho : out.length ≤ 8000000) (a i : Nat) (h1 : a ≤ i) (h2 : i ≤ l.length) {k : Nat} (hk : 3000000 ≤ k) :
    ostlerref16_cut.j1 (k + 1) (B l) (out.map B) (a : Int) (i : Int) true = ostlerref16_cut.l0 k (B l) ((addC out ((l.drop a).take (i - a))).map B) ((i + 1 : Nat) : Int) ((i + 1 : Nat) : Int) := by
  have hz : ((l.drop a).take (i - a)).length ≤ l.length := by simp; omega
  rw [ostlerref16_cut.j1, if_pos rfl, if_pos (by omega), if_pos (by omega), B_size, if_pos (by omega), Int.toNat_natCast, Int.toNat_natCast, B_extract, ref_trim_B _ (by omega) hk, Option.bind_some, B_toL, w1' (by omega)]
  unfold addC
  by_cases h : trimL ((l.drop a).take (i - a)) = []
  · rw [if_pos h, if_pos h]
  · rw [if_neg h, if_neg h, List.length_map, if_pos (by omega), List.map_append]; rfl
theorem cut_loop (l : List UInt8) (hl : l.length ≤ 1048576) : ∀ (t : List UInt8) (a i k : Nat) (out : List (List UInt8)), l.drop i = t → a ≤ i → i ≤ l.length → out.length + t.length ≤ 4000000 → 2 * t.length + 3000010 ≤ k →
    ostlerref16_cut.l0 k (B l) (out.map B) (a : Int) (i : Int) = some ((cutF t ((l.drop a).take (i - a)) out).map B)
  | t, a, i, 0, out, hd, h1, h2, ho, hk => absurd hk (by omega)
  | t, a, i, 1, out, hd, h1, h2, ho, hk => absurd hk (by omega)
  | [], a, i, k + 2, out, hd, h1, h2, ho, hk => by
    have hi : i = l.length := by have := List.drop_eq_nil_iff.1 hd; omega
    have hal := addC_len out ((l.drop a).take (i - a))
    rw [ostlerref16_cut.l0, B_size, if_pos (by omega), if_pos (by omega), cut_j1 l hl out (by omega) a i h1 h2 (by omega)]
    obtain ⟨m, rfl⟩ : ∃ m, k = m + 1 := ⟨k - 1, by omega⟩
    rw [ostlerref16_cut.l0, B_size, if_neg (by omega), cutF]
  | c :: t, a, i, k + 2, out, hd, h1, h2, ho, hk => by
    obtain ⟨g1, g2, g3⟩ := dc (s := B l) (i := i) (b := c) (t := t) (by rw [B_toList]; exact hd)
    rw [B_toList] at g3
    rw [B_size] at g1
    have hal := addC_len out ((l.drop a).take (i - a))
    rw [List.length_cons] at ho hk
    rw [ostlerref16_cut.l0, B_size, if_pos (by omega), if_neg (by omega), if_pos (by omega), if_pos (by omega), g2, cutF]
    by_cases hc : c = 44
    · rw [if_pos hc, show ((c.toNat : Int) == 44) = true by rw [hc]; rfl, cut_j1 l hl out (by omega) a i h1 h2 (by omega), cut_loop l hl t (i + 1) (i + 1) k _ g3 (by omega) (by omega) (by omega) (by omega), Nat.sub_self, List.take_zero]
    · have hcf : ((c.toNat : Int) == 44) = false := by
        refine beq_eq_false_iff_ne.2 (fun e => hc (UInt8.toNat_inj.1 ?_))
        rw [show (44 : UInt8).toNat = 44 from rfl]; omega
      have es : (l.drop a).take (i + 1 - a) = (l.drop a).take (i - a) ++ [c] := by
        rw [show i + 1 - a = (i - a) + 1 by omega, List.take_add_one, List.getElem?_drop, show a + (i - a) = i by omega]
        have : l[i]? = some c := by
          have := congrArg (fun q : List UInt8 => q[0]?) hd
          simpa using this
        rw [this]; rfl
      rw [if_neg hc, hcf, ostlerref16_cut.j1, if_neg (by decide), w1' (by omega), cut_loop l hl t a (i + 1) k out g3 (by omega) (by omega) (by omega) (by omega), es]
theorem cut_ref (l : List UInt8) (hl : l.length ≤ 1048576) {k : Nat} (hk : 6000000 ≤ k) : ostlerref16_cut.f k (B l) = some ((cutL (splitC 44 l)).map B) := by
  unfold ostlerref16_cut.f
  have := cut_loop l hl l 0 0 k [] rfl (by omega) (by omega) (by simp only [List.length_nil]; omega) (by omega)
  rw [cutF_is _ _ _ (by simp)] at this
  simpa using this
/-- the reference's loop over the pieces -/
def refL (size : Int) (N : Nat) : List (List UInt8) → List Rg → List Rg × Int
  | [], acc => if N > 8 then ([], 4) else (if acc = [] then ([], 161) else (acc, 0))
  | x :: xs, acc => if (Part x size).2.2.2 = true then (if (Part x size).2.2.1 = true then refL size N xs (acc ++ [⟨(Part x size).1, (Part x size).2.1⟩]) else refL size N xs acc) else ([], 160)
theorem ref_loop (size : Int) (hs0 : 0 ≤ size) (hs1 : size ≤ 9223372036854775807) (xs : List (List UInt8)) (hlen : xs.length ≤ 2000000) (hx : ∀ x ∈ xs, x.length ≤ 1048576) : ∀ (d i k : Nat) (acc : List Rg), i + d = xs.length → d + 6000010 ≤ k → acc.length ≤ i →
    ostlerref16_Parse.l0 k size (xs.map B) acc (i : Int) = some (refL size xs.length (xs.drop i) acc)
  | d, i, 0, acc, hi, hk, ha => absurd hk (by omega)
  | 0, i, k + 1, acc, hi, hk, ha => by
    rw [ostlerref16_Parse.l0, List.length_map, if_neg (by omega), List.drop_of_length_le (by omega), refL]
    by_cases h1 : xs.length > 8
    · rw [if_pos (by omega), if_pos h1]
    · rw [if_neg (by omega), if_neg h1]
      by_cases h2 : acc = []
      · rw [if_pos (by rw [h2]; rfl), if_pos h2]
      · rw [if_neg (by have := List.length_pos_iff.2 h2; omega), if_neg h2]
  | d + 1, i, k + 1, acc, hi, hk, ha => by
    have hlt : i < xs.length := by omega
    have hr : rdOf ByteArray.empty (xs.map B) (i : Int) = B xs[i] := by unfold rdOf; rw [Int.toNat_natCast, List.getD_eq_getElem?_getD, List.getElem?_map, List.getElem?_eq_getElem hlt]; rfl
    obtain ⟨q, q1, q2, q3⟩ := piece_is xs[i] size (hx _ (List.getElem_mem hlt)) hs0 hs1 (k := k) (by omega)
    rw [ostlerref16_Parse.l0, List.length_map, if_pos (by omega), if_pos (by omega), hr, q1, Option.bind_some, List.drop_eq_getElem_cons hlt, refL]
    by_cases h1 : (Part xs[i] size).2.2.2 = true
    · have hq := q3 (by rw [q2]; exact h1)
      rw [hq, if_pos h1, if_pos h1]
      by_cases h2 : (Part xs[i] size).2.2.1 = true
      · rw [if_pos h2, if_pos h2, if_pos (by omega), w1' (by omega)]
        exact ref_loop size hs0 hs1 xs hlen hx d (i + 1) k _ (by omega) (by omega) (by simp; omega)
      · rw [if_neg h2, if_neg h2, w1' (by omega)]
        exact ref_loop size hs0 hs1 xs hlen hx d (i + 1) k _ (by omega) (by omega) (by omega)
    · rw [if_neg (by rw [q2]; exact h1), if_neg h1]
theorem refL_many (size : Int) (N : Nat) (hN : N > 8) : ∀ (xs : List (List UInt8)) (acc acc' : List Rg), refL size N xs acc = refL size N xs acc'
  | [], acc, acc' => by rw [refL, refL, if_pos hN, if_pos hN]
  | x :: xs, acc, acc' => by
    rw [refL, refL]
    split
    · split
      · exact refL_many size N hN xs _ _
      · exact refL_many size N hN xs _ _
    · rfl
theorem parse_same (size : Int) (N : Nat) (hN : 1 ≤ N) : ∀ (ws : List (List UInt8)) (acc acc' : List Rg) (n : Nat), N = n + (cutL ws).length → acc.length ≤ n → (N ≤ 8 → acc = acc') → parseL size ws acc n = refL size N (cutL ws) acc'
  | [], acc, acc', n, hn, ha, he => by
    have hn' : N = n := hn
    rw [parseL, show cutL ([] : List (List UInt8)) = [] from rfl, refL, if_neg (by omega)]
    by_cases h1 : n > 8
    · rw [if_pos h1, if_pos (by omega)]
    · rw [if_neg h1, if_neg (show ¬ N > 8 by omega), he (by omega)]
  | x :: ws, acc, acc', n, hn, ha, he => by
    rw [parseL]
    by_cases h0 : trimL x = []
    · have e : cutL (x :: ws) = cutL ws := by unfold cutL; simp [h0]
      rw [if_pos h0, e]
      rw [e] at hn
      exact parse_same size N hN ws acc acc' n hn ha he
    · have e : cutL (x :: ws) = trimL x :: cutL ws := by unfold cutL; simp [h0]
      rw [if_neg h0, e, refL]
      rw [e, List.length_cons] at hn
      by_cases h1 : (Part (trimL x) size).2.2.2 = true
      · rw [if_pos h1, if_pos h1]
        by_cases h2 : (Part (trimL x) size).2.2.1 = true
        · rw [if_pos h2]
          by_cases h3 : acc.length < 8
          · rw [if_pos ⟨h2, h3⟩]
            exact parse_same size N hN ws _ _ (n + 1) (by omega) (by simp; omega) (fun h => by rw [he h])
          · rw [if_neg (fun h => h3 h.2)]
            exact parse_same size N hN ws _ _ (n + 1) (by omega) (by omega) (fun h => by omega)
        · rw [if_neg h2, if_neg (fun h => h2 h.1)]
          exact parse_same size N hN ws _ _ (n + 1) (by omega) (by omega) he
      · rw [if_neg h1, if_neg h1]
theorem cutL_len (ws : List (List UInt8)) : (cutL ws).length ≤ ws.length := by unfold cutL; exact Nat.le_trans (List.length_filter_le _ _) (by simp)
theorem cutL_mem (ws : List (List UInt8)) (n : Nat) (h : ∀ x ∈ ws, x.length ≤ n) : ∀ x ∈ cutL ws, x.length ≤ n := by
  intro x hx
  unfold cutL at hx
  obtain ⟨y, hy, rfl⟩ := List.mem_map.1 (List.mem_filter.1 hx).1
  have := (trimL_mem y).1
  have := h y hy
  omega
theorem parse_empty (size : Int) : ∀ (ws : List (List UInt8)), cutL ws = [] → parseL size ws [] 0 = ([], 160)
  | [], _ => by rw [parseL, if_pos rfl]
  | x :: ws, h => by
    rw [parseL]
    by_cases h0 : trimL x = []
    · have e : cutL (x :: ws) = cutL ws := by unfold cutL; simp [h0]
      rw [if_pos h0]; rw [e] at h
      exact parse_empty size ws h
    · have e : cutL (x :: ws) = trimL x :: cutL ws := by unfold cutL; simp [h0]
      rw [e] at h; cases h
theorem ref_Parse_is (l : List UInt8) (size : Int) (h : l.length ≤ 1048576) (hs1 : size ≤ 9223372036854775807) {k : Nat} (hk : 9000000 ≤ k) : ostlerref16_Parse.f k (B l) size = some (ParseL l size) := by
  unfold ostlerref16_Parse.f ParseL
  by_cases h0 : size < 0
  · rw [if_pos h0, if_pos h0]
  rw [if_neg h0, if_neg h0, B_size]
  obtain ⟨m, rfl⟩ : ∃ m, k = m + 1 := ⟨k - 1, by omega⟩
  by_cases h6 : l.length < 6
  · rw [if_pos (by omega), ostlerref16_Parse.j0, if_pos rfl, if_neg (fun e => by have := congrArg List.length e; simp at this; omega)]
  · rw [if_neg (by omega), if_pos (by decide), if_pos (by omega), B_extract, B_toL, Nat.sub_zero, List.drop_zero]
    by_cases h1 : l.take 6 = [98, 121, 116, 101, 115, 61]
    · have hd : (l.drop 6).length ≤ l.length := by simp
      obtain ⟨m1, m2⟩ := splitC_mem 44 (l.drop 6)
      have m3 := cutL_len (splitC 44 (l.drop 6))
      have m4 := cutL_mem (splitC 44 (l.drop 6)) 1048576 (fun x hx => by have := (m2 x hx).1; omega)
      rw [if_pos h1, h1, show ([98, 121, 116, 101, 115, 61] != ([98, 121, 116, 101, 115, 61] : List UInt8)) = false from by decide, ostlerref16_Parse.j0, if_neg (by decide), B_size, if_pos (by omega), B_extract, List.take_of_length_le (by simp), cut_ref _ (by omega) (by omega), Option.bind_some, List.length_map]
      by_cases h2 : cutL (splitC 44 (l.drop 6)) = []
      · rw [if_pos (by rw [h2]; rfl), parse_empty size _ h2]
      · have h3 : 0 < (cutL (splitC 44 (l.drop 6))).length := List.length_pos_iff.2 h2
        rw [if_neg (by omega), parse_same size (cutL (splitC 44 (l.drop 6))).length (by omega) _ [] [] 0 (by omega) (by simp) (fun _ => rfl)]
        exact ref_loop size (by omega) hs1 _ (by omega) m4 _ 0 m [] (Nat.zero_add _) (by omega) (by simp)
    · rw [if_neg h1, show (l.take 6 != ([98, 121, 116, 101, 115, 61] : List UInt8)) = true from bne_iff_ne.2 h1, ostlerref16_Parse.j0, if_pos rfl]
end Go.Proofs.YtciibddoejhmlaaGreatDoor.Q
