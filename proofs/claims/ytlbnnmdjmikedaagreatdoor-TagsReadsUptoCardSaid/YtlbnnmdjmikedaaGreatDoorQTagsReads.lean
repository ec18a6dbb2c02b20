/- The plain law of TagsReads: which tags a list has, or that it is none. -/
import Derived.Test.YtlbnnmdjmikedaaGreatDoorQTagsB
import Derived.Test.YtlbnnmdjmikedaaGreatDoorQTrim
import Derived.Test.YtlbnnmdjmikedaaGreatDoorPPx25
namespace Go.Proofs.YtlbnnmdjmikedaaGreatDoor.Q
set_option linter.unusedVariables false
set_option linter.unusedSimpArgs false
open Go.RowKit Go.Proofs.YtlbnnmdjmikedaaGreatDoorW.PrintWords Go.Proofs.YtlbnnmdjmikedaaGreatDoorW.PrintLast Go.Proofs.YtlbnnmdjmikedaaGreatDoorW.PrintMore
open PP
abbrev Rt := S36
def cv (x : Tg) : Rt := ⟨x.f0, x.f1⟩
def etB (b : UInt8) : Bool := b == 33 || (decide (35 ≤ b.toNat) && decide (b.toNat ≤ 126)) || decide (128 ≤ b.toNat)
theorem etagc_is : ∀ b : UInt8, ostlerref15_etagc.f (b.toNat : Int) = some (etB b) := all8 (by decide +kernel)
theorem etB_yes : ∀ b : UInt8, etB b = true → b ≠ 34 ∧ 33 ≤ b.toNat ∧ b ≠ 127 := all8 (by decide +kernel)
theorem etB_no : ∀ b : UInt8, etB b = false → b = 34 ∨ b.toNat < 33 ∨ b = 127 := all8 (by decide +kernel)
theorem one_loop (wk : Bool) (hd : List UInt8) (hh : hd.length ≤ 2) : ∀ (s pre : List UInt8) (k : Nat), hd.length + 1 + pre.length + s.length < 9223372036854775807 → s.length < k →
    ostlerref15_one.l0 k (B (hd ++ 34 :: (pre ++ s))) (hd.length : Int) wk ((hd.length + 1 + pre.length : Nat) : Int) = some (match bodyL s with | none => (false, ⟨#[]⟩, 0) | some p => (wk, B (34 :: (pre ++ (p.1 ++ [34]))), ((hd.length + 1 + pre.length + p.1.length + 1 : Nat) : Int)))
  | [], pre, k, hb, hk => by
    obtain ⟨j, rfl⟩ : ∃ j, k = j + 1 := ⟨k - 1, by omega⟩
    have hsz : (B (hd ++ 34 :: (pre ++ []))).size = hd.length + 1 + pre.length := by rw [B_size]; simp; omega
    rw [ostlerref15_one.l0, hsz, if_neg (by omega), if_pos (by omega)]; rfl
  | b :: t, pre, k, hb, hk => by
    rw [List.length_cons] at hb hk
    obtain ⟨j, rfl⟩ : ∃ j, k = j + 1 := ⟨k - 1, by omega⟩
    have hdr : (hd ++ 34 :: (pre ++ b :: t)).drop (hd.length + 1 + pre.length) = b :: t := by
      rw [show hd ++ 34 :: (pre ++ b :: t) = (hd ++ 34 :: pre) ++ b :: t by simp, List.drop_left' (by simp; omega)]
    obtain ⟨h1, h2, h3⟩ := dc (s := B (hd ++ 34 :: (pre ++ b :: t))) (i := hd.length + 1 + pre.length) (b := b) (t := t) (by rw [B_toList]; exact hdr)
    have hsz : (B (hd ++ 34 :: (pre ++ b :: t))).size = hd.length + 1 + pre.length + 1 + t.length := by rw [B_size]; simp; omega
    rw [ostlerref15_one.l0, if_pos (by omega), if_pos (by omega), h2, etagc_is, Option.bind_some, bodyL]
    by_cases ce : etB b = true
    · obtain ⟨e1, e2, e3⟩ := etB_yes b ce
      rw [if_pos ce, if_neg e1, if_neg (by omega), if_neg e3, w1' (by omega)]
      have ih := one_loop wk hd hh t (pre ++ [b]) j (by simp; omega) (by omega)
      rw [List.append_assoc, List.singleton_append, show hd.length + 1 + (pre ++ [b]).length = hd.length + 1 + pre.length + 1 by simp; omega] at ih
      rw [ih]
      cases bodyL t with
      | none => rfl
      | some p =>
        simp
        omega
    · rw [if_neg ce, if_neg (by omega)]
      by_cases c1 : b = 34
      · subst c1
        rw [if_pos (show ((34 : UInt8).toNat : Int) = 34 from rfl), w1' (by omega), if_pos (by omega), if_pos (by omega), if_pos (by omega), if_pos rfl]
        have e1 : (B (hd ++ 34 :: (pre ++ 34 :: t))).extract hd.length (hd.length + 1 + pre.length + 1) = B (34 :: (pre ++ ([] ++ [34]))) := by
          rw [B_extract, List.drop_left, show hd.length + 1 + pre.length + 1 - hd.length = (pre.length + 1) + 1 by omega, List.take_succ_cons, show pre ++ 34 :: t = (pre ++ [34]) ++ t by simp, List.take_left' (by simp)]; rfl
        rw [Int.toNat_natCast, Int.toNat_natCast, e1]; rfl
      · have c1' : ¬ (b.toNat : Int) = 34 := fun h => c1 (UInt8.toNat_inj.1 (by rw [show (34 : UInt8).toNat = 34 from rfl]; omega))
        rw [if_neg c1', if_neg c1]
        rcases etB_no b (by simpa using ce) with h | h | h
        · exact absurd h c1
        · rw [if_pos h]
        · by_cases h3 : b.toNat < 33
          · rw [if_pos h3]
          · rw [if_neg h3, if_pos h]
theorem one_is (l : List UInt8) (hl : l.length ≤ 140737488355328) {k : Nat} (hk : l.length + 4 < k) :
    ostlerref15_one.f k (B l) = some (match nextL l with | none => (false, ⟨#[]⟩, 0) | some p => (p.1, B p.2.1, (((l.length - p.2.2.length : Nat)) : Int))) := by
  obtain ⟨k, rfl⟩ : ∃ j, k = j + 1 + 1 + 1 := ⟨k - 3, by omega⟩
  have tail : ∀ (wk : Bool) (hd m : List UInt8), hd.length ≤ 2 → l = hd ++ m → ostlerref15_one.j1 (k + 1 + 1) (B l) (hd.length : Int) wk = some (match quoteL wk m with | none => (false, ⟨#[]⟩, 0) | some p => (p.1, B p.2.1, (((l.length - p.2.2.length : Nat)) : Int))) := by
    intro wk hd m hh he
    have hlen : l.length = hd.length + m.length := by rw [he]; simp
    rw [ostlerref15_one.j1, B_size]
    cases m with
    | nil =>
      rw [List.length_nil] at hlen
      rw [if_pos (by omega), ostlerref15_one.j2, if_pos rfl]; rfl
    | cons b t =>
      rw [List.length_cons] at hlen
      obtain ⟨h1, h2, h3⟩ := dc (s := B l) (i := hd.length) (b := b) (t := t) (by rw [B_toList, he, List.drop_left])
      rw [if_neg (by omega), if_pos (by omega), if_pos (by omega), h2, ostlerref15_one.j2, quoteL]
      by_cases hb : b = 34
      · subst hb
        rw [if_neg (show ¬ (((34 : UInt8).toNat : Int) != 34) = true by decide), if_pos rfl, w1' (by omega)]
        have := one_loop wk hd hh t [] k (by simp; omega) (by omega)
        rw [List.nil_append, List.length_nil, Nat.add_zero, ← he] at this
        rw [this]
        cases hq : bodyL t with
        | none => rfl
        | some p =>
          have := bodyL_len t p hq
          have e : hd.length + 1 + p.1.length + 1 = l.length - p.2.length := by omega
          show some (wk, B (34 :: ([] ++ (p.1 ++ [34]))), ((hd.length + 1 + p.1.length + 1 : Nat) : Int)) = some (wk, B (34 :: (p.1 ++ [34])), ((l.length - p.2.length : Nat) : Int))
          rw [e]; rfl
      · have hb' : ¬ (b.toNat : Int) = 34 := fun h => hb (UInt8.toNat_inj.1 (by rw [show (34 : UInt8).toNat = 34 from rfl]; omega))
        rw [if_pos (show ((b.toNat : Int) != 34) = true by simpa using hb'), if_neg hb]
  unfold ostlerref15_one.f nextL
  rw [B_size]
  by_cases h2 : 2 ≤ l.length
  · rw [if_pos (by omega), if_pos (by decide), if_pos (by omega), B_extract, B_toL, List.drop_zero, ostlerref15_one.j0]
    by_cases h : l.take 2 = [87, 47]
    · have hq : (l.take (2 - 0) == [87, 47]) = true := by
        show (l.take 2 == [87, 47]) = true
        rw [h]; rfl
      rw [hq, if_pos rfl, if_pos h]
      have := tail true (l.take 2) (l.drop 2) (by rw [List.length_take]; omega) (List.take_append_drop 2 l).symm
      rw [show ((l.take 2).length : Int) = 2 by rw [h]; rfl] at this
      exact this
    · rw [show (l.take (2 - 0) == [87, 47]) = false from beq_eq_false_iff_ne.2 h, if_neg (by decide), if_neg h]
      exact tail false [] l (by simp) rfl
  · have h : ¬ l.take 2 = [87, 47] := fun e => by have := congrArg List.length e; rw [List.length_take] at this; simp at this; omega
    rw [if_neg (by omega), ostlerref15_one.j0, if_neg (by decide), if_neg h]
    exact tail false [] l (by simp) rfl
/-- what follows a tag ends as the list does -/
theorem bodyL_split : ∀ (l : List UInt8) p, bodyL l = some p → ∃ f, l = f ++ p.2
  | [], p, h => by cases h
  | b :: t, p, h => by
    rw [bodyL] at h
    split at h
    · obtain rfl := Option.some.inj h; exact ⟨[b], rfl⟩
    · split at h
      · cases h
      · split at h
        · cases h
        · obtain ⟨q, hq, rfl⟩ := Option.map_eq_some_iff.1 h
          obtain ⟨f, hf⟩ := bodyL_split t q hq
          exact ⟨b :: f, by rw [hf]; rfl⟩
theorem quoteL_split (w : Bool) (l : List UInt8) (p) (h : quoteL w l = some p) : ∃ f, l = f ++ p.2.2 := by
  cases l with
  | nil => cases h
  | cons b t =>
    rw [quoteL] at h
    split at h
    · obtain ⟨q, hq, rfl⟩ := Option.map_eq_some_iff.1 h
      obtain ⟨f, hf⟩ := bodyL_split t q hq
      exact ⟨b :: f, by rw [hf]; rfl⟩
    · cases h
theorem nextL_split (l : List UInt8) (p) (h : nextL l = some p) : ∃ f, l = f ++ p.2.2 := by
  unfold nextL at h
  split at h
  · obtain ⟨f, hf⟩ := quoteL_split _ _ _ h
    exact ⟨l.take 2 ++ f, by rw [List.append_assoc, ← hf, List.take_append_drop]⟩
  · exact quoteL_split _ _ _ h
/-- no blank at the end -/
def noTail (l : List UInt8) : Prop := ∀ b, l.getLast? = some b → blankB b = false
theorem noTail_suffix {f l : List UInt8} (h : noTail (f ++ l)) : noTail l := by
  intro b hb
  refine h b ?_
  rw [List.getLast?_append, hb]; rfl
theorem dw_head {p : UInt8 → Bool} {l : List UInt8} (h : ∀ b, l.head? = some b → p b = false) : l.dropWhile p = l := by
  cases l with
  | nil => rfl
  | cons b t => rw [List.dropWhile_cons, h b rfl]; rfl
theorem trim_noTail {l : List UInt8} (h : noTail l) : trimL l = l.dropWhile blankB := by
  unfold trimL
  rw [trimS_blank, dw_head (l := l.reverse) (fun b hb => h b (by rw [← List.head?_reverse]; exact hb)), List.reverse_reverse]
theorem dw_head' (p : UInt8 → Bool) : ∀ (l : List UInt8) b, (l.dropWhile p).head? = some b → p b = false
  | [], b, h => by cases h
  | c :: t, b, h => by
    rw [List.dropWhile_cons] at h
    split at h
    · exact dw_head' p t b h
    · rename_i hc
      obtain rfl := Option.some.inj h
      simpa using hc
theorem dw_suffix (p : UInt8 → Bool) : ∀ l : List UInt8, ∃ f, l = f ++ l.dropWhile p
  | [] => ⟨[], rfl⟩
  | c :: t => by
    rw [List.dropWhile_cons]
    split
    · obtain ⟨f, hf⟩ := dw_suffix p t
      exact ⟨c :: f, by rw [List.cons_append, ← hf]⟩
    · exact ⟨[], rfl⟩
theorem trim_ends (l : List UInt8) : noTail (trimL l) ∧ (trimL l).dropWhile blankB = trimL l := by
  unfold trimL
  rw [trimS_blank]
  refine ⟨?_, dw_head (fun b hb => dw_head' _ _ b hb)⟩
  have h1 : noTail (l.reverse.dropWhile blankB).reverse := fun b hb => by
    rw [List.getLast?_reverse] at hb
    exact dw_head' _ _ b hb
  obtain ⟨f, hf⟩ := dw_suffix blankB (l.reverse.dropWhile blankB).reverse
  rw [hf] at h1
  exact noTail_suffix h1
theorem map_nil_iff {acc : List Tg} : (((acc.map cv).length : Nat) : Int) = 0 ↔ acc = [] := by
  cases acc <;> simp <;> omega
theorem ref_loop : ∀ (N : Nat) (L l : List UInt8) (at_ n : Nat) (acc : List Tg) (op : Bool) (k : Nat), l.length ≤ N → L.drop at_ = l → at_ + l.length = L.length → noTail l → l.length < n → acc.length + l.length ≤ 1099511627776 → L.length ≤ 1099511627776 → l.length + l.length + 10 ≤ k →
    ostlerref15_Parse.l0 k (B L) (acc.map cv) (at_ : Int) op = some ((parseT n (l.dropWhile blankB) acc op).1.map cv, (parseT n (l.dropWhile blankB) acc op).2.1, (parseT n (l.dropWhile blankB) acc op).2.2)
  | N, L, [], at_, n, acc, op, k, hN, hd, ha, ht, hn, hb, hL, hk => by
    obtain ⟨j, rfl⟩ : ∃ j, k = j + 1 := ⟨k - 1, by omega⟩
    obtain ⟨m, rfl⟩ : ∃ m, n = m + 1 := ⟨n - 1, by simp at hn; omega⟩
    rw [List.length_nil] at ha
    rw [ostlerref15_Parse.l0, B_size, if_neg (by omega), List.dropWhile_nil, parseT]
    by_cases h : acc = []
    · rw [if_pos (map_nil_iff.2 h), if_pos h]; rfl
    · rw [if_neg (fun e => h (map_nil_iff.1 e)), if_neg h]
  | 0, L, b :: t, at_, n, acc, op, k, hN, hd, ha, ht, hn, hb, hL, hk => by simp at hN
  | N + 1, L, b :: t, at_, n, acc, op, k, hN, hd, ha, ht, hn, hb, hL, hk => by
    rw [List.length_cons] at hN ha hn hb hk
    obtain ⟨j, rfl⟩ : ∃ j, k = j + 1 := ⟨k - 1, by omega⟩
    obtain ⟨h1, h2, h3⟩ := dc (s := B L) (i := at_) (b := b) (t := t) (by rw [B_toList]; exact hd)
    rw [B_toList] at h3
    have hsz : (B L).size = at_ + 1 + t.length := by rw [B_size]; omega
    have htt : noTail t := noTail_suffix (f := [b]) ht
    rw [ostlerref15_Parse.l0, if_pos (by omega), if_pos (by omega), h2, blank_some, Option.bind_some, w1' (by omega), List.dropWhile_cons]
    by_cases hbl : blankB b = true
    · rw [if_pos hbl, if_pos hbl]
      exact ref_loop N L t (at_ + 1) n acc op j (by omega) h3 (by omega) htt (by omega) (by omega) hL (by omega)
    · rw [if_neg hbl, if_neg hbl]
      obtain ⟨m, rfl⟩ : ∃ m, n = m + 1 := ⟨n - 1, by omega⟩
      rw [parseT]
      by_cases hc : b = 44
      · subst hc
        rw [if_pos (show ((44 : UInt8).toNat : Int) = 44 from rfl), if_pos rfl, trim_noTail htt]
        exact ref_loop N L t (at_ + 1) m acc true j (by omega) h3 (by omega) htt (by omega) (by omega) hL (by omega)
      · have hc' : ¬ (b.toNat : Int) = 44 := fun h => hc (UInt8.toNat_inj.1 (by rw [show (44 : UInt8).toNat = 44 from rfl]; omega))
        have ex : (B L).extract at_ (at_ + 1 + t.length) = B (b :: t) := by
          rw [B_extract, hd, List.take_of_length_le (by simp; omega)]
        rw [if_neg hc', if_neg hc, if_pos (by omega), Int.toNat_natCast, hsz, ex, one_is (b :: t) (by simp; omega) (by simp; omega), Option.bind_some]
        cases hx : nextL (b :: t) with
        | none => rfl
        | some p =>
          have hp := nextL_len _ _ hx
          obtain ⟨f, hf⟩ := nextL_split _ _ hx
          rw [List.length_cons] at hp
          have hfl : t.length + 1 = f.length + p.2.2.length := by have := congrArg List.length hf; simpa using this
          have hne : ¬ ((((b :: t).length - p.2.2.length : Nat)) : Int) = 0 := by rw [List.length_cons]; omega
          show (if ((((b :: t).length - p.2.2.length : Nat)) : Int) = 0 then _ else _) = _
          rw [if_neg hne]
          by_cases ho : op = true
          · rw [if_pos ho, if_pos (by rw [List.length_map]; omega)]
            have hw : wrap64 ((at_ : Int) + ((((b :: t).length - p.2.2.length : Nat)) : Int)) = ((at_ + f.length : Nat) : Int) := by
              rw [List.length_cons, wrap64_of_fits (by omega) (by omega)]; omega
            have hdrop : L.drop (at_ + f.length) = p.2.2 := by
              rw [← List.drop_drop, hd, hf, List.drop_left]
            have ih := ref_loop N L p.2.2 (at_ + f.length) m (acc ++ [(⟨p.1, B p.2.1⟩ : Tg)]) false j (by omega) hdrop (by omega) (noTail_suffix (f := f) (by rw [← hf]; exact ht)) (by omega) (by simp; omega) hL (by omega)
            have ht2 : noTail p.2.2 := noTail_suffix (f := f) (by rw [← hf]; exact ht)
            show ostlerref15_Parse.l0 j (B L) (acc.map cv ++ [cv ⟨p.1, B p.2.1⟩]) (wrap64 ((at_ : Int) + ((((b :: t).length - p.2.2.length : Nat)) : Int))) false = some ((if op = true then parseT m (trimL p.2.2) _ false else _).1.map cv, _, _)
            rw [hw, show acc.map cv ++ [cv ⟨p.1, B p.2.1⟩] = (acc ++ [(⟨p.1, B p.2.1⟩ : Tg)]).map cv by simp, ih]
            dsimp only
            rw [if_pos ho, trim_noTail ht2]
          · rw [if_neg ho]
            dsimp only
            rw [if_neg ho]; rfl
theorem ref_Parse_is (l : List UInt8) (hl : l.length ≤ 1073741824) {k : Nat} (hk : l.length + l.length + 10 ≤ k) : ostlerref15_Parse.f k (B l) = some ((ParseT l).1.map cv, (ParseT l).2.1, (ParseT l).2.2) := by
  have ht := trimL_len l
  obtain ⟨e1, e2⟩ := trim_ends l
  unfold ostlerref15_Parse.f ParseT
  rw [ref_Trim_is (B l) (by rw [B_size]; omega) (by rw [B_size]; omega), Option.bind_some]
  rw [show (⟨(Lib.trimS (B l).data.toList [32, 9]).toArray⟩ : ByteArray) = B (trimL l) from rfl, B_toL]
  by_cases h : trimL l = [42]
  · rw [if_pos h, if_pos h]; rfl
  · rw [if_neg h, if_neg h]
    have := ref_loop _ (trimL l) (trimL l) 0 (l.length + 1) [] true k (Nat.le_refl _) rfl (by omega) e1 (by omega) (by simp; omega) (by omega) (by omega)
    rw [e2] at this
    exact this
theorem parseT_len : ∀ (n : Nat) (l : List UInt8) (acc : List Tg) (c : Bool), (parseT n l acc c).1.length ≤ acc.length + l.length
  | 0, l, acc, c => by simp [parseT]
  | n + 1, [], acc, c => by
    rw [parseT]; split
    · simp
    · simp
  | n + 1, b :: t, acc, c => by
    rw [parseT]
    split
    · have := parseT_len n (trimL t) acc true
      have := trimL_len t
      simp; omega
    · split
      · simp
      · rename_i p hx
        have hp := nextL_len _ _ hx
        rw [List.length_cons] at hp
        split
        · have := parseT_len n (trimL p.2.2) (acc ++ [(⟨p.1, B p.2.1⟩ : Tg)]) false
          have := trimL_len p.2.2
          simp at *; omega
        · simp
theorem ParseT_len (l : List UInt8) : (ParseT l).1.length ≤ l.length := by
  unfold ParseT
  split
  · simp
  · have := parseT_len (l.length + 1) (trimL l) [] true
    have := trimL_len l
    simp at *; omega
theorem same_loopT (A : List Tg) (hA : A.length ≤ 1099511627776) : ∀ (d i k : Nat), i + d = A.length → d < k → ostlerlaw15_same.l0 k A (A.map cv) (i : Int) = some true
  | 0, i, k, hi, hk => by
    obtain ⟨j, rfl⟩ : ∃ j, k = j + 1 := ⟨k - 1, by omega⟩
    rw [ostlerlaw15_same.l0, if_neg (by omega)]
  | d + 1, i, k, hi, hk => by
    obtain ⟨j, rfl⟩ : ∃ j, k = j + 1 := ⟨k - 1, by omega⟩
    have e : rd_T36 (A.map cv) (i : Int) = cv (rd_T31 A (i : Int)) := by
      unfold rd_T36 rd_T31
      rw [Int.toNat_natCast, List.getD, List.getD, List.getElem?_map, List.getElem?_eq_getElem (show i < A.length by omega)]; rfl
    rw [ostlerlaw15_same.l0, if_pos (by omega), if_pos (by omega), if_pos (by rw [List.length_map]; omega), e]
    unfold cv
    dsimp only
    rw [bne_self_eq_false, if_neg (by decide), if_pos rfl, w1' (by omega)]
    exact same_loopT A hA d (i + 1) j (by omega) (by omega)
theorem same_selfT (A : List Tg) (hA : A.length ≤ 1099511627776) {k : Nat} (hk : A.length < k) : ostlerlaw15_same.f k A (A.map cv) = some true := by
  unfold ostlerlaw15_same.f
  rw [if_pos (by rw [List.length_map])]
  exact same_loopT A hA A.length 0 k (by omega) hk
theorem reads_loop (A : List Tg) (hA : A.length ≤ 1048576) : ∀ (d i k : Nat) (x3 : List Tg), x3.length ≤ 1048576 → i + d = x3.length → A.length + d + 200 < k → ostlerlaw15_TagsReads.l0 k x3 A (A.map cv) (i : Int) = some true
  | 0, i, k, x3, hx, hi, hk => by
    obtain ⟨j, rfl⟩ : ∃ j, k = j + 1 := ⟨k - 1, by omega⟩
    rw [ostlerlaw15_TagsReads.l0, if_neg (by omega), same_selfT A (by omega) (by omega), Option.bind_some, if_pos rfl, awake15 (by omega)]; rfl
  | d + 1, i, k, x3, hx, hi, hk => by
    obtain ⟨j, rfl⟩ : ∃ j, k = j + 1 := ⟨k - 1, by omega⟩
    rw [ostlerlaw15_TagsReads.l0, if_pos (by omega), if_pos (by omega), w1' (by omega)]
    exact reads_loop A hA d (i + 1) j _ (by rw [List.length_set]; exact hx) (by rw [List.length_set]; omega) (by omega)
theorem TagsReads (a0 : ByteArray) (hb : a0.data.size ≤ 1048576) : ∃ k, ostlerlaw15_TagsReads.f k a0 = some true := by
  obtain ⟨l, rfl⟩ : ∃ b, a0 = B b := ⟨_, B_of a0⟩
  have h0 : (B l).data.size = l.length := B_size l
  have hz := ParseT_len l
  have hp := Parse_is l (by omega) (k := 4000001) (by omega)
  have hq := ref_Parse_is l (by omega) (k := 4000001) (by omega)
  refine ⟨4000001, ?_⟩
  unfold ostlerlaw15_TagsReads.f
  rw [hp, hq, Option.bind_some, Option.bind_some, Option.bind_some]
  dsimp only
  rw [bne_self_eq_false, if_neg (by decide), if_pos rfl, same_selfT _ (by omega) (by omega), Option.bind_some, show (!true) = false from rfl]
  rw [show (4000001 : Nat) = 4000000 + 1 from rfl, ostlerlaw15_TagsReads.j0, if_neg (by decide)]
  exact reads_loop _ (by omega) _ 0 _ _ (by omega) (by rw [Nat.zero_add]) (by omega)
end Go.Proofs.YtlbnnmdjmikedaaGreatDoor.Q
