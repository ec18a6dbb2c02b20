/- Tags: what the program's functions come to, in the words of lists; the chapter's example holds. -/
import Derived.Test.YtlbnnmdjmikedaaGreatDoorQDec
import Derived.Lib.SlTrimSet
import Derived.KernelRfl
import Derived.Test.YtlbnnmdjmikedaaGreatDoorPPx4
import Derived.Test.YtlbnnmdjmikedaaGreatDoorPPx6
import Derived.Test.YtlbnnmdjmikedaaGreatDoorPPx3
import Derived.Test.YtlbnnmdjmikedaaGreatDoorPPx8
import Derived.Test.YtlbnnmdjmikedaaGreatDoorPPx20
import Derived.Test.YtlbnnmdjmikedaaGreatDoorPPx21
namespace Go.Proofs.YtlbnnmdjmikedaaGreatDoor.Q
set_option linter.unusedVariables false
set_option linter.unusedSimpArgs false
open Go.RowKit Go.Proofs.YtlbnnmdjmikedaaGreatDoorW.PrintWords Go.Proofs.YtlbnnmdjmikedaaGreatDoorW.PrintLast Go.Proofs.YtlbnnmdjmikedaaGreatDoorW.PrintMore
open PP

theorem w1' {i : Nat} (h : i < 9223372036854775807) : wrap64 ((i : Int) + 1) = ((i + 1 : Nat) : Int) := by rw [wrap64_of_fits (by omega) (by omega)]; omega
abbrev Tg := S31
abbrev Fd := S48
def trimL (l : List UInt8) : List UInt8 := Lib.trimS l [32, 9]
theorem Trim_is (l : List UInt8) (h : l.length ≤ 140737488355328) : text_Trim.f (B l) = some (B (trimL l)) := by
  unfold text_Trim.f strings_Trim.f
  rw [if_pos (by rw [B_size]; omega), if_pos rfl]; rfl
theorem dw_len {α : Type} (f : α → Bool) : ∀ l : List α, (l.dropWhile f).length ≤ l.length
  | [] => by simp
  | a :: l => by
    have h1 := dw_len f l
    rw [List.dropWhile_cons]
    split
    · simp; omega
    · exact Nat.le_refl _
theorem trimL_len (l : List UInt8) : (trimL l).length ≤ l.length := by
  unfold trimL Lib.trimS Lib.trimLeftS Lib.trimRightS
  have h1 := dw_len (fun x => ([32, 9] : List UInt8).contains x) l.reverse
  have h3 := dw_len (fun x => ([32, 9] : List UInt8).contains x) ((l.reverse.dropWhile (fun x => ([32, 9] : List UInt8).contains x)).reverse)
  rw [List.length_reverse] at h3 h1; omega
theorem dw_none {α : Type} (f : α → Bool) : ∀ l : List α, (∀ x ∈ l, f x = false) → l.dropWhile f = l
  | [], _ => rfl
  | a :: l, h => by rw [List.dropWhile_cons, h a (by simp)]; rfl
theorem trimL_none (l : List UInt8) (h : ∀ x ∈ l, x ≠ 32 ∧ x ≠ 9) : trimL l = l := by
  have hf : ∀ x ∈ l, (fun x => ([32, 9] : List UInt8).contains x) x = false := fun x hx => by simp [h x hx]
  unfold trimL Lib.trimS Lib.trimLeftS Lib.trimRightS
  rw [dw_none _ l.reverse (fun x hx => hf x (List.mem_reverse.1 hx)), List.reverse_reverse, dw_none _ l hf]
/-- what stands ahead of the closing quote, and behind it -/
def bodyL : List UInt8 → Option (List UInt8 × List UInt8)
  | [] => none
  | b :: t => if b = 34 then some ([], t) else (if b.toNat < 33 then none else (if b = 127 then none else (bodyL t).map fun p => (b :: p.1, p.2)))
def quoteL (weak : Bool) : List UInt8 → Option (Bool × List UInt8 × List UInt8)
  | [] => none
  | b :: t => if b = 34 then (bodyL t).map fun p => (weak, 34 :: (p.1 ++ [34]), p.2) else none
def nextL (l : List UInt8) : Option (Bool × List UInt8 × List UInt8) := if l.take 2 = [87, 47] then quoteL true (l.drop 2) else quoteL false l
theorem bodyL_len : ∀ (l : List UInt8) p, bodyL l = some p → p.1.length + 1 + p.2.length = l.length
  | [], p, h => by cases h
  | b :: t, p, h => by
    rw [bodyL] at h
    split at h
    · obtain rfl := Option.some.inj h; simp; omega
    · split at h
      · cases h
      · split at h
        · cases h
        · obtain ⟨q, hq, rfl⟩ := Option.map_eq_some_iff.1 h
          have := bodyL_len t q hq
          simp; omega
theorem quoteL_len (w : Bool) (l : List UInt8) (p) (h : quoteL w l = some p) : p.2.1.length + p.2.2.length = l.length ∧ 2 ≤ p.2.1.length := by
  cases l with
  | nil => cases h
  | cons b t =>
    rw [quoteL] at h
    split at h
    · obtain ⟨q, hq, rfl⟩ := Option.map_eq_some_iff.1 h
      have := bodyL_len t q hq
      simp; omega
    · cases h
theorem nextL_len (l : List UInt8) (p) (h : nextL l = some p) : p.2.2.length + 2 ≤ l.length := by
  unfold nextL at h
  split at h
  · have := quoteL_len _ _ _ h; rw [List.length_drop] at this; omega
  · have := quoteL_len _ _ _ h; omega
theorem hasPrefix_is (l p : List UInt8) : stringslite_HasPrefix.f (B l) (B p) = some (decide (l.take p.length = p)) := by
  unfold stringslite_HasPrefix.f
  rw [B_size, B_size]
  by_cases h : p.length ≤ l.length
  · rw [if_pos (by omega), if_pos (by omega), if_pos (by omega), B_extract, B_toL, B_toL, List.drop_zero, Int.toNat_natCast, Nat.sub_zero]
    refine congrArg some ?_
    by_cases e : l.take p.length = p
    · rw [e, decide_eq_true rfl, beq_self_eq_true]
    · rw [decide_eq_false e]; exact beq_eq_false_iff_ne.2 e
  · rw [if_neg (by omega), decide_eq_false]
    intro e
    have := congrArg List.length e
    rw [List.length_take] at this; omega
theorem next_loop (x0 : ByteArray) (wk : Bool) : ∀ (s pre : List UInt8) (k : Nat), 1 + pre.length + s.length < 9223372036854775807 → s.length < k →
    tags_next.l0 k x0 (B (34 :: (pre ++ s))) wk ((1 + pre.length : Nat) : Int) = some (match bodyL s with | none => (false, ⟨#[]⟩, x0, false) | some p => (wk, B (34 :: (pre ++ (p.1 ++ [34]))), B p.2, true))
  | [], pre, k, hb, hk => by
    obtain ⟨j, rfl⟩ : ∃ j, k = j + 1 := ⟨k - 1, by omega⟩
    rw [tags_next.l0, B_size, if_neg (by simp; omega)]; rfl
  | b :: t, pre, k, hb, hk => by
    rw [List.length_cons] at hb hk
    obtain ⟨j, rfl⟩ : ∃ j, k = j + 1 := ⟨k - 1, by omega⟩
    obtain ⟨h1, h2, h3⟩ := dc (s := B (34 :: (pre ++ b :: t))) (i := 1 + pre.length) (b := b) (t := t) (by rw [B_toList, Nat.add_comm, List.drop_succ_cons, List.drop_left])
    have hsz : (B (34 :: (pre ++ b :: t))).size = 1 + pre.length + 1 + t.length := by rw [B_size]; simp; omega
    rw [tags_next.l0, if_pos (by omega), if_pos (by omega), h2, w1' (by omega), bodyL]
    by_cases c1 : b = 34
    · subst c1
      rw [if_pos (show ((34 : UInt8).toNat : Int) = 34 from rfl), if_pos (by omega), if_pos (by omega), if_pos rfl]
      have e1 : (B (34 :: (pre ++ 34 :: t))).extract 0 (1 + pre.length + 1) = B (34 :: (pre ++ ([] ++ [34]))) := by
        rw [B_extract, List.drop_zero, Nat.sub_zero, show 1 + pre.length + 1 = (pre.length + 1) + 1 by omega, List.take_succ_cons, show pre ++ 34 :: t = (pre ++ [34]) ++ t by simp, List.take_left' (by simp)]; rfl
      have e2 : (B (34 :: (pre ++ 34 :: t))).extract (1 + pre.length + 1) (1 + pre.length + 1 + t.length) = B t := by
        rw [B_extract, show 1 + pre.length + 1 = (pre.length + 1) + 1 by omega, List.drop_succ_cons, show pre ++ 34 :: t = (pre ++ [34]) ++ t by simp, List.drop_left' (by simp), List.take_of_length_le (by omega)]
      rw [Int.toNat_natCast, hsz, e1, e2]
    · have c1' : ¬ (b.toNat : Int) = 34 := fun h => c1 (UInt8.toNat_inj.1 (by rw [show (34 : UInt8).toNat = 34 from rfl]; omega))
      rw [if_neg c1', if_neg c1]
      by_cases c2 : b.toNat < 33
      · rw [if_pos (by omega), if_pos c2]
      · rw [if_neg (by omega), if_neg c2]
        by_cases c3 : b = 127
        · subst c3; rw [if_pos (show ((127 : UInt8).toNat : Int) = 127 from rfl), if_pos rfl]
        · have c3' : ¬ (b.toNat : Int) = 127 := fun h => c3 (UInt8.toNat_inj.1 (by rw [show (127 : UInt8).toNat = 127 from rfl]; omega))
          rw [if_neg c3', if_neg c3]
          have ih := next_loop x0 wk t (pre ++ [b]) j (by simp; omega) (by omega)
          rw [List.append_assoc, List.singleton_append, show 1 + (pre ++ [b]).length = 1 + pre.length + 1 by simp; omega] at ih
          rw [ih]
          cases bodyL t with
          | none => rfl
          | some p => simp
theorem next_is (l : List UInt8) (hl : l.length ≤ 140737488355328) {k : Nat} (hk : l.length < k) :
    tags_next.f k (B l) = some (match nextL l with | none => (false, ⟨#[]⟩, B l, false) | some p => (p.1, B p.2.1, B p.2.2, true)) := by
  have tail : ∀ (wk : Bool) (m : List UInt8), m.length ≤ l.length → ((strings_HasPrefix.f (B m) (⟨#[34]⟩ : ByteArray)).bind fun t113 => (if t113 = true then (tags_next.l0 k (B l) (B m) wk 1) else (some (false, (⟨#[]⟩ : ByteArray), B l, false)))) = some (match quoteL wk m with | none => (false, ⟨#[]⟩, B l, false) | some p => (p.1, B p.2.1, B p.2.2, true)) := by
    intro wk m hm
    unfold strings_HasPrefix.f
    rw [show (⟨#[34]⟩ : ByteArray) = B [34] from rfl, hasPrefix_is, Option.bind_some, Option.bind_some]
    cases m with
    | nil => rfl
    | cons b t =>
      rw [quoteL]
      by_cases hb : b = 34
      · subst hb
        rw [if_pos (show decide ((34 :: t : List UInt8).take ([34] : List UInt8).length = [34]) = true by simp), if_pos rfl]
        have := next_loop (B l) wk t [] k (by simp at hm ⊢; omega) (by simp at hm; omega)
        rw [List.nil_append, show ((1 + ([] : List UInt8).length : Nat) : Int) = 1 from rfl] at this
        rw [this]
        cases bodyL t with
        | none => rfl
        | some p => rfl
      · rw [if_neg (show ¬ decide ((b :: t : List UInt8).take ([34] : List UInt8).length = [34]) = true by simp [hb]), if_neg hb]
  unfold tags_next.f strings_CutPrefix.f stringslite_CutPrefix.f nextL
  rw [show (⟨#[87, 47]⟩ : ByteArray) = B [87, 47] from rfl, hasPrefix_is, Option.bind_some]
  by_cases h : l.take 2 = [87, 47]
  · have h2 : 2 ≤ l.length := by have := congrArg List.length h; rw [List.length_take] at this; simp at this; omega
    rw [if_pos (show decide (l.take ([87, 47] : List UInt8).length = [87, 47]) = true from decide_eq_true h), B_size, B_size, if_pos (show (0 : Int) ≤ (([87, 47] : List UInt8).length : Int) from by decide), if_pos (show (([87, 47] : List UInt8).length : Int) ≤ (l.length : Int) by simp; omega), if_pos h]
    have e : (B l).extract (((([87, 47] : List UInt8).length : Nat) : Int).toNat) l.length = B (l.drop 2) := by
      rw [B_extract, show (((([87, 47] : List UInt8).length : Nat) : Int).toNat) = 2 from rfl, List.take_of_length_le (by simp)]
    rw [e]
    exact tail true (l.drop 2) (by simp)
  · rw [if_neg (show ¬ decide (l.take ([87, 47] : List UInt8).length = [87, 47]) = true by simpa using h), if_neg h]
    exact tail false l (Nat.le_refl _)
/-- a list of tags -/
def parseT : Nat → List UInt8 → List Tg → Bool → List Tg × Bool × Int
  | 0, _, _, _ => ([], false, 150)
  | _ + 1, [], acc, _ => if acc = [] then ([], false, 150) else (acc, false, 0)
  | n + 1, b :: t, acc, comma => if b = 44 then parseT n (trimL t) acc true else (match nextL (b :: t) with
    | none => ([], false, 150)
    | some p => if comma = true then parseT n (trimL p.2.2) (acc ++ [(⟨p.1, B p.2.1⟩ : Tg)]) false else ([], false, 150))
theorem parse_loop : ∀ (n : Nat) (l : List UInt8) (acc : List Tg) (comma : Bool) (k : Nat), l.length < n → acc.length + l.length ≤ 1099511627776 → l.length + l.length + 2 ≤ k →
    tags_Parse.l0 k (B l) acc comma = some (parseT n l acc comma)
  | 0, l, acc, comma, k, hn, hb, hk => by omega
  | n + 1, [], acc, comma, k, hn, hb, hk => by
    obtain ⟨j, rfl⟩ : ∃ j, k = j + 1 := ⟨k - 1, by omega⟩
    rw [tags_Parse.l0, B_toL, if_pos rfl, parseT]
    cases acc with
    | nil => rfl
    | cons a r => rfl
  | n + 1, b :: t, acc, comma, k, hn, hb, hk => by
    obtain ⟨j, rfl⟩ : ∃ j, k = j + 1 := ⟨k - 1, by omega⟩
    rw [List.length_cons] at hn hb hk
    obtain ⟨h1, h2, h3⟩ := dc (s := B (b :: t)) (i := 0) (b := b) (t := t) (by rw [B_toList]; rfl)
    rw [tags_Parse.l0, B_toL, if_neg (by simp), B_size, if_pos (by simp), parseT]
    rw [show bt (B (b :: t)) 0 = (b.toNat : Int) from h2]
    by_cases c : b = 44
    · subst c
      have ht := trimL_len t
      rw [if_pos (show ((44 : UInt8).toNat : Int) = 44 from rfl), if_pos (by simp; omega), if_pos rfl]
      have e : (B (44 :: t)).extract 1 ((44 : UInt8) :: t).length = B t := by rw [B_extract]; simp
      rw [e, Trim_is t (by omega), Option.bind_some]
      exact parse_loop n (trimL t) acc true j (by omega) (by omega) (by omega)
    · have c' : ¬ (b.toNat : Int) = 44 := fun h => c (UInt8.toNat_inj.1 (by rw [show (44 : UInt8).toNat = 44 from rfl]; omega))
      rw [if_neg c', if_neg c, next_is (b :: t) (by simp; omega) (by simp; omega), Option.bind_some]
      cases hx : nextL (b :: t) with
      | none => rfl
      | some p =>
        have hp := nextL_len _ _ hx
        rw [List.length_cons] at hp
        have ht := trimL_len p.2.2
        show (if true = true then _ else _) = some (if comma = true then _ else _)
        rw [if_pos rfl]
        by_cases hc : comma = true
        · rw [if_pos hc, if_pos hc, if_pos (by omega)]
          show (text_Trim.f (B p.2.2)).bind _ = _
          rw [Trim_is p.2.2 (by omega), Option.bind_some]
          exact parse_loop n (trimL p.2.2) _ false j (by omega) (by simp; omega) (by omega)
        · rw [if_neg hc, if_neg hc]
def ParseT (l : List UInt8) : List Tg × Bool × Int := if trimL l = [42] then ([], true, 0) else parseT (l.length + 1) (trimL l) [] true
theorem Parse_is (l : List UInt8) (hl : l.length ≤ 1073741824) {k : Nat} (hk : l.length + l.length + 2 ≤ k) : tags_Parse.f k (B l) = some (ParseT l) := by
  have ht := trimL_len l
  unfold tags_Parse.f ParseT
  rw [Trim_is l (by omega), Option.bind_some, B_toL]
  by_cases h : trimL l = [42]
  · rw [if_pos h, if_pos h]
  · rw [if_neg h, if_neg h]
    exact parse_loop _ (trimL l) [] true k (by omega) (by simp; omega) (by omega)

/-- a file's tag -/
def tagL (a b : Nat) : List UInt8 := 34 :: ((Lib.decDigits a ++ 45 :: Lib.decDigits b) ++ [34])
theorem mx0 (s : Int) : mx s 0 = ((s.toNat : Nat) : Int) := by unfold mx; split <;> omega
theorem Make_is (body : ByteArray) (time seq : Int) (hb : body.size ≤ 1073741824) (hs : seq ≤ 9223372036854775807) : tags_Make.f body time seq = some (B (tagL seq.toNat body.size)) := by
  have l1 := dec_len seq.toNat (by omega); have l2 := dec_len body.size (by omega)
  unfold tags_Make.f tagL
  rw [mx0, decimal_nat _ (by omega), Option.bind_some, decimal_nat _ (by omega)]
  rw [show (⟨#[34]⟩ : ByteArray) = B [34] from rfl, show (⟨#[45]⟩ : ByteArray) = B [45] from rfl]
  simp only [B_app, B_size, Option.bind_some, List.length_append, List.length_cons, List.length_nil]
  rw [if_pos (by omega), if_pos (by omega), if_pos (by omega), if_pos (by omega)]
  simp
theorem body_of (v : List UInt8) (h : ∀ x ∈ v, x ≠ 34 ∧ 33 ≤ x.toNat ∧ x ≠ 127) (r : List UInt8) : bodyL (v ++ 34 :: r) = some (v, r) := by
  induction v with
  | nil => rfl
  | cons b t ih =>
    obtain ⟨h1, h2, h3⟩ := h b (by simp)
    rw [List.cons_append, bodyL, if_neg h1, if_neg (by omega), if_neg h3, ih (fun x hx => h x (by simp [hx]))]; rfl
theorem tag_bytes (a b : Nat) : ∀ x ∈ Lib.decDigits a ++ 45 :: Lib.decDigits b, x ≠ 34 ∧ 33 ≤ x.toNat ∧ x ≠ 127 ∧ x ≠ 32 ∧ x ≠ 9 := by
  have dig : ∀ c : UInt8, 45 ≤ c.toNat ∧ c.toNat ≤ 57 → c ≠ 34 ∧ 33 ≤ c.toNat ∧ c ≠ 127 ∧ c ≠ 32 ∧ c ≠ 9 := by
    intro c hc
    refine ⟨?_, by omega, ?_, ?_, ?_⟩ <;> (rintro rfl; revert hc; decide)
  intro x hx
  rcases List.mem_append.1 hx with h | h
  · have := dec_bytes a x h; exact dig x (by omega)
  · rcases List.mem_cons.1 h with rfl | h
    · exact dig 45 (by decide)
    · have := dec_bytes b x h; exact dig x (by omega)
theorem next_tag (a b : Nat) : nextL (tagL a b) = some (false, tagL a b, []) := by
  unfold nextL tagL
  rw [if_neg (by simp), quoteL, if_pos rfl, body_of _ (fun x hx => by have := tag_bytes a b x hx; exact ⟨this.1, this.2.1, this.2.2.1⟩)]; rfl
theorem trim_tag (a b : Nat) : trimL (tagL a b) = tagL a b := by
  refine trimL_none _ fun x hx => ?_
  unfold tagL at hx
  rcases List.mem_cons.1 hx with rfl | hx
  · decide
  · rcases List.mem_append.1 hx with h | h
    · have := tag_bytes a b x h; exact ⟨this.2.2.2.1, this.2.2.2.2⟩
    · rcases List.mem_cons.1 h with rfl | h
      · decide
      · cases h
theorem tagL_len (a b : Nat) (ha : a < 18446744073709551616) (hb : b < 18446744073709551616) : (tagL a b).length ≤ 43 := by
  have l1 := dec_len a ha; have l2 := dec_len b hb
  unfold tagL; simp; omega
theorem parse_tag (a b : Nat) : ParseT (tagL a b) = ([(⟨false, B (tagL a b)⟩ : Tg)], false, 0) := by
  unfold ParseT
  rw [trim_tag]
  have e : tagL a b = 34 :: ((Lib.decDigits a ++ 45 :: Lib.decDigits b) ++ [34]) := rfl
  have hne : ¬ tagL a b = [42] := by rw [e]; simp
  obtain ⟨m, hm⟩ : ∃ m, (tagL a b).length + 1 = m + 1 + 1 := ⟨(tagL a b).length - 1, by rw [e]; simp⟩
  have hnx := next_tag a b
  rw [if_neg hne, hm]
  generalize tagL a b = tg at e hnx ⊢
  rw [e] at hnx
  have h2 : parseT (m + 1 + 1) tg [] true = parseT (m + 1 + 1) (34 :: ((Lib.decDigits a ++ 45 :: Lib.decDigits b) ++ [34])) [] true := by rw [e]
  rw [h2, parseT, if_neg (by decide), hnx]
  show (if true = true then parseT (m + 1) (trimL []) _ false else _) = _
  rw [if_pos rfl, show trimL [] = [] from rfl, parseT, if_neg (by simp), ← e]
  rfl
theorem tagL_inj {a b c d : Nat} (h : tagL a b = tagL c d) : a = c := by
  unfold tagL at h
  have h1 := List.append_cancel_right (List.cons.inj h).2
  have key : ∀ (p q r s : List UInt8), (∀ x ∈ p, x ≠ 45) → (∀ x ∈ q, x ≠ 45) → p ++ 45 :: r = q ++ 45 :: s → p = q := by
    intro p
    induction p with
    | nil =>
      intro q r s hp hq e
      cases q with
      | nil => rfl
      | cons x q => exact absurd (List.cons.inj e).1.symm (hq x (by simp))
    | cons y p ih =>
      intro q r s hp hq e
      cases q with
      | nil => exact absurd (List.cons.inj e).1 (hp y (by simp))
      | cons x q =>
        obtain ⟨e1, e2⟩ := List.cons.inj e
        rw [e1, ih q r s (fun z hz => hp z (by simp [hz])) (fun z hz => hq z (by simp [hz])) e2]
  have no45 : ∀ n : Nat, ∀ x ∈ Lib.decDigits n, x ≠ 45 := by
    rintro n x hx rfl
    have := dec_bytes n 45 hx
    revert this; decide
  have e := key _ _ _ _ (no45 a) (no45 c) h1
  have := congrArg (numOf 10 0) e
  rw [(dec_num a).1, (dec_num c).1] at this
  exact this
end Go.Proofs.YtlbnnmdjmikedaaGreatDoor.Q
