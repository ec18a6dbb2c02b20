/- The plain law of MsgClean: a request of version 2 has no connection's own field, no pseudo-field and no capitals, and a path that may be asked for. -/
import Derived.Test.YtgeekchnolahhaaDoorQMsgA
import Derived.Test.YtgeekchnolahhaaDoorRowT
import Derived.Lib.ItoaLen
import Derived.Lib.Bytes
import Derived.Test.YtgeekchnolahhaaDoorPPx24
import Derived.Test.YtgeekchnolahhaaDoorPPx15
import Derived.Test.YtgeekchnolahhaaDoorPPxEmsgTwo
import Derived.Test.YtgeekchnolahhaaDoorPPx25
namespace Go.Proofs.YtgeekchnolahhaaDoor.Q
set_option linter.unusedVariables false
set_option linter.unusedSimpArgs false
open Go.RowKit Go.Proofs.YtgeekchnolahhaaDoorW.PrintWords Go.Proofs.YtgeekchnolahhaaDoorW.PrintLast Go.Proofs.YtgeekchnolahhaaDoorW.PrintMore
open PP
theorem bulk_small' : ∀ (l : List Fd) (n : Nat), (l.map PR.bulk30).sum ≤ n → l.length ≤ n ∧ ∀ f ∈ l, f.f0.size ≤ n ∧ f.f1.size ≤ n
  | [], n, h => ⟨by simp, by simp⟩
  | f :: l, n, h => by
    rw [List.map_cons, List.sum_cons] at h
    have hf : PR.bulk30 f = (f.f0.size + 1) + (f.f1.size + 1) + 1 := rfl
    obtain ⟨h1, h3⟩ := bulk_small' l (n - PR.bulk30 f) (by omega)
    refine ⟨by rw [List.length_cons]; omega, fun g hg => ?_⟩
    rcases List.mem_cons.1 hg with rfl | hg
    · omega
    · have := h3 g hg; omega
def bndB (s : ByteArray) : Bool := (msg_Bound.f s).getD false
theorem Bound_is (s : ByteArray) (hs : s.size ≤ 140737488355328) : msg_Bound.f s = some (bndB s) := by
  obtain ⟨b, hb⟩ := Bound_some s hs
  unfold bndB; rw [hb]; rfl
def stripB (l : List Fd) : List Fd := l.filter fun f => !bndB f.f0
theorem rd_at (l : List Fd) (i : Nat) (h : i < l.length) : rd_T30 l (i : Int) = l[i] := by
  unfold rd_T30
  rw [Int.toNat_natCast, List.getD, List.getElem?_eq_getElem h]; rfl
theorem dropc {l m : List Fd} {f : Fd} {i : Nat} (hd : l.drop i = f :: m) : ∃ h : i < l.length, l[i] = f ∧ l.drop (i + 1) = m := by
  have hi : i < l.length := by
    rcases Nat.lt_or_ge i l.length with h | h
    · exact h
    · rw [List.drop_eq_nil_of_le h] at hd; cases hd
  rw [List.drop_eq_getElem_cons hi] at hd
  exact ⟨hi, (List.cons.inj hd).1, (List.cons.inj hd).2⟩
theorem strip_loop (l : List Fd) (hs : small l) (hl : l.length ≤ 4194304) : ∀ (m : List Fd) (i k : Nat) (acc : List Fd), l.drop i = m → m.length < k → acc.length + m.length ≤ 8388608 → msg_Strip.l0 k acc l (l.length : Int) (i : Int) = some (acc ++ stripB m)
  | [], i, k, acc, hd, hk, ha => by
    obtain ⟨j, rfl⟩ : ∃ j, k = j + 1 := ⟨k - 1, by omega⟩
    have := List.drop_eq_nil_iff.1 hd
    rw [msg_Strip.l0, if_neg (by omega)]; simp [stripB]
  | f :: m, i, k, acc, hd, hk, ha => by
    rw [List.length_cons] at hk ha
    obtain ⟨j, rfl⟩ : ∃ j, k = j + 1 := ⟨k - 1, by omega⟩
    obtain ⟨hi, e1, e2⟩ := dropc hd
    have hf := hs f (by rw [← e1]; exact List.getElem_mem hi)
    rw [msg_Strip.l0, if_pos (by omega), if_pos (by omega), if_pos (by omega), rd_at l i hi, e1, Bound_is f.f0 (by omega), Option.bind_some, w1' (by omega)]
    by_cases hb : bndB f.f0 = true
    · rw [if_pos hb, strip_loop l hs hl m (i + 1) j acc e2 (by omega) (by omega)]
      simp [stripB, hb]
    · rw [if_neg hb, if_pos (by omega), strip_loop l hs hl m (i + 1) j _ e2 (by omega) (by simp; omega)]
      simp [stripB, hb]
theorem Strip_is (l : List Fd) (hs : small l) (hl : l.length ≤ 4194304) {k : Nat} (hk : l.length < k) : msg_Strip.f k l = some (stripB l) := by
  unfold msg_Strip.f
  have := strip_loop l hs hl l 0 k [] rfl hk (by simp; omega)
  simpa using this
theorem parse_range (l : List UInt8) : 0 ≤ (text_parse.spec 10 l).1 ∧ (text_parse.spec 10 l).1 ≤ 9223372036854775807 := by
  unfold text_parse.spec
  repeat' split
  all_goals simp
  all_goals omega
theorem parse10 (s : ByteArray) (hs : s.size ≤ 140737488355328) : text_parse.f s 10 = some (text_parse.spec 10 s.data.toList) := by
  unfold text_parse.f text_parse.spec
  have e : (10 : Int).toNat = 10 := rfl
  rw [if_pos hs, if_pos (.inl rfl), e]
  split
  · rfl
  · split
    · split <;> rfl
    · rfl
theorem number_some (s : ByteArray) (hs : s.size ≤ 140737488355328) : ∃ n e : Int, text_Number.f s = some (n, e) ∧ 0 ≤ n ∧ n ≤ 9223372036854775807 :=
  ⟨_, _, by unfold text_Number.f; rw [parse10 s hs]; rfl, (parse_range s.data.toList).1, (parse_range s.data.toList).2⟩
theorem decimal_some (n : Int) (h0 : 0 ≤ n) (h1 : n ≤ 9223372036854775807) : ∃ t, text_Decimal.f n = some t := by
  unfold text_Decimal.f strconv_Itoa.f
  rw [if_pos (by omega), if_pos h1]
  exact ⟨_, rfl⟩
theorem same_some (a b : ByteArray) (ha : a.size ≤ 140737488355328) (hb : b.size ≤ 140737488355328) : ∃ r, text_Same.f a b = some r := by
  unfold text_Same.f text_Lower.f
  split
  · simp [ha, hb]
  · exact ⟨_, rfl⟩
theorem length_loop (l : List Fd) (hs : small l) (hl : l.length ≤ 4194304) : ∀ (m : List Fd) (i : Nat) (v : ByteArray) (has : Bool), l.drop i = m → v.size ≤ 1048576 → ∃ r : Int × Bool × Int, (r.2.2 = 0 ∨ r.2.2 = 142) ∧ ∀ k, m.length < k → msg_Length.l0 k v has l (l.length : Int) (i : Int) = some r
  | [], i, v, has, hd, hv => by
    have hi := List.drop_eq_nil_iff.1 hd
    obtain ⟨n, e, hn, _⟩ := number_some v (by omega)
    refine ⟨if has = true then (n, true, 0) else (0, false, 0), by split <;> exact .inl rfl, fun k hk => ?_⟩
    obtain ⟨j, rfl⟩ : ∃ j, k = j + 1 := ⟨k - 1, by omega⟩
    rw [msg_Length.l0, if_neg (by omega), hn]
    split <;> rfl
  | f :: m, i, v, has, hd, hv => by
    obtain ⟨hi, e1, e2⟩ := dropc hd
    have hf := hs f (by rw [← e1]; exact List.getElem_mem hi)
    obtain ⟨sm, hsm⟩ := same_some f.f0 (⟨#[99, 111, 110, 116, 101, 110, 116, 45, 108, 101, 110, 103, 116, 104]⟩ : ByteArray) (by omega) (by decide)
    obtain ⟨n, e, hn, n0, n1⟩ := number_some f.f1 (by omega)
    obtain ⟨t, ht⟩ := decimal_some n n0 n1
    obtain ⟨r1, h1, g1⟩ := length_loop l hs hl m (i + 1) v has e2 hv
    obtain ⟨r2, h2, g2⟩ := length_loop l hs hl m (i + 1) f.f1 true e2 hf.2
    have bad : ((0 : Int), false, (142 : Int)).2.2 = 0 ∨ ((0 : Int), false, (142 : Int)).2.2 = 142 := .inr rfl
    by_cases c1 : sm = true
    case neg =>
      refine ⟨r1, h1, fun k hk => ?_⟩
      obtain ⟨j, rfl⟩ : ∃ j, k = j + 1 := ⟨k - 1, by omega⟩
      rw [List.length_cons] at hk
      rw [msg_Length.l0, if_pos (by omega), if_pos (by omega), if_pos (by omega), rd_at l i hi, e1, hsm, Option.bind_some, if_neg c1, w1' (by omega)]
      exact g1 j (by omega)
    case pos =>
      have step : ∀ j, msg_Length.l0 (j + 1) v has l (l.length : Int) (i : Int) = (if e = 0 then (if t.toList = f.f1.toList then (if (f.f1.size : Int) > 15 then some ((0 : Int), false, (142 : Int)) else (if has = true then (if f.f1.toList = v.toList then msg_Length.l0 j f.f1 true l (l.length : Int) ((i + 1 : Nat) : Int) else some (0, false, 142)) else msg_Length.l0 j f.f1 true l (l.length : Int) ((i + 1 : Nat) : Int))) else some (0, false, 142)) else some (0, false, 142)) := fun j => by
        rw [msg_Length.l0, if_pos (by omega), if_pos (by omega), if_pos (by omega), rd_at l i hi, e1, hsm, Option.bind_some, if_pos c1, hn, Option.bind_some, ht, Option.bind_some, w1' (by omega)]
      by_cases go : e = 0 ∧ t.toList = f.f1.toList ∧ ¬ ((f.f1.size : Int) > 15) ∧ (has = true → f.f1.toList = v.toList)
      · refine ⟨r2, h2, fun k hk => ?_⟩
        obtain ⟨j, rfl⟩ : ∃ j, k = j + 1 := ⟨k - 1, by omega⟩
        rw [List.length_cons] at hk
        rw [step, if_pos go.1, if_pos go.2.1, if_neg go.2.2.1, g2 j (by omega)]
        split
        · rename_i hh; rw [if_pos (go.2.2.2 hh)]
        · rfl
      · refine ⟨_, bad, fun k hk => ?_⟩
        obtain ⟨j, rfl⟩ : ∃ j, k = j + 1 := ⟨k - 1, by omega⟩
        rw [step]
        by_cases a1 : e = 0
        · rw [if_pos a1]
          by_cases a2 : t.toList = f.f1.toList
          · rw [if_pos a2]
            by_cases a3 : (f.f1.size : Int) > 15
            · rw [if_pos a3]
            · rw [if_neg a3]
              by_cases a4 : has = true
              · rw [if_pos a4]
                by_cases a5 : f.f1.toList = v.toList
                · exact absurd ⟨a1, a2, a3, fun _ => a5⟩ go
                · rw [if_neg a5]
              · exact absurd ⟨a1, a2, a3, fun h => absurd h a4⟩ go
          · rw [if_neg a2]
        · rw [if_neg a1]
theorem Length_some (l : List Fd) (hs : small l) (hl : l.length ≤ 4194304) : ∃ r : Int × Bool × Int, (r.2.2 = 0 ∨ r.2.2 = 142) ∧ ∀ k, l.length < k → msg_Length.f k l = some r := by
  obtain ⟨r, h, g⟩ := length_loop l hs hl l 0 ⟨#[]⟩ false rfl (by decide)
  exact ⟨r, h, fun k hk => by unfold msg_Length.f; exact g k hk⟩
/-- A field that a list of version 2 may have. -/
def cleanF (f : Fd) : Prop := f.f0.data.toList.all tokB = true ∧ 0 < f.f0.size ∧ (lowerS f.f0).toList = f.f0.toList ∧ bndB f.f0 = false ∧ f.f0.toList ≠ [104, 111, 115, 116] ∧ f.f0.toList ≠ [116, 101]
theorem plain_is (a b : ByteArray) (ha : a.size ≤ 1048576) (hb : b.size ≤ 1048576) : ∃ r : Bool, (r = true → a.data.toList.all tokB = true ∧ 0 < a.size ∧ (lowerS a).toList = a.toList ∧ bndB a = false) ∧ ∀ k, 1048576 < k → msg_plain.f k a b = some r := by
  have hc := Bound_is a (by omega)
  refine ⟨if (a.data.toList.all tokB && decide (0 < a.size)) = true then (if (lowerS a).toList = a.toList then (if (b.data.toList.all valB && trimmed b) = true then !(bndB a) else false) else false) else false, fun h => ?_, fun k h1 => ?_⟩
  · split at h
    · rename_i g1
      split at h
      · rename_i g2
        split at h
        · simp only [Bool.and_eq_true, decide_eq_true_eq] at g1
          exact ⟨g1.1, g1.2, g2, by simpa using h⟩
        · cases h
      · cases h
    · cases h
  · unfold msg_plain.f text_Lower.f
    rw [text_Token_is a (by omega) (by omega), Option.bind_some, if_pos (show a.size ≤ 140737488355328 by omega), Option.bind_some, text_Value_is b (by omega) (by omega), Option.bind_some, hc, Option.bind_some]
    split
    · split
      · split <;> rfl
      · rfl
    · rfl
theorem goes_loop (p : ByteArray) (hp : p.size ≤ 1048576) (R : Bool) (hR : strings_HasPrefix.f p (⟨#[47]⟩ : ByteArray) = some R) : ∀ (m : List UInt8) (i : Nat), p.data.toList.drop i = m → i ≤ p.size → ∃ r : Bool, (r = true → R = true) ∧ ∀ k, m.length < k → msg_goes.l0 k p (p.size : Int) (i : Int) = some r
  | [], i, hd, hi => by
    have he := dn hd hi
    refine ⟨R, fun h => h, fun k hk => ?_⟩
    obtain ⟨j, rfl⟩ : ∃ j, k = j + 1 := ⟨k - 1, by omega⟩
    rw [msg_goes.l0, if_neg (by omega), hR]; rfl
  | c :: m, i, hd, hi => by
    obtain ⟨h1, h2, h3⟩ := dc hd
    obtain ⟨r, hr, g⟩ := goes_loop p hp R hR m (i + 1) h3 (by omega)
    have step : ∀ j, msg_goes.l0 (j + 1) p (p.size : Int) (i : Int) = (if (c.toNat : Int) < 33 then some false else (if (c.toNat : Int) > 126 then some false else (if (c.toNat : Int) = 35 then some false else msg_goes.l0 j p (p.size : Int) ((i + 1 : Nat) : Int)))) := fun j => by
      rw [msg_goes.l0, if_pos (by omega), if_pos (by omega), if_pos (by omega), h2, w1' (by omega)]
    by_cases c1 : (c.toNat : Int) < 33
    · exact ⟨false, fun h => (by cases h), fun k hk => by
        obtain ⟨j, rfl⟩ : ∃ j, k = j + 1 := ⟨k - 1, by omega⟩
        rw [step, if_pos c1]⟩
    by_cases c2 : (c.toNat : Int) > 126
    · exact ⟨false, fun h => (by cases h), fun k hk => by
        obtain ⟨j, rfl⟩ : ∃ j, k = j + 1 := ⟨k - 1, by omega⟩
        rw [step, if_neg c1, if_pos c2]⟩
    by_cases c3 : (c.toNat : Int) = 35
    · exact ⟨false, fun h => (by cases h), fun k hk => by
        obtain ⟨j, rfl⟩ : ∃ j, k = j + 1 := ⟨k - 1, by omega⟩
        rw [step, if_neg c1, if_neg c2, if_pos c3]⟩
    refine ⟨r, hr, fun k hk => ?_⟩
    obtain ⟨j, rfl⟩ : ∃ j, k = j + 1 := ⟨k - 1, by omega⟩
    rw [List.length_cons] at hk
    rw [step, if_neg c1, if_neg c2, if_neg c3, g j (by omega)]
/-- A path that a method may ask for: a star for OPTIONS, or a text that begins with a slash. -/
def goesP (m p : ByteArray) : Prop := (p.toList = [42] ∧ m.toList = [79, 80, 84, 73, 79, 78, 83]) ∨ (p.toList ≠ [42] ∧ ∃ t, p.data.toList = 47 :: t)
theorem slash_is (p : ByteArray) : ∃ R : Bool, strings_HasPrefix.f p (⟨#[47]⟩ : ByteArray) = some R ∧ (R = true → ∃ t, p.data.toList = 47 :: t) := by
  have h1 : (⟨#[47]⟩ : ByteArray).size = 1 := rfl
  unfold strings_HasPrefix.f stringslite_HasPrefix.f
  by_cases h : (p.size : Int) ≥ ((⟨#[47]⟩ : ByteArray).size : Int)
  · rw [if_pos h, if_pos (by omega), if_pos h]
    refine ⟨_, rfl, fun e => ?_⟩
    rw [beq_iff_eq, Lib.toList_data, Lib.extract_data, Lib.toList_data] at e
    cases hp : p.data.toList with
    | nil => rw [hp] at e; simp at e
    | cons c t =>
      rw [hp] at e
      have e2 : c = 47 := by
        have := congrArg List.head? e
        simpa [h1] using this
      exact ⟨t, by rw [e2]⟩
  · rw [if_neg h]; exact ⟨false, rfl, fun e => (by cases e)⟩
theorem goes_is (m p : ByteArray) (hp : p.size ≤ 1048576) : ∃ r : Bool, (r = true → goesP m p) ∧ ∀ k, 1048576 < k → msg_goes.f k m p = some r := by
  by_cases h : p.toList = [42]
  · refine ⟨m.toList == ([79, 80, 84, 73, 79, 78, 83] : List UInt8), fun e => .inl ⟨h, by simpa using e⟩, fun k _ => ?_⟩
    unfold msg_goes.f; rw [if_pos h]
  · obtain ⟨R, hR, hs⟩ := slash_is p
    obtain ⟨r, hr, g⟩ := goes_loop p hp R hR p.data.toList 0 rfl (by omega)
    refine ⟨r, fun e => .inr ⟨h, hs (hr e)⟩, fun k hk => ?_⟩
    unfold msg_goes.f; rw [if_neg h]
    exact g k (by rw [sz]; omega)
/-- What Two hands on. -/
abbrev TwoR := ByteArray × ByteArray × ByteArray × ByteArray × (List Fd) × ByteArray × (List Fd) × Int
def errR (e : Int) : TwoR := (⟨#[]⟩, ⟨#[]⟩, ⟨#[]⟩, ⟨#[]⟩, [], ⟨#[]⟩, [], e)
def okR (L : Nat) (r : TwoR) : Prop := (∃ e : Int, (e = 140 ∨ e = 141 ∨ e = 142) ∧ r = errR e) ∨
  (∃ m s a p fs, r = (m, s, a, p, fs, ⟨#[]⟩, [], 0) ∧ goesP m p ∧ fs.length ≤ L ∧ ∀ f ∈ fs, cleanF f ∧ f.f0.size ≤ 1048576 ∧ f.f1.size ≤ 1048576)
theorem errR_ok {L : Nat} {e : Int} (h : e = 140 ∨ e = 141 ∨ e = 142) : okR L (errR e) := .inl ⟨e, h, rfl⟩
theorem mlook_small : ∀ (l : List (ByteArray × ByteArray)) (k v : ByteArray), (∀ p ∈ l, p.2.size ≤ 1048576) → mlook l k = some v → v.size ≤ 1048576
  | [], k, v, _, h => by cases h
  | p :: l, k, v, hl, h => by
    rw [mlook] at h
    have ih := mlook_small l k
    cases hm : mlook l k with
    | some u =>
      rw [hm] at h
      obtain rfl := Option.some.inj h
      exact ih u (fun q hq => hl q (List.mem_cons_of_mem _ hq)) hm
    | none =>
      rw [hm] at h
      dsimp only at h
      split at h
      · obtain rfl := Option.some.inj h; exact hl p (List.mem_cons_self ..)
      · cases h
theorem mlk_small (l : List Fd) (hs : small l) (k : ByteArray) : ((mlk l k).getD ⟨#[]⟩).size ≤ 1048576 := by
  cases hm : mlk l k with
  | none => decide
  | some v =>
    refine mlook_small (prs l) k v (fun p hp => ?_) hm
    obtain ⟨f, hf, rfl⟩ := List.mem_map.1 hp
    exact (hs f hf).2
theorem mat_is (l : List Fd) (hs : small l) (k : ByteArray) (hk : k.size ≤ 1048576) : ∃ v, mat.f l k = some v ∧ v.size ≤ 1048576 :=
  ⟨_, by unfold mat.f; rw [if_pos (by omega)], mlk_small l hs k⟩
theorem mget_is (l : List Fd) (hs : small l) (k : ByteArray) (hk : k.size ≤ 1048576) : ∃ v b, mget.f l k = some (v, b) ∧ v.size ≤ 1048576 :=
  ⟨_, _, by unfold mget.f; rw [if_pos (by omega)], mlk_small l hs k⟩
theorem mput_is (l : List Fd) (hl : l.length ≤ 4194304) (k v : ByteArray) (hk : k.size ≤ 1048576) (hv : v.size ≤ 1048576) : mput.f l k v = some (l ++ [⟨k, v⟩]) := by
  unfold mput.f; rw [if_pos (by omega), if_pos (by omega), if_pos (by omega)]
theorem small_app {l : List Fd} {k v : ByteArray} (hs : small l) (hk : k.size ≤ 1048576) (hv : v.size ≤ 1048576) : small (l ++ [⟨k, v⟩]) := by
  intro f hf
  rcases List.mem_append.1 hf with hf | hf
  · exact hs f hf
  · rw [List.mem_singleton.1 hf]; exact ⟨hk, hv⟩
theorem two_j4 (x11 x13 : ByteArray) (x12 x142 : Bool) (m s a p : ByteArray) (acc : List Fd) (hg : goesP m p) (hacc : ∀ f ∈ acc, cleanF f ∧ f.f0.size ≤ 1048576 ∧ f.f1.size ≤ 1048576) (hl : acc.length ≤ 1048576) :
    ∃ res, okR acc.length res ∧ ∀ k, 1048577 < k → msg_Two.j4 k x11 x12 x13 x142 m s a p acc ⟨#[]⟩ = some res := by
  obtain ⟨r, hr, g⟩ := Length_some acc (fun f hf => (hacc f hf).2) (by omega)
  by_cases c1 : x142 = true
  · refine ⟨errR 141, errR_ok (by omega), fun k hk => ?_⟩
    obtain ⟨j, rfl⟩ : ∃ j, k = j + 1 := ⟨k - 1, by omega⟩
    rw [msg_Two.j4, if_pos c1]; rfl
  by_cases c3 : r.2.2 = 0
  · refine ⟨(m, s, (if x12 = true then x11 else x13), p, acc, ⟨#[]⟩, [], 0), .inr ⟨_, _, _, _, _, rfl, hg, Nat.le_refl _, hacc⟩, fun k hk => ?_⟩
    obtain ⟨j, rfl⟩ : ∃ j, k = j + 1 := ⟨k - 1, by omega⟩
    rw [msg_Two.j4, if_neg c1, g j (by omega), Option.bind_some, if_pos c3, Option.bind_some, if_pos c3]
    split <;> rfl
  · have h142 : r.2.2 = 142 := by rcases hr with h | h <;> omega
    refine ⟨errR 142, errR_ok (by omega), fun k hk => ?_⟩
    obtain ⟨j, rfl⟩ : ∃ j, k = j + 1 := ⟨k - 1, by omega⟩
    rw [msg_Two.j4, if_neg c1, g j (by omega), Option.bind_some, if_neg c3, Option.bind_some, if_neg c3, h142]
    split <;> rfl
theorem two_j3 (x4 : List Fd) (hs : small x4) (x122 : Bool) (m s a p : ByteArray) (acc : List Fd) (hg : x122 = false → goesP m p) (hacc : ∀ f ∈ acc, cleanF f ∧ f.f0.size ≤ 1048576 ∧ f.f1.size ≤ 1048576) (hl : acc.length ≤ 1048576) :
    ∃ res, okR acc.length res ∧ ∀ k, 1048578 < k → msg_Two.j3 k x4 x122 m s a p acc ⟨#[]⟩ = some res := by
  by_cases c1 : x122 = true
  · refine ⟨errR 140, errR_ok (by omega), fun k hk => ?_⟩
    obtain ⟨j, rfl⟩ : ∃ j, k = j + 1 := ⟨k - 1, by omega⟩
    rw [msg_Two.j3, if_pos c1]; rfl
  obtain ⟨v1, b1, e1, _⟩ := mget_is x4 hs ⟨#[58, 97, 117, 116, 104, 111, 114, 105, 116, 121]⟩ (by decide)
  obtain ⟨v2, b2, e2, _⟩ := mget_is x4 hs ⟨#[104, 111, 115, 116]⟩ (by decide)
  have hg' := hg (Bool.eq_false_iff.2 c1)
  obtain ⟨res, h1, g⟩ := two_j4 v1 v2 b1 (if b1 = true then (if b2 = true then (v1.toList != v2.toList) else false) else false) m s a p acc hg' hacc hl
  refine ⟨res, h1, fun k hk => ?_⟩
  obtain ⟨j, rfl⟩ : ∃ j, k = j + 1 := ⟨k - 1, by omega⟩
  rw [msg_Two.j3, if_neg c1, e1, Option.bind_some, e2, Option.bind_some, ← g j (by omega)]
  dsimp only
  split
  · split <;> rfl
  · rfl
theorem two_end (l x4 acc : List Fd) (hs : small x4) (x6 : Bool) (m0 s0 a0 p0 : ByteArray) (i : Nat) (hi : l.length ≤ i) (hacc : ∀ f ∈ acc, cleanF f ∧ f.f0.size ≤ 1048576 ∧ f.f1.size ≤ 1048576) (hl : acc.length ≤ 1048576) :
    ∃ res, okR acc.length res ∧ ∀ k, 1048579 < k → msg_Two.l0 k x4 x6 l (l.length : Int) (i : Int) m0 s0 a0 p0 acc ⟨#[]⟩ = some res := by
  obtain ⟨v1, e1, z1⟩ := mat_is x4 hs ⟨#[58, 109, 101, 116, 104, 111, 100]⟩ (by decide)
  obtain ⟨v2, e2, z2⟩ := mat_is x4 hs ⟨#[58, 115, 99, 104, 101, 109, 101]⟩ (by decide)
  obtain ⟨v3, e3, z3⟩ := mat_is x4 hs ⟨#[58, 112, 97, 116, 104]⟩ (by decide)
  obtain ⟨r, hr, g⟩ := goes_is v1 v3 z3
  have step : ∀ j, 1048578 < j → msg_Two.l0 (j + 1) x4 x6 l (l.length : Int) (i : Int) m0 s0 a0 p0 acc ⟨#[]⟩ = msg_Two.j3 j x4 (if (v1.data.toList.all tokB && decide (0 < v1.size)) = true then (if v2.toList = [104, 116, 116, 112] then !r else (if v2.toList = [104, 116, 116, 112, 115] then !r else true)) else true) v1 v2 a0 v3 acc ⟨#[]⟩ := fun j hj => by
    rw [msg_Two.l0, if_neg (by omega), e1, Option.bind_some, e2, Option.bind_some, e3, Option.bind_some, text_Token_is v1 (by omega) (by omega), Option.bind_some, g j (by omega)]
    simp only [Option.bind_some]
    repeat' split
    all_goals first | rfl | contradiction
  obtain ⟨res, h1, g1⟩ := two_j3 x4 hs (if (v1.data.toList.all tokB && decide (0 < v1.size)) = true then (if v2.toList = [104, 116, 116, 112] then !r else (if v2.toList = [104, 116, 116, 112, 115] then !r else true)) else true) v1 v2 a0 v3 acc (fun e => by
    refine hr ?_
    split at e
    · split at e
      · simpa using e
      · split at e
        · simpa using e
        · cases e
    · cases e) hacc hl
  refine ⟨res, h1, fun k hk => ?_⟩
  obtain ⟨j, rfl⟩ : ∃ j, k = j + 1 := ⟨k - 1, by omega⟩
  rw [step j (by omega)]
  exact g1 j (by omega)
theorem okR_mono {L L' : Nat} {r : TwoR} (h : okR L r) (hl : L ≤ L') : okR L' r := by
  rcases h with h | ⟨m, s, a, p, fs, h1, h2, h3, h4⟩
  · exact .inl h
  · exact .inr ⟨m, s, a, p, fs, h1, h2, by omega, h4⟩
theorem two_loop (l : List Fd) (hs : small l) (hl : l.length ≤ 1048576) : ∀ (m : List Fd) (i : Nat) (x4 acc : List Fd) (x6 : Bool) (m0 s0 a0 p0 : ByteArray), l.drop i = m → small x4 → x4.length ≤ i → acc.length ≤ i → (∀ f ∈ acc, cleanF f ∧ f.f0.size ≤ 1048576 ∧ f.f1.size ≤ 1048576) → i ≤ l.length →
    ∃ res, okR l.length res ∧ ∀ k, 2097152 + 2 * m.length < k → msg_Two.l0 k x4 x6 l (l.length : Int) (i : Int) m0 s0 a0 p0 acc ⟨#[]⟩ = some res
  | [], i, x4, acc, x6, m0, s0, a0, p0, hd, hx, hxl, hal, hacc, hil => by
    have hi := List.drop_eq_nil_iff.1 hd
    obtain ⟨res, h1, g⟩ := two_end l x4 acc hx x6 m0 s0 a0 p0 i hi hacc (by omega)
    exact ⟨res, okR_mono h1 (by omega), fun k hk => g k (by simp at hk; omega)⟩
  | f :: m, i, x4, acc, x6, m0, s0, a0, p0, hd, hx, hxl, hal, hacc, hil => by
    obtain ⟨hi, e1, e2⟩ := dropc hd
    have hf := hs f (by rw [← e1]; exact List.getElem_mem hi)
    obtain ⟨v1, again, hget, _⟩ := mget_is x4 hx f.f0 hf.1
    obtain ⟨ps, hps⟩ := pseudo_some f.f0
    have hput := mput_is x4 (by omega) f.f0 f.f1 hf.1 hf.2
    have hx2 := small_app hx hf.1 hf.2
    have rec1 := fun (y6 : Bool) => two_loop l hs hl m (i + 1) (x4 ++ [⟨f.f0, f.f1⟩]) acc y6 m0 s0 a0 p0 e2 hx2 (by simp; omega) (by omega) hacc hi
    have rec2 := fun (y6 : Bool) => two_loop l hs hl m (i + 1) x4 acc y6 m0 s0 a0 p0 e2 hx (by omega) (by omega) hacc hi
    have j1 : ∀ x38 : Bool, ∃ res, okR l.length res ∧ ∀ k, 2097152 + 2 * m.length + 1 < k → msg_Two.j1 k x4 x6 again l (l.length : Int) (i : Int) x38 m0 s0 a0 p0 acc ⟨#[]⟩ f.f0 f.f1 = some res := by
      intro x38
      obtain ⟨res, h1, g⟩ := rec1 x6
      by_cases c1 : x38 = true ∧ x6 = false ∧ again = false
      · refine ⟨res, h1, fun k hk => ?_⟩
        obtain ⟨j, rfl⟩ : ∃ j, k = j + 1 := ⟨k - 1, by omega⟩
        rw [msg_Two.j1, if_pos c1.1, if_neg (by rw [c1.2.1]; decide), if_neg (by rw [c1.2.2]; decide), hput, Option.bind_some, w1' (by omega)]
        exact g j (by omega)
      · refine ⟨errR 140, errR_ok (by omega), fun k hk => ?_⟩
        obtain ⟨j, rfl⟩ : ∃ j, k = j + 1 := ⟨k - 1, by omega⟩
        rw [msg_Two.j1]
        by_cases d1 : x38 = true
        · rw [if_pos d1]
          by_cases d2 : x6 = true
          · rw [if_pos d2]; rfl
          · rw [if_neg d2]
            by_cases d3 : again = true
            · rw [if_pos d3]; rfl
            · exact absurd ⟨d1, Bool.eq_false_iff.2 d2, Bool.eq_false_iff.2 d3⟩ c1
        · rw [if_neg d1]; rfl
    by_cases cp : ps = true
    · obtain ⟨res, h1, g⟩ := j1 (if f.f0.toList = [58, 109, 101, 116, 104, 111, 100] then (f.f0.toList == [58, 109, 101, 116, 104, 111, 100]) else (if f.f0.toList = [58, 115, 99, 104, 101, 109, 101] then (f.f0.toList == [58, 115, 99, 104, 101, 109, 101]) else (if f.f0.toList = [58, 112, 97, 116, 104] then (f.f0.toList == [58, 112, 97, 116, 104]) else (f.f0.toList == [58, 97, 117, 116, 104, 111, 114, 105, 116, 121]))))
      refine ⟨res, h1, fun k hk => ?_⟩
      obtain ⟨j, rfl⟩ : ∃ j, k = j + 1 := ⟨k - 1, by omega⟩
      rw [List.length_cons] at hk
      rw [msg_Two.l0, if_pos (by omega), if_pos (by omega), if_pos (by omega), rd_at l i hi, e1, hget, Option.bind_some, hps, Option.bind_some, if_pos cp, ← g j (by omega)]
      repeat' split
      all_goals first | rfl | contradiction
    · obtain ⟨pl, hpl, hplain⟩ := plain_is f.f0 f.f1 hf.1 hf.2
      have j2 : ∀ x53 : Bool, (x53 = false → pl = true) → ∃ res, okR l.length res ∧ ∀ k, 2097152 + 2 * m.length + 1 < k → msg_Two.j2 k x4 true l (l.length : Int) (i : Int) x53 m0 s0 a0 p0 acc ⟨#[]⟩ f.f0 f.f1 = some res := by
        intro x53 h53
        by_cases c1 : x53 = true
        · refine ⟨errR 141, errR_ok (by omega), fun k hk => ?_⟩
          obtain ⟨j, rfl⟩ : ∃ j, k = j + 1 := ⟨k - 1, by omega⟩
          rw [msg_Two.j2, if_pos c1]; rfl
        by_cases c2 : f.f0.toList = [104, 111, 115, 116]
        · obtain ⟨res, h1, g⟩ := rec1 true
          refine ⟨res, h1, fun k hk => ?_⟩
          obtain ⟨j, rfl⟩ : ∃ j, k = j + 1 := ⟨k - 1, by omega⟩
          rw [msg_Two.j2, if_neg c1, if_pos c2, hput, Option.bind_some, w1' (by omega)]
          exact g j (by omega)
        by_cases c3 : f.f0.toList = [116, 101]
        · obtain ⟨res, h1, g⟩ := rec2 true
          refine ⟨res, h1, fun k hk => ?_⟩
          obtain ⟨j, rfl⟩ : ∃ j, k = j + 1 := ⟨k - 1, by omega⟩
          rw [msg_Two.j2, if_neg c1, if_neg c2, if_pos c3, w1' (by omega)]
          exact g j (by omega)
        · have hcl := hpl (h53 (Bool.eq_false_iff.2 c1))
          obtain ⟨res, h1, g⟩ := two_loop l hs hl m (i + 1) x4 (acc ++ [⟨f.f0, f.f1⟩]) true m0 s0 a0 p0 e2 hx (by omega) (by simp; omega) (by
            intro q hq
            rcases List.mem_append.1 hq with hq | hq
            · exact hacc q hq
            · rw [List.mem_singleton.1 hq]
              exact ⟨⟨hcl.1, hcl.2.1, hcl.2.2.1, hcl.2.2.2, c2, c3⟩, hf.1, hf.2⟩) hi
          refine ⟨res, h1, fun k hk => ?_⟩
          obtain ⟨j, rfl⟩ : ∃ j, k = j + 1 := ⟨k - 1, by omega⟩
          rw [msg_Two.j2, if_neg c1, if_neg c2, if_neg c3, if_pos (by omega), w1' (by omega)]
          exact g j (by omega)
      obtain ⟨res, h1, g⟩ := j2 (if pl = true then (if f.f0.toList = [116, 101] then (if f.f1.toList = [116, 114, 97, 105, 108, 101, 114, 115] then (if f.f0.toList = [104, 111, 115, 116] then again else false) else (f.f1.toList != [116, 114, 97, 105, 108, 101, 114, 115])) else (if f.f0.toList = [104, 111, 115, 116] then again else false)) else !pl) (fun e => by
        by_cases hp : pl = true
        · exact hp
        · rw [if_neg hp] at e; simpa using e)
      refine ⟨res, h1, fun k hk => ?_⟩
      obtain ⟨j, rfl⟩ : ∃ j, k = j + 1 := ⟨k - 1, by omega⟩
      rw [List.length_cons] at hk
      rw [msg_Two.l0, if_pos (by omega), if_pos (by omega), if_pos (by omega), rd_at l i hi, e1, hget, Option.bind_some, hps, Option.bind_some, if_neg cp, hplain j (by omega), Option.bind_some, ← g j (by omega)]
      repeat' split
      all_goals first | rfl | contradiction
theorem Two_some (l : List Fd) (hs : small l) (hl : l.length ≤ 1048576) : ∃ res, okR l.length res ∧ ∀ k, 8388608 < k → msg_Two.f k l = some res := by
  obtain ⟨res, h1, g⟩ := two_loop l hs hl l 0 [] [] false ⟨#[]⟩ ⟨#[]⟩ ⟨#[]⟩ ⟨#[]⟩ rfl (fun f hf => by cases hf) (Nat.le_refl _) (Nat.le_refl _) (fun f hf => by cases hf) (Nat.zero_le _)
  exact ⟨res, h1, fun k hk => by unfold msg_Two.f; exact g k (by omega)⟩
theorem tok58 : tokB 58 = false := by decide +kernel
theorem clean_first (f : Fd) (h : cleanF f) : f.f0.toList ≠ [] ∧ bt f.f0 0 ≠ 58 := by
  cases hd : f.f0.data.toList with
  | nil =>
    have h2 := h.2.1
    have h3 : f.f0.size = 0 := by rw [← sz, hd]; rfl
    omega
  | cons c t =>
    obtain ⟨_, h2, _⟩ := dc (s := f.f0) (i := 0) (b := c) (t := t) (by rw [List.drop_zero]; exact hd)
    have ht := h.1
    rw [hd, List.all_cons, Bool.and_eq_true] at ht
    refine ⟨by rw [Lib.toList_data, hd]; simp, fun e => ?_⟩
    have e2 : bt f.f0 0 = (c.toNat : Int) := h2
    rw [e2] at e
    have : c = 58 := UInt8.toNat_inj.1 (by show c.toNat = 58; omega)
    rw [this, tok58] at ht
    cases ht.1
theorem strip_clean (fs : List Fd) (h : ∀ f ∈ fs, cleanF f) : stripB fs = fs := by
  unfold stripB
  rw [List.filter_eq_self]
  intro f hf
  rw [(h f hf).2.2.2.1]; rfl
theorem clean_end (m s a p : ByteArray) (fs : List Fd) (hg : goesP m p) (hs : small fs) (hc : ∀ f ∈ fs, cleanF f) (hl : fs.length ≤ 1048576) (i : Nat) (hi : fs.length ≤ i) (k : Nat) (hk : 8388608 < k) :
    ostlerlaw14_MsgClean.l0 k (i : Int) m s a p fs ⟨#[]⟩ [] = some true := by
  obtain ⟨j, rfl⟩ : ∃ j, k = j + 1 := ⟨k - 1, by omega⟩
  have hst : msg_Strip.f j fs = some fs := by rw [Strip_is fs hs (by omega) (by omega), strip_clean fs hc]
  have hb : (⟨#[]⟩ : ByteArray).toList = ([] : List UInt8) := by rw [Lib.toList_data]
  rw [ostlerlaw14_MsgClean.l0, if_neg (by omega)]
  rcases hg with ⟨h1, h2⟩ | ⟨h1, t, h2⟩
  · rw [if_pos h1, if_pos h2, hst, Option.bind_some, if_pos rfl, if_pos hb, awake14 (by omega)]; rfl
  · have h3 : p.toList ≠ [] := by rw [Lib.toList_data, h2]; simp
    obtain ⟨h4, h5, _⟩ := dc (s := p) (i := 0) (b := 47) (t := t) (by rw [List.drop_zero]; exact h2)
    have h6 : bt p 0 = 47 := h5
    rw [if_neg h1, if_neg h3, if_pos (by omega), if_pos h6, hst, Option.bind_some, if_pos rfl, if_pos hb, awake14 (by omega)]; rfl
theorem clean_loop (m s a p : ByteArray) (fs : List Fd) (hg : goesP m p) (hs : small fs) (hc : ∀ f ∈ fs, cleanF f) (hl : fs.length ≤ 1048576) : ∀ (r : List Fd) (i k : Nat), fs.drop i = r → 8388608 + r.length < k →
    ostlerlaw14_MsgClean.l0 k (i : Int) m s a p fs ⟨#[]⟩ [] = some true
  | [], i, k, hd, hk => clean_end m s a p fs hg hs hc hl i (List.drop_eq_nil_iff.1 hd) k (by simp at hk; omega)
  | f :: r, i, k, hd, hk => by
    obtain ⟨hi, e1, e2⟩ := dropc hd
    have hmem : f ∈ fs := by rw [← e1]; exact List.getElem_mem hi
    have hf := hc f hmem
    have hfs := hs f hmem
    obtain ⟨g1, g2⟩ := clean_first f hf
    have hlow : ostlerref01_Lower.f f.f0 = some (lowerS f.f0) := by unfold ostlerref01_Lower.f; rw [if_pos (by omega)]
    obtain ⟨j, rfl⟩ : ∃ j, k = j + 1 := ⟨k - 1, by omega⟩
    rw [List.length_cons] at hk
    have h0 := hf.2.1
    rw [ostlerlaw14_MsgClean.l0, if_pos (by omega), if_pos (by omega), rd_at fs i hi, e1, if_neg g1, if_pos (by omega), if_neg g2, Bound_is f.f0 (by omega), Option.bind_some, if_neg (by rw [hf.2.2.2.1]; decide), hlow, Option.bind_some, if_pos hf.2.2.1, if_neg hf.2.2.2.2.1, if_neg hf.2.2.2.2.2, w1' (by omega)]
    exact clean_loop m s a p fs hg hs hc hl r (i + 1) j e2 (by omega)
theorem MsgClean (l : List Fd) (hg : ∀ x ∈ l, PR.good30 x) (hb : (l.map PR.bulk30).sum ≤ 1048576) : ∃ k, ostlerlaw14_MsgClean.f k l = some true := by
  obtain ⟨h1, h2⟩ := bulk_small' l 1048576 hb
  obtain ⟨res, hr, hT⟩ := Two_some l h2 (by omega)
  refine ⟨16777217, ?_⟩
  unfold ostlerlaw14_MsgClean.f
  rw [hT _ (by omega), Option.bind_some]
  have hb0 : (⟨#[]⟩ : ByteArray).toList = ([] : List UInt8) := by rw [Lib.toList_data]
  rcases hr with ⟨e, he, rfl⟩ | ⟨m, s, a, p, fs, rfl, hgo, hlen, hcl⟩
  · unfold errR
    dsimp only
    rcases he with rfl | rfl | rfl
    · rw [if_neg (by decide), if_pos rfl, if_pos hb0, if_pos (show (([] : List Fd).length : Int) = 0 from rfl), awake14 (by omega)]; rfl
    · rw [if_neg (by decide), if_neg (by decide), if_pos rfl, if_pos hb0, if_pos (show (([] : List Fd).length : Int) = 0 from rfl), awake14 (by omega)]; rfl
    · rw [if_neg (by decide), if_neg (by decide), if_neg (by decide), if_pos rfl, if_pos hb0, if_pos (show (([] : List Fd).length : Int) = 0 from rfl), awake14 (by omega)]; rfl
  · dsimp only
    rw [if_pos rfl]
    exact clean_loop m s a p fs hgo (fun f hf => (hcl f hf).2) (fun f hf => (hcl f hf).1) (by omega) fs 0 _ rfl (by omega)
end Go.Proofs.YtgeekchnolahhaaDoor.Q
