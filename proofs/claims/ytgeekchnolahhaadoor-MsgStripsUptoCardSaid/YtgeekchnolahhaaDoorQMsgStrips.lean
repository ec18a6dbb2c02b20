/- The plain law of MsgStrips: taking a connection's own fields out twice is as once, and an answer's list has none of them. -/
import Derived.Test.YtgeekchnolahhaaDoorQMsgA
import Derived.Test.YtgeekchnolahhaaDoorRowT
import Derived.Lib.ItoaLen
import Derived.Lib.Bytes
import Derived.Test.YtgeekchnolahhaaDoorPPx24
import Derived.Test.YtgeekchnolahhaaDoorPPx27
import Derived.Test.YtgeekchnolahhaaDoorPPx28
namespace Go.Proofs.YtgeekchnolahhaaDoor.Q
set_option linter.unusedVariables false
set_option linter.unusedSimpArgs false
open Go.RowKit Go.Proofs.YtgeekchnolahhaaDoorW.PrintWords Go.Proofs.YtgeekchnolahhaaDoorW.PrintLast Go.Proofs.YtgeekchnolahhaaDoorW.PrintMore
open PP
theorem bulk_small' : ∀ (l : List Fd) (n : Nat), (l.map PR.bulk30).sum ≤ n → l.length ≤ n ∧ ∀ f ∈ l, f.f0.size ≤ n ∧ f.f1.size ≤ n
  | [], n, h => ⟨by simp, by simp⟩
  | f :: l, n, h => by
    rw [List.map_cons, List.sum_cons] at h
    have hf : PR.bulk30 f = (f.f0.size + 1) + (f.f1.size + 1) + 1 := rfl
    obtain ⟨h1, h3⟩ := bulk_small' l (n - PR.bulk30 f) (by omega)
    refine ⟨by rw [List.length_cons]; omega, fun g hg => ?_⟩
    rcases List.mem_cons.1 hg with rfl | hg
    · omega
    · have := h3 g hg; omega
def bndB (s : ByteArray) : Bool := (msg_Bound.f s).getD false
theorem Bound_is (s : ByteArray) (hs : s.size ≤ 140737488355328) : msg_Bound.f s = some (bndB s) := by
  obtain ⟨b, hb⟩ := Bound_some s hs
  unfold bndB; rw [hb]; rfl
def stripB (l : List Fd) : List Fd := l.filter fun f => !bndB f.f0
theorem rd_at (l : List Fd) (i : Nat) (h : i < l.length) : rd_T30 l (i : Int) = l[i] := by
  unfold rd_T30
  rw [Int.toNat_natCast, List.getD, List.getElem?_eq_getElem h]; rfl
theorem dropc {l m : List Fd} {f : Fd} {i : Nat} (hd : l.drop i = f :: m) : ∃ h : i < l.length, l[i] = f ∧ l.drop (i + 1) = m := by
  have hi : i < l.length := by
    rcases Nat.lt_or_ge i l.length with h | h
    · exact h
    · rw [List.drop_eq_nil_of_le h] at hd; cases hd
  rw [List.drop_eq_getElem_cons hi] at hd
  exact ⟨hi, (List.cons.inj hd).1, (List.cons.inj hd).2⟩
theorem strip_loop (l : List Fd) (hs : small l) (hl : l.length ≤ 4194304) : ∀ (m : List Fd) (i k : Nat) (acc : List Fd), l.drop i = m → m.length < k → acc.length + m.length ≤ 8388608 → msg_Strip.l0 k acc l (l.length : Int) (i : Int) = some (acc ++ stripB m)
  | [], i, k, acc, hd, hk, ha => by
    obtain ⟨j, rfl⟩ : ∃ j, k = j + 1 := ⟨k - 1, by omega⟩
    have := List.drop_eq_nil_iff.1 hd
    rw [msg_Strip.l0, if_neg (by omega)]; simp [stripB]
  | f :: m, i, k, acc, hd, hk, ha => by
    rw [List.length_cons] at hk ha
    obtain ⟨j, rfl⟩ : ∃ j, k = j + 1 := ⟨k - 1, by omega⟩
    obtain ⟨hi, e1, e2⟩ := dropc hd
    have hf := hs f (by rw [← e1]; exact List.getElem_mem hi)
    rw [msg_Strip.l0, if_pos (by omega), if_pos (by omega), if_pos (by omega), rd_at l i hi, e1, Bound_is f.f0 (by omega), Option.bind_some, w1' (by omega)]
    by_cases hb : bndB f.f0 = true
    · rw [if_pos hb, strip_loop l hs hl m (i + 1) j acc e2 (by omega) (by omega)]
      simp [stripB, hb]
    · rw [if_neg hb, if_pos (by omega), strip_loop l hs hl m (i + 1) j _ e2 (by omega) (by simp; omega)]
      simp [stripB, hb]
theorem Strip_is (l : List Fd) (hs : small l) (hl : l.length ≤ 4194304) {k : Nat} (hk : l.length < k) : msg_Strip.f k l = some (stripB l) := by
  unfold msg_Strip.f
  have := strip_loop l hs hl l 0 k [] rfl hk (by simp; omega)
  simpa using this
def lwB (f : Fd) : Fd := ⟨lowerS f.f0, f.f1⟩
theorem list_loop (l : List Fd) (hs : small l) (hl : l.length ≤ 4194304) : ∀ (m : List Fd) (i k : Nat) (acc : List Fd), l.drop i = m → m.length < k → acc.length + m.length ≤ 8388608 → msg_List.l0 k acc l (l.length : Int) (i : Int) = some (acc ++ m.map lwB)
  | [], i, k, acc, hd, hk, ha => by
    obtain ⟨j, rfl⟩ : ∃ j, k = j + 1 := ⟨k - 1, by omega⟩
    have := List.drop_eq_nil_iff.1 hd
    rw [msg_List.l0, if_neg (by omega)]; simp
  | f :: m, i, k, acc, hd, hk, ha => by
    rw [List.length_cons] at hk ha
    obtain ⟨j, rfl⟩ : ∃ j, k = j + 1 := ⟨k - 1, by omega⟩
    obtain ⟨hi, e1, e2⟩ := dropc hd
    have hf := hs f (by rw [← e1]; exact List.getElem_mem hi)
    have el : text_Lower.f f.f0 = some (lowerS f.f0) := if_pos (by omega)
    rw [msg_List.l0, if_pos (by omega), if_pos (by omega), if_pos (by omega), rd_at l i hi, e1, el, Option.bind_some, w1' (by omega), if_pos (by omega), list_loop l hs hl m (i + 1) j _ e2 (by omega) (by simp; omega)]
    simp [lwB]
theorem dig3 (n : Nat) (h0 : 100 ≤ n) (h1 : n ≤ 999) : (Lib.decDigits n).length = 3 := by
  rw [Lib.decDigits, dif_neg (by omega), Lib.decDigits, dif_neg (by omega), Lib.decDigits, dif_pos (by omega)]; simp
def stB : ByteArray := ⟨#[58, 115, 116, 97, 116, 117, 115]⟩
theorem List_is (st : Int) (l : List Fd) (hs : small l) (hl : l.length ≤ 1048576) {k : Nat} (hk : 4194304 ≤ k) : ∃ t : ByteArray, t.size = 3 ∧ msg_List.f k st l (⟨#[]⟩ : ByteArray) ([] : List Fd) = some (⟨stB, t⟩ :: (stripB l).map lwB) := by
  obtain ⟨k, rfl⟩ : ∃ j, k = j + 1 + 1 := ⟨k - 2, by omega⟩
  have hsub : ∀ f ∈ stripB l, f ∈ l := fun f hf => (List.mem_filter.1 hf).1
  have hs2 : small (stripB l) := fun f hf => hs f (hsub f hf)
  have hl2 : (stripB l).length ≤ l.length := List.length_filter_le _ _
  have tail : ∀ n : Nat, 100 ≤ n → n ≤ 999 → msg_List.j1 (k + 1) (n : Int) st l (⟨#[]⟩ : ByteArray) ([] : List Fd) = some (⟨stB, ⟨(Lib.decDigits n).toArray⟩⟩ :: (stripB l).map lwB) := by
    intro n h0 h1
    have hd : text_Decimal.f (n : Int) = some ⟨(Lib.decDigits n).toArray⟩ := by
      unfold text_Decimal.f strconv_Itoa.f
      rw [if_pos (by omega), if_pos (by omega), Option.bind_some, Lib.itoa_nonneg]
    rw [msg_List.j1, hd, Option.bind_some, Strip_is l hs (by omega) (by omega), Option.bind_some]
    have := list_loop (stripB l) hs2 (by omega) (stripB l) 0 k [(⟨stB, ⟨(Lib.decDigits n).toArray⟩⟩ : Fd)] rfl (by omega) (by simp; omega)
    exact this
  have sz3 : ∀ n : Nat, 100 ≤ n → n ≤ 999 → (⟨(Lib.decDigits n).toArray⟩ : ByteArray).size = 3 := fun n h0 h1 => by rw [← sz]; exact dig3 n h0 h1
  unfold msg_List.f
  by_cases c1 : st < 100
  · rw [if_pos c1, msg_List.j0, if_pos rfl]
    exact ⟨_, sz3 500 (by decide) (by decide), tail 500 (by decide) (by decide)⟩
  · rw [if_neg c1, msg_List.j0]
    by_cases c2 : st > 999
    · rw [if_pos (decide_eq_true c2)]
      exact ⟨_, sz3 500 (by decide) (by decide), tail 500 (by decide) (by decide)⟩
    · rw [if_neg (by simpa using c2)]
      obtain ⟨n, rfl⟩ : ∃ n : Nat, st = n := ⟨st.toNat, by omega⟩
      exact ⟨_, sz3 n (by omega) (by omega), tail n (by omega) (by omega)⟩
theorem same_loop (l : List Fd) (hl : l.length ≤ 4194304) : ∀ (d i k : Nat), i + d = l.length → d < k → ostlerref14_Same.l0 k l l (i : Int) = some true
  | 0, i, k, hi, hk => by
    obtain ⟨j, rfl⟩ : ∃ j, k = j + 1 := ⟨k - 1, by omega⟩
    rw [ostlerref14_Same.l0, if_neg (by omega)]
  | d + 1, i, k, hi, hk => by
    obtain ⟨j, rfl⟩ : ∃ j, k = j + 1 := ⟨k - 1, by omega⟩
    rw [ostlerref14_Same.l0, if_pos (by omega), if_pos (by omega), if_pos (by omega), if_neg (by simp), w1' (by omega)]
    exact same_loop l hl d (i + 1) j (by omega) (by omega)
theorem same_self (l : List Fd) (hl : l.length ≤ 4194304) {k : Nat} (hk : l.length < k) : ostlerref14_Same.f k l l = some true := by
  unfold ostlerref14_Same.f
  rw [if_pos rfl]
  exact same_loop l hl l.length 0 k (by omega) hk
theorem strip_strip (l : List Fd) : stripB (stripB l) = stripB l := by
  unfold stripB; rw [List.filter_filter]; simp
theorem strips_loop (a : List Fd) (s0 : Fd) (hs : small a) (hl : a.length ≤ 1048576) (hn : ∀ f ∈ a, bndB f.f0 = false) (hst : stripB a = a) : ∀ (m : List Fd) (i k : Nat), a.drop i = m → 4194304 + m.length < k →
    ostlerlaw14_MsgStrips.l0 k a (s0 :: a.map lwB) (i : Int) = some true
  | [], i, k, hd, hk => by
    obtain ⟨j, rfl⟩ : ∃ j, k = j + 1 := ⟨k - 1, by omega⟩
    have := List.drop_eq_nil_iff.1 hd
    rw [List.length_nil] at hk
    rw [ostlerlaw14_MsgStrips.l0, if_neg (by omega), Strip_is a hs (by omega) (by omega), Option.bind_some, hst, same_self a (by omega) (by omega), Option.bind_some, if_pos rfl, awake14 (by omega)]; rfl
  | f :: m, i, k, hd, hk => by
    rw [List.length_cons] at hk
    obtain ⟨j, rfl⟩ : ∃ j, k = j + 1 := ⟨k - 1, by omega⟩
    obtain ⟨hi, e1, e2⟩ := dropc hd
    have hmem : f ∈ a := by rw [← e1]; exact List.getElem_mem hi
    have hf := hs f hmem
    have e3 : rd_T30 (s0 :: a.map lwB) ((i + 1 : Nat) : Int) = lwB f := by
      rw [rd_at _ _ (by simp; omega), List.getElem_cons_succ, List.getElem_map, e1]
    have el : ostlerref01_Lower.f f.f0 = some (lowerS f.f0) := if_pos (by omega)
    have b1 : (i : Int) < (a.length : Int) := by omega
    have b2 : (0 : Int) ≤ (i : Int) := by omega
    have b3 : ((i + 1 : Nat) : Int) < ((s0 :: a.map lwB).length : Int) := by simp; omega
    have b4 : (0 : Int) ≤ ((i + 1 : Nat) : Int) := by omega
    rw [ostlerlaw14_MsgStrips.l0, if_pos b1, if_pos b2, rd_at a i hi, e1, Bound_is f.f0 (by omega), Option.bind_some, if_neg (by rw [hn f hmem]; decide), w1' (by omega), if_pos b4, if_pos b3, el, Option.bind_some, e3, if_pos (show (lwB f).f0.toList = (lowerS f.f0).toList from rfl), if_pos (show (lwB f).f1.toList = f.f1.toList from rfl)]
    exact strips_loop a s0 hs hl hn hst m (i + 1) j e2 (by omega)
theorem MsgStrips (l : List Fd) (st : Int) (hw : (Lit.int .i64 st).wf = true) (hg : ∀ x ∈ l, PR.good30 x) (hb : (l.map PR.bulk30).sum ≤ 1048576) : ∃ k, ostlerlaw14_MsgStrips.f k l st = some true := by
  obtain ⟨h1, h2⟩ := bulk_small' l 1048576 (by omega)
  have hs : small l := h2
  have hsub : ∀ f ∈ stripB l, f ∈ l := fun f hf => (List.mem_filter.1 hf).1
  have hs2 : small (stripB l) := fun f hf => hs f (hsub f hf)
  have hl2 : (stripB l).length ≤ l.length := List.length_filter_le _ _
  have hn : ∀ f ∈ stripB l, bndB f.f0 = false := fun f hf => by simpa using (List.mem_filter.1 hf).2
  have hst := strip_strip l
  obtain ⟨t, ht, hL⟩ := List_is st l hs h1 (k := 9000001) (by decide)
  have hS := Strip_is l hs (by omega) (k := 9000001) (by omega)
  refine ⟨9000001, ?_⟩
  unfold ostlerlaw14_MsgStrips.f
  rw [hS, Option.bind_some, hL, Option.bind_some]
  generalize stripB l = a at hs2 hl2 hn hst
  have e0 : rd_T30 ((⟨stB, t⟩ : Fd) :: a.map lwB) 0 = ⟨stB, t⟩ := rfl
  have b1 : (((⟨stB, t⟩ : Fd) :: a.map lwB).length : Int) = ((a.length + 1 : Nat) : Int) := by simp
  have b2 : (0 : Int) < (((⟨stB, t⟩ : Fd) :: a.map lwB).length : Int) := by rw [b1]; omega
  have b3 : stB.toList = ([58, 115, 116, 97, 116, 117, 115] : List UInt8) := by kernel_rfl
  have b4 : ((t.size : Int) != 3) = false := by rw [ht]; rfl
  rw [w1' (by omega), if_pos b1, if_pos b2, e0, if_pos b3, b4]
  rw [show (9000001 : Nat) = 9000000 + 1 from rfl, ostlerlaw14_MsgStrips.j0, if_neg (by decide)]
  exact strips_loop a _ hs2 (by omega) hn hst a 0 9000000 rfl (by omega)
end Go.Proofs.YtgeekchnolahhaaDoor.Q
