/- The plain law of TextJoins: tokens, joined by commas and blanks, and cut again. -/
import Derived.Test.YtbmedennhjenhaaDoorQTextMembers
import Derived.Test.YtbmedennhjenhaaDoorRowS
import Derived.Lib.Bytes
import Derived.Test.YtbmedennhjenhaaDoorPPx27
namespace Go.Proofs.YtbmedennhjenhaaDoor.Q
set_option linter.unusedVariables false
set_option linter.unusedSimpArgs false
open Go.RowKit Go.Proofs.YtbmedennhjenhaaDoorW.PrintWords Go.Proofs.YtbmedennhjenhaaDoorW.PrintLast Go.Proofs.YtbmedennhjenhaaDoorW.PrintMore
open PP

theorem tok_plain : ∀ c : UInt8, tokB c = true → c ≠ 44 ∧ c ≠ 34 := all8 (by decide +kernel)
/-- Letters that are no comma and no quote are passed. -/
theorem G_run (s : ByteArray) : ∀ (u r : List UInt8) (i a : Nat) (out : List ByteArray), (∀ c ∈ u, c ≠ 44 ∧ c ≠ 34) → G s (u ++ r) false i a out = G s r false (i + u.length) a out
  | [], r, i, a, out, _ => rfl
  | c :: u, r, i, a, out, h => by
    have hc := h c (by simp)
    rw [List.cons_append, G_other s c (u ++ r) false i a out (by simp [hc.1]) (by simp) hc.2, G_run s u r (i + 1) a out (fun x hx => h x (List.mem_cons_of_mem _ hx)), List.length_cons]
    congr 1; omega
theorem seg_mid {s : ByteArray} {p u r : List UInt8} (h : s.data.toList = p ++ (u ++ r)) : seg s p.length (p.length + u.length) = u := by
  unfold seg
  rw [h, List.drop_left, Nat.add_sub_cancel_left, List.take_left]
/-- The tokens that are left, each with a separator ahead. -/
def tails (sp : List UInt8) : List ByteArray → List UInt8
  | [] => []
  | m :: r => 44 :: (sp ++ m.data.toList) ++ tails sp r
def tokL (m : ByteArray) : Bool := m.data.toList.all tokB && decide (0 < m.size)
theorem addM_tok (s : ByteArray) (sp : List UInt8) (hsp : ∀ c ∈ sp, c = 32) (m : ByteArray) (hm : tokL m = true) (a i : Nat) (h : seg s a i = sp ++ m.data.toList) (out : List ByteArray) : addM s a i out = out ++ [m] := by
  unfold tokL at hm
  rw [Bool.and_eq_true, decide_eq_true_iff] at hm
  have hne : m.data.toList ≠ [] := by intro e; have := congrArg List.length e; rw [sz, List.length_nil] at this; omega
  have ht : Lib.trimS (sp ++ m.data.toList) [32, 9] = m.data.toList := by
    have h1 : Lib.trimS m.data.toList [32, 9] = m.data.toList := by
      have := trimS_ends m.data.toList
      rw [trimmed_of_tok hm.1, beq_iff_eq] at this; exact this
    rw [trimS_blank, ← trim_both] at h1 ⊢
    have e : (sp ++ m.data.toList).dropWhile blankB = m.data.toList.dropWhile blankB := by
      clear h h1
      induction sp with
      | nil => rfl
      | cons c r ih =>
        rw [List.cons_append, List.dropWhile_cons_of_pos (by rw [hsp c (by simp)]; rfl)]
        exact ih (fun x hx => hsp x (List.mem_cons_of_mem _ hx))
    rw [e, h1]
  unfold addM
  rw [h, ht, if_neg hne]
theorem tok_chars {m : ByteArray} (hm : tokL m = true) : ∀ c ∈ m.data.toList, c ≠ 44 ∧ c ≠ 34 := by
  unfold tokL at hm
  rw [Bool.and_eq_true] at hm
  exact fun c hc => tok_plain c (List.all_eq_true.1 hm.1 c hc)
theorem sp_chars {sp : List UInt8} (hsp : ∀ c ∈ sp, c = 32) : ∀ c ∈ sp, c ≠ 44 ∧ c ≠ 34 := fun c hc => by rw [hsp c hc]; decide
theorem G_tails (s : ByteArray) (sp : List UInt8) (hsp : ∀ c ∈ sp, c = 32) : ∀ (r : List ByteArray) (p u : List UInt8) (su : List UInt8) (m : ByteArray) (out : List ByteArray), s.data.toList = p ++ (u ++ tails sp r) → u = su ++ m.data.toList → (∀ c ∈ su, c = 32) → tokL m = true → (∀ x ∈ r, tokL x = true) →
    G s (u ++ tails sp r) false p.length p.length out = out ++ (m :: r)
  | [], p, u, su, m, out, hs, hu, hsu, hm, hr => by
    have hc : ∀ c ∈ u, c ≠ 44 ∧ c ≠ 34 := by
      rw [hu]; intro c hc
      rcases List.mem_append.1 hc with hc | hc
      · exact sp_chars hsu c hc
      · exact tok_chars hm c hc
    rw [G_run s u _ _ _ _ hc, tails, G_nil, addM_tok s su hsu m hm _ _ (by rw [seg_mid hs, hu])]
  | x :: r, p, u, su, m, out, hs, hu, hsu, hm, hr => by
    have hc : ∀ c ∈ u, c ≠ 44 ∧ c ≠ 34 := by
      rw [hu]; intro c hc
      rcases List.mem_append.1 hc with hc | hc
      · exact sp_chars hsu c hc
      · exact tok_chars hm c hc
    have ih := G_tails s sp hsp r (p ++ u ++ [44]) (sp ++ x.data.toList) sp x (out ++ [m]) (by rw [hs, tails]; simp) rfl hsp (hr x (by simp)) (fun y hy => hr y (List.mem_cons_of_mem _ hy))
    rw [G_run s u _ _ _ _ hc, tails, List.cons_append, G_comma, addM_tok s su hsu m hm _ _ (by rw [seg_mid hs, hu])]
    rw [List.length_append, List.length_append, List.length_singleton] at ih
    rw [ih, List.append_assoc]; rfl
/-- The text that is joined. -/
def joined (sp : List UInt8) : List ByteArray → List UInt8
  | [] => []
  | m :: r => m.data.toList ++ tails sp r
theorem G_joined (s : ByteArray) (sp : List UInt8) (hsp : ∀ c ∈ sp, c = 32) (r : List ByteArray) (hr : ∀ x ∈ r, tokL x = true) (hs : s.data.toList = joined sp r) : G s s.data.toList false 0 0 [] = r := by
  cases r with
  | nil =>
    rw [hs, joined, G_nil]
    unfold addM
    rw [seg_self]; rfl
  | cons m r =>
    have := G_tails s sp hsp r [] m.data.toList [] m [] (by rw [hs, joined]; rfl) rfl (fun _ h => by cases h) (hr m (by simp)) (fun y hy => hr y (List.mem_cons_of_mem _ hy))
    rw [hs, joined]; exact this
theorem tails_append (sp : List UInt8) : ∀ (a : List ByteArray) (m : ByteArray), tails sp (a ++ [m]) = tails sp a ++ (44 :: (sp ++ m.data.toList))
  | [], m => by simp [tails]
  | x :: a, m => by rw [List.cons_append, tails, tails_append sp a m, tails, List.append_assoc]
theorem joined_append (sp : List UInt8) (a : List ByteArray) (m : ByteArray) : joined sp (a ++ [m]) = joined sp a ++ (if a = [] then m.data.toList else 44 :: (sp ++ m.data.toList)) := by
  cases a with
  | nil => simp [joined, tails]
  | cons x a => rw [List.cons_append, joined, tails_append, joined, if_neg (by simp), List.append_assoc]
def sep (sp : List UInt8) : ByteArray := ⟨(44 :: sp).toArray⟩
def intsOf (l : List UInt8) : List Int := l.map fun c => (c.toNat : Int)
theorem bytesOf_eq (s : ByteArray) : bytesOf s = intsOf s.data.toList := rfl
theorem strOf_ints (l : List UInt8) : (strOfNums (intsOf l)).data.toList = l := by
  rw [← Lib.toList_data, Lib.strOfNums_toList]
  unfold Lib.bytesOf intsOf
  rw [List.map_map]
  conv => rhs; rw [← List.map_id l]
  apply List.map_congr_left
  intro c _
  simp
theorem bulk_mem : ∀ {l : List ByteArray} {m : ByteArray}, m ∈ l → m.size + 1 ≤ PR.bulkS l
  | x :: r, m, h => by
    rcases List.mem_cons.1 h with rfl | h
    · rw [PR.bulkS]; omega
    · have := bulk_mem h; rw [PR.bulkS]; omega
theorem bulk_len : ∀ l : List ByteArray, l.length ≤ PR.bulkS l
  | [] => Nat.zero_le _
  | x :: r => by have := bulk_len r; rw [PR.bulkS, List.length_cons]; omega
def joinFuel (n : Nat) : Nat := n + 60000000
theorem joins_l1 (L : List ByteArray) (hL : PR.bulkS L ≤ 1048576) (sp : List UInt8) (hsp : ∀ c ∈ sp, c = 32) (hspl : sp.length ≤ 5) :
    ∀ (r T : List ByteArray) (j k : Nat), L.drop j = r → j ≤ L.length → (∀ x ∈ T, tokL x = true) → T.length ≤ j → (joined sp T).length + 7 * PR.bulkS r ≤ 7 * 1048576 → joinFuel r.length < k →
      ostlerlaw01_TextJoins.l1 k L (sep sp) (intsOf (joined sp T)) T (j : Int) = some true
  | [], T, j, k, hd, hj, hT, hTl, hb, hk => by
    obtain ⟨k, rfl⟩ : ∃ m, k = m + 1 := ⟨k - 1, by unfold joinFuel at hk; omega⟩
    unfold joinFuel at hk
    have hn : L.length ≤ j := List.drop_eq_nil_iff.1 hd
    have hlen := bulk_len L
    have q1 : ¬ ((j : Int) < (L.length : Int)) := by omega
    have hs := strOf_ints (joined sp T)
    have hz : (strOfNums (intsOf (joined sp T))).size = (joined sp T).length := by rw [← sz, hs]
    have hg := G_joined (strOfNums (intsOf (joined sp T))) sp hsp T hT hs
    rw [ostlerlaw01_TextJoins.l1, if_neg q1, Ev_awake01 (by omega), Option.bind_some, if_pos rfl, text_List_is _ (by omega) (by omega), Option.bind_some, hg, same_is T (by omega) (by omega)]
    rfl
  | m :: r, T, j, k, hd, hj, hT, hTl, hb, hk => by
    obtain ⟨k, rfl⟩ : ∃ m, k = m + 1 := ⟨k - 1, by unfold joinFuel at hk; omega⟩
    unfold joinFuel at hk
    simp only [List.length_cons] at hk
    obtain ⟨g1, g2, g3⟩ := rdOf_at hd
    have hmem : m ∈ L := List.mem_of_mem_drop (i := j) (by rw [hd]; simp)
    have hmz := bulk_mem hmem
    have hlen := bulk_len L
    rw [PR.bulkS] at hb
    have q1 : (j : Int) < (L.length : Int) := by omega
    have q2 : (0 : Int) ≤ (j : Int) := by omega
    have hj4 : j < 4611686018427387904 := by omega
    have hmb : (bytesOf m).length = m.size := by rw [bytesOf_eq]; unfold intsOf; rw [List.length_map, sz]
    have hil : (intsOf (joined sp T)).length = (joined sp T).length := by unfold intsOf; rw [List.length_map]
    have hsz : (sep sp).size = sp.length + 1 := by rw [← sz]; rfl
    rw [ostlerlaw01_TextJoins.l1, if_pos q1, if_pos q2, g2, text_Token_is m (by omega) (by omega), Option.bind_some, w1 hj4]
    by_cases ht : (m.data.toList.all tokB && decide (0 < m.size)) = true
    · have hT2 : ∀ x ∈ T ++ [m], tokL x = true := by
        intro x hx
        rcases List.mem_append.1 hx with hx | hx
        · exact hT x hx
        · rw [List.mem_singleton.1 hx]; exact ht
      have hja := joined_append sp T m
      have hjl : (joined sp (T ++ [m])).length ≤ (joined sp T).length + (m.size + 6) := by
        rw [hja, List.length_append]
        split
        · rw [sz]; omega
        · rw [List.length_cons, List.length_append, sz]; omega
      have ih := joins_l1 L hL sp hsp hspl r (T ++ [m]) (j + 1) k g3 (by omega) hT2 (by simp; omega) (by omega) (by unfold joinFuel; omega)
      rw [if_pos ht]
      by_cases h0 : (T.length : Int) > 0
      · have hne : T ≠ [] := by intro e; rw [e] at h0; simp at h0
        have ej : (intsOf (joined sp T) ++ bytesOf (sep sp)) ++ bytesOf m = intsOf (joined sp (T ++ [m])) := by
          rw [hja, if_neg hne]
          unfold intsOf
          rw [List.map_append, List.append_assoc]
          congr 1
          show _ = List.map _ ((44 :: sp) ++ m.data.toList)
          rw [List.map_append]; rfl
        have q3 : (intsOf (joined sp T)).length + (sep sp).size < 140737488355328 := by omega
        have q4 : (intsOf (joined sp T) ++ bytesOf (sep sp)).length + m.size < 140737488355328 := by
          rw [List.length_append, hil, bytesOf_length, hsz]; omega
        have q5 : T.length < 8796093022208 := by omega
        rw [if_pos h0, if_pos q3, Option.bind_some, if_pos q4, if_pos q5, ej, ih]
      · have he : T = [] := List.length_eq_zero_iff.1 (by omega)
        have ej : intsOf (joined sp T) ++ bytesOf m = intsOf (joined sp (T ++ [m])) := by
          rw [hja, if_pos he]; unfold intsOf; rw [List.map_append]; rfl
        have q3 : (intsOf (joined sp T)).length + m.size < 140737488355328 := by omega
        have q5 : T.length < 8796093022208 := by omega
        rw [if_neg h0, if_pos q3, if_pos q5, ej, ih]
    · have ih := joins_l1 L hL sp hsp hspl r T (j + 1) k g3 (by omega) hT (by omega) (by omega) (by unfold joinFuel; omega)
      rw [if_neg ht, ih]
theorem joins_l0 (L : List ByteArray) (hL : PR.bulkS L ≤ 1048576) (b : Int) : ∀ (n m k : Nat) (sp : List UInt8), m + n = 5 → sp.length = m → (∀ c ∈ sp, c = 32) → joinFuel L.length + 2 + n < k →
    ostlerlaw01_TextJoins.l0 k L b (sep sp) (m : Int) = some true
  | n, m, k, sp, hmn, hsl, hsp, hk => by
    obtain ⟨k, rfl⟩ : ∃ m, k = m + 2 := ⟨k - 2, by omega⟩
    have done : ∀ k, joinFuel L.length < k → ostlerlaw01_TextJoins.j1 (k + 1) L (sep sp) = some true := by
      intro k hk
      rw [ostlerlaw01_TextJoins.j1]
      have := joins_l1 L hL sp hsp (by omega) L [] 0 k rfl (by omega) (fun _ h => by cases h) (Nat.le_refl _) (by simp [joined]; omega) hk
      exact this
    rw [ostlerlaw01_TextJoins.l0]
    by_cases hb : (m : Int) < b
    · rw [if_pos hb]
      cases n with
      | zero => rw [if_neg (by omega)]; exact done k (by omega)
      | succ n =>
        have hz : (sep sp).size = sp.length + 1 := by rw [← sz]; rfl
        have es : sep sp ++ (⟨#[32]⟩ : ByteArray) = sep (sp ++ [32]) := by
          apply ba_ext
          rw [ByteArray.data_append, Array.toList_append]; rfl
        have ih := joins_l0 L hL b n (m + 1) (k + 1) (sp ++ [32]) (by omega) (by simp [hsl]) (fun c hc => by
          rcases List.mem_append.1 hc with hc | hc
          · exact hsp c hc
          · exact List.mem_singleton.1 hc) (by omega)
        have hm4 : m < 4611686018427387904 := by omega
        rw [if_pos (by omega), if_pos (by rw [hz]; omega), es, w1 hm4, ih]
    · rw [if_neg hb]; exact done k (by omega)
theorem TextJoins (L : List ByteArray) (b : Int) (_ : (Lit.int .i64 b).wf = true) (hL : PR.bulkS L ≤ 1048576) : ∃ k, ostlerlaw01_TextJoins.f k L b = some true := by
  refine ⟨joinFuel L.length + 10, ?_⟩
  unfold ostlerlaw01_TextJoins.f
  exact joins_l0 L hL b 5 0 _ [] rfl rfl (fun _ h => by cases h) (by omega)
end Go.Proofs.YtbmedennhjenhaaDoor.Q
