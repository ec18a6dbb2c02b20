/- The plain law of PrioParses: both walk over the same members, cut and trimmed alike, and read each alike. -/
import Derived.Test.YtbndichleiameaaDoorQListsB
import Derived.Lib.IndexMore
import Derived.Test.YtbndichleiameaaDoorPPx11
namespace Go.Proofs.YtbndichleiameaaDoor.Q
set_option linter.unusedVariables false
set_option linter.unusedSimpArgs false
open Go.RowKit Go.Proofs.YtbndichleiameaaDoorW.PrintWords Go.Proofs.YtbndichleiameaaDoorW.PrintLast Go.Proofs.YtbndichleiameaaDoorW.PrintMore
open PP

theorem index_one (c : UInt8) : ∀ l : List UInt8, (Lib.index l [c] = -1 ∧ c ∉ l) ∨ ∃ p r, l = p ++ c :: r ∧ c ∉ p ∧ Lib.index l [c] = (p.length : Int)
  | [] => .inl ⟨by unfold Lib.index; rfl, by simp⟩
  | b :: l => by
    unfold Lib.index
    by_cases h : c = b
    · subst h
      exact .inr ⟨[], l, rfl, by simp, by simp [List.isPrefixOf]⟩
    · have hp : ([c] : List UInt8).isPrefixOf (b :: l) = false := by simp [List.isPrefixOf, h]
      rw [hp, if_neg (by decide)]
      rcases index_one c l with ⟨e, hn⟩ | ⟨p, r, rfl, hn, e⟩
      · rw [e, if_pos (by decide)]; exact .inl ⟨rfl, by simp [h, hn]⟩
      · rw [e, if_neg (by simp)]
        exact .inr ⟨b :: p, r, rfl, by simp [h, hn], by simp⟩
/-- What stands ahead of the first c. -/
def ahead (c : UInt8) : List UInt8 → List UInt8
  | [] => []
  | b :: l => if b = c then [] else b :: ahead c l
theorem ahead_none (c : UInt8) : ∀ l : List UInt8, c ∉ l → ahead c l = l
  | [], _ => rfl
  | b :: l, h => by
    simp only [List.mem_cons, not_or] at h
    rw [ahead, if_neg (fun e => h.1 e.symm), ahead_none c l h.2]
theorem ahead_some (c : UInt8) (r : List UInt8) : ∀ p : List UInt8, c ∉ p → ahead c (p ++ c :: r) = p
  | [], _ => by rw [List.nil_append, ahead, if_pos rfl]
  | b :: p, h => by
    simp only [List.mem_cons, not_or] at h
    rw [List.cons_append, ahead, if_neg (fun e => h.1 e.symm), ahead_some c r p h.2]
theorem cut_ahead (c : UInt8) (l : List UInt8) : (Lib.cut l [c]).1 = ahead c l := by
  unfold Lib.cut
  rcases index_one c l with ⟨e, hn⟩ | ⟨p, r, rfl, hn, e⟩
  · rw [e, if_neg (by decide), ahead_none c l hn]
  · rw [e, if_pos (by omega), ahead_some c r p hn]; simp
theorem ahead_length (c : UInt8) : ∀ l : List UInt8, (ahead c l).length ≤ l.length
  | [] => Nat.le_refl _
  | b :: l => by
    have := ahead_length c l
    unfold ahead; split <;> simp; omega
/-- A member as it is read: what stands ahead of a ';', without blanks. -/
def memT (m : ByteArray) : List UInt8 := Lib.trimS (ahead 59 m.data.toList) [32, 9]
def isU (t : List UInt8) : Bool := match t with
  | [a, b, c] => a == 117 && b == 61 && decide (48 ≤ (c.toNat : Int)) && decide ((c.toNat : Int) ≤ 55)
  | _ => false
def uOf (t : List UInt8) : Int := match t with
  | [_, _, c] => ((c.toNat : Int) - 48) % 256
  | _ => 0
def stepM (t : List UInt8) (u : Int) (p : Bool) : Int × Bool :=
  if t = [105] then (u, true) else if t = [105, 61, 63, 49] then (u, true) else if t = [105, 61, 63, 48] then (u, false) else if isU t = true then (uOf t, p) else (u, p)
def runM : List ByteArray → Int → Bool → Int × Bool
  | [], u, p => (u, p)
  | m :: r, u, p => runM r (stepM (memT m) u p).1 (stepM (memT m) u p).2
theorem bt3 (a b c : UInt8) : bt (⟨([a, b, c] : List UInt8).toArray⟩ : ByteArray) 2 = (c.toNat : Int) := rfl
theorem three (t : List UInt8) (h : ∀ a b c, t ≠ [a, b, c]) : t.length ≠ 3 := by
  match t with
  | [] => simp
  | [a] => simp
  | [a, b] => simp
  | [a, b, c] => exact absurd rfl (h a b c)
  | a :: b :: c :: d :: t => simp
theorem prio_j1 (k : Nat) (t : List UInt8) (L : List ByteArray) (n j : Int) (u : Int) (p : Bool) :
    (if t = ([105] : List UInt8) then (prio_Parse.j1 (k + 1) ⟨t.toArray⟩ L n j true u p) else (prio_Parse.j1 (k + 1) ⟨t.toArray⟩ L n j (t == ([105, 61, 63, 49] : List UInt8)) u p)) = prio_Parse.l0 k L n (wrap64 (j + 1)) (stepM t u p).1 (stepM t u p).2 := by
  unfold stepM
  by_cases h1 : t = [105]
  · rw [if_pos h1, if_pos h1, prio_Parse.j1, if_pos rfl]
  rw [if_neg h1, if_neg h1]
  by_cases h2 : t = [105, 61, 63, 49]
  · rw [if_pos h2, prio_Parse.j1, if_pos (by rw [h2]; rfl)]
  rw [if_neg h2, prio_Parse.j1, if_neg (by simpa using h2)]
  have ht : (⟨t.toArray⟩ : ByteArray).toList = t := by rw [Lib.toList_data]
  rw [ht]
  by_cases h3 : t = [105, 61, 63, 48]
  · rw [if_pos h3, if_pos h3]
  rw [if_neg h3, if_neg h3]
  have hz : (⟨t.toArray⟩ : ByteArray).size = t.length := by rw [← sz]
  by_cases h4 : ∃ a b c, t = [a, b, c]
  · obtain ⟨a, b, c, rfl⟩ := h4
    have hx : ((⟨([a, b, c] : List UInt8).toArray⟩ : ByteArray).extract 0 2).toList = [a, b] := by rw [Lib.toList_data]; rfl
    rw [hz, if_pos (show (([a, b, c] : List UInt8).length : Int) = 3 from rfl), if_pos (by decide), if_pos (show (2 : Int) ≤ (([a, b, c] : List UInt8).length : Int) from by simp), hx, bt3]
    unfold isU uOf
    by_cases h5 : ([a, b] : List UInt8) = [117, 61]
    · simp only [List.cons.injEq, and_true] at h5
      obtain ⟨rfl, rfl⟩ := h5
      rw [if_pos rfl, if_pos (show (2 : Int) < (([117, 61, c] : List UInt8).length : Int) from by simp)]
      by_cases h6 : 48 ≤ (c.toNat : Int)
      · rw [if_pos h6]
        by_cases h7 : (c.toNat : Int) ≤ 55
        · rw [if_pos h7, if_pos (by simp only [decide_eq_true h6, decide_eq_true h7]; rfl)]
        · rw [if_neg h7, if_neg (by simp only [decide_eq_false h7]; simp)]
      · rw [if_neg h6, if_neg (by simp only [decide_eq_false h6]; simp)]
    · rw [if_neg h5, if_neg (by
        intro e
        simp only [Bool.and_eq_true, beq_iff_eq] at e
        exact h5 (by rw [e.1.1.1, e.1.1.2]))]
  · have h5 : t.length ≠ 3 := three t (fun a b c e => h4 ⟨a, b, c, e⟩)
    rw [hz, if_neg (by omega)]
    have h6 : isU t = false := by
      unfold isU
      split
      · rename_i a b c; exact absurd ⟨a, b, c, rfl⟩ h4
      · rfl
    rw [h6, if_neg (by decide)]
theorem isU_cases (t : List UInt8) (h : isU t = true) : t = [117, 61, 48] ∨ t = [117, 61, 49] ∨ t = [117, 61, 50] ∨ t = [117, 61, 51] ∨ t = [117, 61, 52] ∨ t = [117, 61, 53] ∨ t = [117, 61, 54] ∨ t = [117, 61, 55] := by
  unfold isU at h
  split at h
  · rename_i a b c
    simp only [Bool.and_eq_true, beq_iff_eq, decide_eq_true_eq] at h
    obtain ⟨⟨⟨rfl, rfl⟩, h1⟩, h2⟩ := h
    have key : ∀ c : UInt8, 48 ≤ (c.toNat : Int) → (c.toNat : Int) ≤ 55 → c = 48 ∨ c = 49 ∨ c = 50 ∨ c = 51 ∨ c = 52 ∨ c = 53 ∨ c = 54 ∨ c = 55 := all8 (by decide +kernel)
    rcases key c h1 h2 with rfl | rfl | rfl | rfl | rfl | rfl | rfl | rfl <;> simp
  · cases h
theorem ref_j2 (k : Nat) (t : List UInt8) (L : List ByteArray) (j : Int) (u : Int) (p : Bool) :
    (if t = ([105] : List UInt8) then (ostlerref10_Parse.j2 (k + 1) L j ⟨t.toArray⟩ ⟨t.toArray⟩ (t == ([105] : List UInt8)) u p) else (ostlerref10_Parse.j2 (k + 1) L j ⟨t.toArray⟩ ⟨t.toArray⟩ (t == ([105, 61, 63, 49] : List UInt8)) u p)) = ostlerref10_Parse.l0 k L (wrap64 (j + 1)) (stepM t u p).1 (stepM t u p).2 := by
  unfold stepM
  by_cases h1 : t = [105]
  · rw [if_pos h1, if_pos h1, ostlerref10_Parse.j2, if_pos (by rw [h1]; rfl)]
  rw [if_neg h1, if_neg h1]
  by_cases h2 : t = [105, 61, 63, 49]
  · rw [if_pos h2, ostlerref10_Parse.j2, if_pos (by rw [h2]; rfl)]
  rw [if_neg h2, ostlerref10_Parse.j2, if_neg (by simpa using h2)]
  have ht : (⟨t.toArray⟩ : ByteArray).toList = t := by rw [Lib.toList_data]
  rw [ht]
  by_cases h3 : t = [105, 61, 63, 48]
  · rw [if_pos h3, if_pos h3]
  rw [if_neg h3, if_neg h3]
  by_cases h4 : isU t = true
  · rw [if_pos h4]
    rcases isU_cases t h4 with rfl | rfl | rfl | rfl | rfl | rfl | rfl | rfl <;> rfl
  · rw [if_neg h4]
    have hne : ∀ d : List UInt8, isU d = true → t ≠ d := fun d hd e => h4 (by rw [e]; exact hd)
    rw [if_neg (hne _ (by decide)), if_neg (hne _ (by decide)), if_neg (hne _ (by decide)), if_neg (hne _ (by decide)), if_neg (hne _ (by decide)), if_neg (hne _ (by decide)), if_neg (hne _ (by decide)), if_neg (hne _ (by decide))]
theorem rdOf_at (L : List ByteArray) (j : Nat) (m : ByteArray) (r : List ByteArray) (h : L.drop j = m :: r) : rdOf ByteArray.empty L (j : Int) = m := by
  have h1 : L[j]? = some m := by
    have := congrArg List.head? h
    simpa [List.head?_drop] using this
  simp [rdOf, List.getD_eq_getElem?_getD, h1]
theorem drop_lt {α : Type} (L : List α) (j : Nat) (m : α) (r : List α) (h : L.drop j = m :: r) : j < L.length ∧ L.drop (j + 1) = r := by
  constructor
  · rcases Nat.lt_or_ge j L.length with h1 | h1
    · exact h1
    · rw [List.drop_of_length_le h1] at h; cases h
  · rw [← List.drop_drop, h]; rfl
theorem prio_l0 (L : List ByteArray) (hL : L.length ≤ 67108864) : ∀ (r : List ByteArray) (j k : Nat) (u : Int) (p : Bool), L.drop j = r → j ≤ L.length → (∀ m ∈ r, m.size ≤ 16777216) → 2 * r.length < k → prio_Parse.l0 k L (L.length : Int) (j : Int) u p = some (runM r u p)
  | [], j, k, u, p, hd, hj, hm, hk => by
    obtain ⟨k, rfl⟩ : ∃ k', k = k' + 1 := ⟨k - 1, by omega⟩
    have : j = L.length := by
      have := congrArg List.length hd
      simp at this; omega
    rw [prio_Parse.l0, if_neg (by omega), runM]
  | m :: r, j, k, u, p, hd, hj, hm, hk => by
    obtain ⟨k, rfl⟩ : ∃ k', k = k' + 1 + 1 := ⟨k - 2, by simp at hk; omega⟩
    obtain ⟨h1, h2⟩ := drop_lt L j m r hd
    have hms := hm m (List.mem_cons_self ..)
    have hc : strings_Cut.f m (⟨#[59]⟩ : ByteArray) = some (⟨(ahead 59 m.data.toList).toArray⟩, ⟨(Lib.cut m.data.toList [59]).2.1.toArray⟩, (Lib.cut m.data.toList [59]).2.2) := by
      unfold strings_Cut.f
      rw [if_pos (by omega)]
      show some ((⟨(Lib.cut m.data.toList [59]).1.toArray⟩ : ByteArray), _, _) = _
      rw [cut_ahead]
    have ha := ahead_length 59 m.data.toList
    rw [sz] at ha
    have hsz : (⟨(ahead 59 m.data.toList).toArray⟩ : ByteArray).size ≤ 140737488355328 := by rw [← sz]; show (ahead 59 m.data.toList).length ≤ _; omega
    rw [prio_Parse.l0, if_pos (by omega), if_pos (by omega), if_pos (by omega), rdOf_at L j m r hd, hc, Option.bind_some, text_Trim_is _ hsz, Option.bind_some, Lib.toList_data]
    show (if memT m = ([105] : List UInt8) then (prio_Parse.j1 (k + 1) ⟨(memT m).toArray⟩ L (L.length : Int) j true u p) else (prio_Parse.j1 (k + 1) ⟨(memT m).toArray⟩ L (L.length : Int) j (memT m == ([105, 61, 63, 49] : List UInt8)) u p)) = _
    rw [prio_j1, w1 (by omega), runM]
    exact prio_l0 L hL r (j + 1) k _ _ h2 h1 (fun x hx => hm x (List.mem_cons_of_mem _ hx)) (by simp at hk; omega)
theorem ref_l1 (L : List ByteArray) (j : Int) (m : ByteArray) (hm : m.size ≤ 16777216) (u : Int) (q : Bool) (k : Nat) (res : Int × Bool) (hk : 2 * m.size + 10 ≤ k) (hres : ostlerref10_Parse.l0 k L (wrap64 (j + 1)) (stepM (memT m) u q).1 (stepM (memT m) u q).2 = some res) :
    ∀ (r p : List UInt8), m.data.toList = p ++ r → (59 : UInt8) ∉ p → ∀ K, k + r.length + 4 ≤ K → ostlerref10_Parse.l1 K L j m (p.length : Int) u q = some res := by
  have tail : ∀ (x : ByteArray) (i : Int) (K : Nat), x.size ≤ 16777216 → x.size ≤ m.size → (x.size : Int) ≤ i → Lib.trimS x.data.toList [32, 9] = memT m → k + 3 ≤ K → ostlerref10_Parse.l1 K L j x i u q = some res := by
    intro x i K hx hxm hi ht hK
    obtain ⟨K, rfl⟩ : ∃ k', K = k' + 1 + 1 := ⟨K - 2, by omega⟩
    rw [ostlerref10_Parse.l1, if_neg (by omega), ref_Trim_is x (by omega) (by omega), Option.bind_some, ht, Lib.toList_data]
    show (if memT m = ([105] : List UInt8) then (ostlerref10_Parse.j2 (K + 1) L j ⟨(memT m).toArray⟩ ⟨(memT m).toArray⟩ (memT m == ([105] : List UInt8)) u q) else (ostlerref10_Parse.j2 (K + 1) L j ⟨(memT m).toArray⟩ ⟨(memT m).toArray⟩ (memT m == ([105, 61, 63, 49] : List UInt8)) u q)) = _
    rw [ref_j2]
    exact from_le (g := fun k => ostlerref10_Parse.l0 k L (wrap64 (j + 1)) (stepM (memT m) u q).1 (stepM (memT m) u q).2) (fun k => (ostlerref10_Parse.mono_l k).1 _ _ _ _) hres (by omega)
  intro r
  induction r with
  | nil =>
    intro p hp hn K hK
    rw [List.append_nil] at hp
    have hsz : m.size = p.length := by rw [← sz, hp]
    exact tail m _ K hm (Nat.le_refl _) (by omega) (by unfold memT; rw [hp, ahead_none 59 p hn]) (by omega)
  | cons b r ih =>
    intro p hp hn K hK
    have hsz : m.size = p.length + (r.length + 1) := by rw [← sz, hp]; simp
    have hb := (dc (s := m) (i := p.length) (b := b) (t := r) (by rw [hp]; simp)).2.1
    obtain ⟨K, rfl⟩ : ∃ k', K = k' + 1 := ⟨K - 1, by omega⟩
    rw [ostlerref10_Parse.l1, if_pos (by omega), if_pos (by omega), hb, w1 (by omega)]
    by_cases h59 : b = 59
    · subst h59
      rw [if_pos (show ((UInt8.toNat 59 : Nat) : Int) = 59 from rfl), if_pos (by omega), Int.toNat_natCast]
      have hx : (m.extract 0 p.length).data.toList = p := by rw [Lib.extract_data, hp]; simp
      have hxs : (m.extract 0 p.length).size = p.length := by rw [← sz, hx]
      exact tail _ _ K (by omega) (by omega) (by omega) (by unfold memT; rw [hx, hp, ahead_some 59 r p hn]) (by simp at hK; omega)
    · have hne : ¬ ((b.toNat : Int) = 59) := by
        intro e
        exact h59 (UInt8.toNat_inj.1 (by show b.toNat = 59; omega))
      rw [if_neg hne]
      have := ih (p ++ [b]) (by rw [hp]; simp) (by simp [hn]; exact fun e => h59 e.symm) K (by simp at hK; omega)
      rw [List.length_append] at this
      exact this
theorem ref_l0 (L : List ByteArray) (hL : L.length ≤ 67108864) : ∀ (r : List ByteArray) (j : Nat) (u : Int) (q : Bool), L.drop j = r → j ≤ L.length → (∀ m ∈ r, m.size ≤ 16777216) → ∃ k, ostlerref10_Parse.l0 k L (j : Int) u q = some (runM r u q)
  | [], j, u, p, hd, hj, hm => by
    have : j = L.length := by
      have := congrArg List.length hd
      simp at this; omega
    exact ⟨1, by rw [ostlerref10_Parse.l0, if_neg (by omega), runM]⟩
  | m :: r, j, u, p, hd, hj, hm => by
    obtain ⟨h1, h2⟩ := drop_lt L j m r hd
    have hms := hm m (List.mem_cons_self ..)
    obtain ⟨k, hk⟩ := ref_l0 L hL r (j + 1) (stepM (memT m) u p).1 (stepM (memT m) u p).2 h2 h1 (fun x hx => hm x (List.mem_cons_of_mem _ hx))
    have hk2 := from_le (g := fun k => ostlerref10_Parse.l0 k L ((j + 1 : Nat) : Int) (stepM (memT m) u p).1 (stepM (memT m) u p).2) (fun k => (ostlerref10_Parse.mono_l k).1 _ _ _ _) hk (k' := k + (2 * m.size + 10)) (by omega)
    rw [← w1 (by omega)] at hk2
    have h3 := ref_l1 L (j : Int) m hms u p (k + (2 * m.size + 10)) _ (by omega) hk2 m.data.toList [] rfl (by simp) (k + (2 * m.size + 10) + m.data.toList.length + 4) (Nat.le_refl _)
    refine ⟨k + (2 * m.size + 10) + m.data.toList.length + 4 + 1, ?_⟩
    rw [ostlerref10_Parse.l0, if_pos (by omega), if_pos (by omega), rdOf_at L j m r hd, runM]
    exact h3
theorem PrioParses (s : ByteArray) (hs0 : s.data.size ≤ 1048576) : ∃ k, ostlerlaw10_PrioParses.f k s = some true := by
  have hs : s.size ≤ 16777216 := by show s.data.size ≤ 16777216; omega
  have hl := G_length s s.data.toList false 0 0 []
  rw [sz] at hl
  simp only [List.length_nil] at hl
  have hall := G_all s (fun m => m.size ≤ 16777216) (fun a i h => by
    have h1 := trimS_length (seg s a i)
    have h2 := seg_length s a i
    rw [← sz]; show (Lib.trimS (seg s a i) [32, 9]).length ≤ _; omega) s.data.toList false 0 0 [] (fun _ h => by cases h)
  generalize hG : G s s.data.toList false 0 0 [] = L at hl hall
  obtain ⟨k, hk⟩ := ref_l0 L (by omega) L 0 3 false rfl (Nat.zero_le _) hall
  have hp := prio_l0 L (by omega) L 0 (2 * L.length + 1) 3 false rfl (Nat.zero_le _) hall (by omega)
  refine ⟨k + (2 * L.length + 1) + (5 * s.size + 100), ?_⟩
  have hk2 := from_le (g := fun k => ostlerref10_Parse.l0 k L ((0 : Nat) : Int) 3 false) (fun k => (ostlerref10_Parse.mono_l k).1 _ _ _ _) hk (k' := k + (2 * L.length + 1) + (5 * s.size + 100)) (by omega)
  have hp2 := from_le (g := fun k => prio_Parse.l0 k L (L.length : Int) ((0 : Nat) : Int) 3 false) (fun k => (prio_Parse.mono_l k).1 _ _ _ _ _) hp (k' := k + (2 * L.length + 1) + (5 * s.size + 100)) (by omega)
  unfold ostlerlaw10_PrioParses.f ostlerlaw10_awake.f prio_Parse.f ostlerref10_Parse.f
  rw [Option.bind_some, if_pos rfl, text_List_is s hs (by omega), ref_List_is s hs (by omega), hG, Option.bind_some, Option.bind_some]
  have e1 : prio_Parse.l0 (k + (2 * L.length + 1) + (5 * s.size + 100)) L (L.length : Int) 0 3 false = some (runM L 3 false) := hp2
  have e2 : ostlerref10_Parse.l0 (k + (2 * L.length + 1) + (5 * s.size + 100)) L 0 3 false = some (runM L 3 false) := hk2
  rw [e1, e2, Option.bind_some, Option.bind_some]
  simp
end Go.Proofs.YtbndichleiameaaDoor.Q
