/- The plain law of TextMembers, for a text of at most 1048576 bytes: the members hold what stands between the commas and the blanks, and no more. -/
import Derived.Test.YtbmedennhjenhaaDoorQTextKeeps
import Derived.Test.YtbmedennhjenhaaDoorQLists
import Derived.Test.YtbmedennhjenhaaDoorPPx26
namespace Go.Proofs.YtbmedennhjenhaaDoor.Q
set_option linter.unusedVariables false
set_option linter.unusedSimpArgs false
open Go.RowKit Go.Proofs.YtbmedennhjenhaaDoorW.PrintWords Go.Proofs.YtbmedennhjenhaaDoorW.PrintLast Go.Proofs.YtbmedennhjenhaaDoorW.PrintMore
open PP

/-- Neither a comma nor a blank. -/
def keepB (c : UInt8) : Bool := !(c == 44) && !(c == 32) && !(c == 9)
def nums (l : List UInt8) : List Int := (l.filter keepB).map fun c => (c.toNat : Int)
theorem nums_append (l m : List UInt8) : nums (l ++ m) = nums l ++ nums m := by unfold nums; rw [List.filter_append, List.map_append]
theorem nums_cons_skip {c : UInt8} {l : List UInt8} (h : keepB c = false) : nums (c :: l) = nums l := by unfold nums; rw [List.filter_cons_of_neg (by simp [h])]
theorem nums_cons_keep {c : UInt8} {l : List UInt8} (h : keepB c = true) : nums (c :: l) = (c.toNat : Int) :: nums l := by unfold nums; rw [List.filter_cons_of_pos h, List.map_cons]
theorem nums_length (l : List UInt8) : (nums l).length ≤ l.length := by unfold nums; rw [List.length_map]; exact List.length_filter_le _ _
theorem blank_skip : ∀ c : UInt8, blankB c = true → keepB c = false := all8 (by decide +kernel)
theorem nums_dropWhile : ∀ l : List UInt8, nums (l.dropWhile blankB) = nums l
  | [] => rfl
  | c :: t => by
    cases h : blankB c with
    | true => rw [List.dropWhile_cons_of_pos h, nums_dropWhile t, nums_cons_skip (blank_skip c h)]
    | false => rw [List.dropWhile_cons_of_neg (by simp [h])]
theorem nums_reverse (l : List UInt8) : nums l.reverse = (nums l).reverse := by unfold nums; rw [List.filter_reverse, List.map_reverse]
theorem nums_trimS (l : List UInt8) : nums (Lib.trimS l [32, 9]) = nums l := by
  rw [trimS_blank, nums_dropWhile, nums_reverse, nums_dropWhile, nums_reverse, List.reverse_reverse]
def numsAll : List ByteArray → List Int
  | [] => []
  | m :: r => nums m.data.toList ++ numsAll r
theorem numsAll_append : ∀ a b : List ByteArray, numsAll (a ++ b) = numsAll a ++ numsAll b
  | [], _ => rfl
  | m :: r, b => by rw [List.cons_append, numsAll, numsAll_append r b, numsAll, List.append_assoc]
theorem numsAll_addM (s : ByteArray) (a i : Nat) (out : List ByteArray) : numsAll (addM s a i out) = numsAll out ++ nums (seg s a i) := by
  unfold addM
  rw [← nums_trimS (seg s a i)]
  split
  · rename_i h; rw [h]; simp [nums]
  · rw [numsAll_append, numsAll, numsAll, List.append_nil]
theorem seg_self (s : ByteArray) (i : Nat) : seg s i i = [] := by unfold seg; rw [Nat.sub_self]; rfl
theorem seg_succ {s : ByteArray} {a i : Nat} {c : UInt8} {t : List UInt8} (h : s.data.toList.drop i = c :: t) (ha : a ≤ i) : seg s a (i + 1) = seg s a i ++ [c] := by
  unfold seg
  have e : i + 1 - a = (i - a) + 1 := by omega
  have e2 : (s.data.toList.drop a)[i - a]? = some c := by
    rw [List.getElem?_drop, Nat.add_sub_cancel' ha]
    have e3 := congrArg (·[0]?) h
    simpa using e3
  rw [e, List.take_add_one, e2]; rfl
theorem numsAll_G (s : ByteArray) : ∀ (n : Nat) (l : List UInt8) (q : Bool) (i a : Nat) (out : List ByteArray), l.length ≤ n → s.data.toList.drop i = l → a ≤ i → numsAll (G s l q i a out) = numsAll out ++ nums (seg s a i) ++ nums l
  | n, [], q, i, a, out, hn, hd, ha => by rw [G_nil, numsAll_addM]; simp [nums]
  | 0, c :: t, q, i, a, out, hn, hd, ha => by simp at hn
  | n + 1, c :: t, q, i, a, out, hn, hd, ha => by
    simp only [List.length_cons] at hn
    obtain ⟨h1, _, h3⟩ := dc hd
    have hs := seg_succ hd ha
    have step : ∀ q, numsAll (G s t q (i + 1) a out) = numsAll out ++ nums (seg s a i) ++ nums (c :: t) := by
      intro q
      rw [numsAll_G s n t q (i + 1) a out (by omega) h3 (by omega), hs, nums_append, List.append_assoc, List.append_assoc, List.append_assoc]
      congr 2
      rw [← nums_append]; rfl
    by_cases hc : c = 44 ∧ q = false
    · obtain ⟨rfl, rfl⟩ := hc
      rw [G_comma, numsAll_G s n t false (i + 1) (i + 1) _ (by omega) h3 (Nat.le_refl _), numsAll_addM, seg_self, nums_cons_skip (by decide)]
      simp [nums]
    · by_cases hb : c = 92 ∧ q = true
      · obtain ⟨rfl, rfl⟩ := hb
        match t, h3, hn, step with
        | [], h3, hn, step =>
          have := step true
          rw [G_nil] at this
          rw [G_slash_last, this]
        | d :: t, h3, hn, step =>
          simp only [List.length_cons] at hn
          obtain ⟨g1, _, g3⟩ := dc h3
          have hs2 := seg_succ (a := a) h3 (by omega)
          rw [G_slash, numsAll_G s n t true (i + 1 + 1) a out (by omega) g3 (by omega), hs2, hs, nums_append, nums_append]
          simp only [List.append_assoc]
          congr 2
          rw [← nums_append, ← nums_append]; rfl
      · by_cases hq : c = 34
        · subst hq; rw [G_quote, step]
        · rw [G_other s c t q i a out hc hb hq, step]
/-- What holds of each piece that is added holds of each member. -/
theorem G_all (s : ByteArray) (P : ByteArray → Prop) (hP : ∀ a i, Lib.trimS (seg s a i) [32, 9] ≠ [] → P ⟨(Lib.trimS (seg s a i) [32, 9]).toArray⟩) : ∀ (l : List UInt8) (q : Bool) (i a : Nat) (out : List ByteArray), (∀ m ∈ out, P m) → ∀ m ∈ G s l q i a out, P m := by
  have hM : ∀ (a i : Nat) (out : List ByteArray), (∀ m ∈ out, P m) → ∀ m ∈ addM s a i out, P m := by
    intro a i out h m hm
    unfold addM at hm
    split at hm
    · exact h m hm
    · rename_i hne
      rcases List.mem_append.1 hm with hm | hm
      · exact h m hm
      · rw [List.mem_singleton.1 hm]; exact hP a i hne
  intro l
  suffices all : ∀ (n : Nat) (l : List UInt8), l.length ≤ n → ∀ (q : Bool) (i a : Nat) (out : List ByteArray), (∀ m ∈ out, P m) → ∀ m ∈ G s l q i a out, P m from all l.length l (Nat.le_refl _)
  intro n
  induction n with
  | zero =>
    intro l hl q i a out h
    rw [List.length_eq_zero_iff.1 (by omega : l.length = 0), G_nil]
    exact hM a i out h
  | succ n ih =>
    intro l hl q i a out h
    match l, hl with
    | [], _ => rw [G_nil]; exact hM a i out h
    | [c], _ =>
      unfold G
      split
      · exact hM _ _ _ (hM _ _ _ h)
      · exact hM _ _ _ h
    | c :: d :: t, hl =>
      simp only [List.length_cons] at hl
      unfold G
      split
      · exact ih _ (by simp; omega) _ _ _ _ (hM _ _ _ h)
      · split
        · exact ih _ (by omega) _ _ _ _ h
        · split
          · exact ih _ (by simp; omega) _ _ _ _ h
          · exact ih _ (by simp; omega) _ _ _ _ h
theorem mem_trimS {l : List UInt8} {c : UInt8} (h : c ∈ Lib.trimS l [32, 9]) : c ∈ l := by
  rw [trimS_blank] at h
  have h1 := (List.dropWhile_sublist (p := blankB) (l := (l.reverse.dropWhile blankB).reverse)).mem h
  rw [List.mem_reverse] at h1
  have h2 := (List.dropWhile_sublist (p := blankB) (l := l.reverse)).mem h1
  rwa [List.mem_reverse] at h2
/-- Where no quote stands, no member holds a comma. -/
theorem G_nocomma (s : ByteArray) : ∀ (n : Nat) (l : List UInt8) (i a : Nat) (out : List ByteArray), l.length ≤ n → s.data.toList.drop i = l → a ≤ i → (∀ c ∈ l, c ≠ 34) → (∀ c ∈ seg s a i, c ≠ 44) → (∀ m ∈ out, ∀ c ∈ m.data.toList, c ≠ 44) →
    ∀ m ∈ G s l false i a out, ∀ c ∈ m.data.toList, c ≠ 44
  | n, l, i, a, out, hln, hd, ha, hl, hseg, ho => by
    have hM : ∀ m ∈ addM s a i out, ∀ c ∈ m.data.toList, c ≠ 44 := by
      intro m hm
      unfold addM at hm
      split at hm
      · exact ho m hm
      · rcases List.mem_append.1 hm with hm | hm
        · exact ho m hm
        · rw [List.mem_singleton.1 hm]
          intro c hc
          exact hseg c (mem_trimS hc)
    match n, l, hln, hd, hl with
    | _, [], _, hd, hl => rw [G_nil]; exact hM
    | 0, c :: t, hln, hd, hl => simp at hln
    | n + 1, c :: t, hln, hd, hl =>
      simp only [List.length_cons] at hln
      obtain ⟨h1, _, h3⟩ := dc hd
      have hl2 : ∀ c ∈ t, c ≠ 34 := fun x hx => hl x (List.mem_cons_of_mem _ hx)
      by_cases hc : c = 44
      · subst hc
        rw [G_comma]
        exact G_nocomma s n t (i + 1) (i + 1) _ (by omega) h3 (Nat.le_refl _) hl2 (by rw [seg_self]; intro c hc; cases hc) hM
      · rw [G_other s c t false i a out (by simp [hc]) (by simp) (hl c (by simp))]
        refine G_nocomma s n t (i + 1) a out (by omega) h3 (by omega) hl2 ?_ ho
        rw [seg_succ hd ha]
        intro x hx
        rcases List.mem_append.1 hx with hx | hx
        · exact hseg x hx
        · rw [List.mem_singleton.1 hx]; exact hc

theorem c44 {c : UInt8} : ((c.toNat : Int) = 44) ↔ c = 44 := ⟨fun h => UInt8.toNat_inj.1 (by show c.toNat = 44; omega), fun h => by rw [h]; rfl⟩
theorem c32 {c : UInt8} : ((c.toNat : Int) = 32) ↔ c = 32 := ⟨fun h => UInt8.toNat_inj.1 (by show c.toNat = 32; omega), fun h => by rw [h]; rfl⟩
theorem c9 {c : UInt8} : ((c.toNat : Int) = 9) ↔ c = 9 := ⟨fun h => UInt8.toNat_inj.1 (by show c.toNat = 9; omega), fun h => by rw [h]; rfl⟩
theorem c34 : ∀ c : UInt8, ((c.toNat : Int) == 34) = (c == 34) := all8 (by decide +kernel)
/-- One byte, kept or left out. -/
theorem keep_ite {α : Type} {c : UInt8} {x y : α} : (if (c.toNat : Int) = 44 then x else (if (c.toNat : Int) = 32 then x else (if (c.toNat : Int) = 9 then x else y))) = if keepB c = true then y else x := by
  unfold keepB
  by_cases h1 : c = 44
  · rw [if_pos (c44.2 h1)]; simp [h1]
  · rw [if_neg (fun h => h1 (c44.1 h))]
    by_cases h2 : c = 32
    · rw [if_pos (c32.2 h2)]; simp [h2]
    · rw [if_neg (fun h => h2 (c32.1 h))]
      by_cases h3 : c = 9
      · rw [if_pos (c9.2 h3)]; simp [h3]
      · rw [if_neg (fun h => h3 (c9.1 h))]; simp [h1, h2, h3]
theorem members_l0 (s : ByteArray) (hs : s.size ≤ 16777216) (M : List ByteArray) : ∀ (l : List UInt8) (x4 : Bool) (x5 : List Int) (i k : Nat), s.data.toList.drop i = l → i ≤ s.size → x5.length + l.length ≤ 33554432 →
    ostlerlaw01_TextMembers.l0 (k + (l.length + 1)) s M x4 x5 (i : Int) = ostlerlaw01_TextMembers.l1 k M (x4 || l.any (· == 34)) (x5 ++ nums l) [] 0
  | [], x4, x5, i, k, hd, hi, hx => by
    have hn := dn hd hi
    have q1 : ¬ ((i : Int) < (s.size : Int)) := by omega
    show ostlerlaw01_TextMembers.l0 (k + 1) s M x4 x5 (i : Int) = _
    rw [ostlerlaw01_TextMembers.l0, if_neg q1]
    simp [nums]
  | c :: t, x4, x5, i, k, hd, hi, hx => by
    simp only [List.length_cons] at hx
    obtain ⟨h1, h2, h3⟩ := dc hd
    have q1 : (i : Int) < (s.size : Int) := by omega
    have q2 : (0 : Int) ≤ (i : Int) := by omega
    have q3 : x5.length < 140737488355328 := by omega
    have hi4 : i < 4611686018427387904 := by omega
    have ih1 : ∀ x4, ostlerlaw01_TextMembers.l0 (k + (t.length + 1)) s M x4 (x5 ++ [(c.toNat : Int)]) ((i + 1 : Nat) : Int) = _ := fun x4 => members_l0 s hs M t x4 (x5 ++ [(c.toNat : Int)]) (i + 1) k h3 (by omega) (by rw [List.length_append, List.length_singleton]; omega)
    have ih2 : ∀ x4, ostlerlaw01_TextMembers.l0 (k + (t.length + 1)) s M x4 x5 ((i + 1 : Nat) : Int) = _ := fun x4 => members_l0 s hs M t x4 x5 (i + 1) k h3 (by omega) (by omega)
    show ostlerlaw01_TextMembers.l0 (k + (t.length + 1) + 1) s M x4 x5 (i : Int) = _
    rw [ostlerlaw01_TextMembers.l0, if_pos q1, if_pos q2, if_pos q2, h2, w1 hi4, if_pos q3, if_pos q3, keep_ite, keep_ite, ih1, ih1, ih2, ih2, List.any_cons, c34]
    cases hk : keepB c with
    | true =>
      rw [nums_cons_keep hk, List.append_assoc, List.singleton_append]
      cases x4 <;> simp
    | false =>
      rw [nums_cons_skip hk]
      cases x4 <;> simp
theorem rdOf_at {M : List ByteArray} {j : Nat} {m : ByteArray} {r : List ByteArray} (h : M.drop j = m :: r) : j < M.length ∧ rdOf ByteArray.empty M (j : Int) = m ∧ M.drop (j + 1) = r := by
  have hl : j < M.length := by
    rcases Nat.lt_or_ge j M.length with h1 | h1
    · exact h1
    · rw [List.drop_eq_nil_of_le h1] at h; cases h
  rw [List.drop_eq_getElem_cons hl] at h
  injection h with h1 h2
  refine ⟨hl, ?_, h2⟩
  unfold rdOf
  rw [Int.toNat_natCast, List.getD, List.getElem?_eq_getElem hl, h1]; rfl
theorem members_l2 (M : List ByteArray) (hM : M.length ≤ 67108864) (x4 : Bool) (x5 : List Int) (j : Nat) (m : ByteArray) (r : List ByteArray) (hj : M.drop j = m :: r) (hm : m.size ≤ 16777216) (hc : x4 = true ∨ ∀ c ∈ m.data.toList, c ≠ 44) :
    ∀ (t : List UInt8) (x7 : List Int) (y k : Nat), m.data.toList.drop y = t → y ≤ m.size → x7.length + t.length ≤ 140737488355327 →
      ostlerlaw01_TextMembers.l2 (k + (2 * t.length + 1)) M x4 x5 x7 (j : Int) (y : Int) = ostlerlaw01_TextMembers.l1 k M x4 x5 (x7 ++ nums t) ((j + 1 : Nat) : Int)
  | [], x7, y, k, hd, hy, hx => by
    obtain ⟨g1, g2, g3⟩ := rdOf_at hj
    have hn := dn hd hy
    have q1 : (0 : Int) ≤ (j : Int) := by omega
    have q2 : (j : Int) < (M.length : Int) := by omega
    have q3 : ¬ ((y : Int) < (m.size : Int)) := by omega
    have hj4 : j < 4611686018427387904 := by omega
    show ostlerlaw01_TextMembers.l2 (k + 1) M x4 x5 x7 (j : Int) (y : Int) = _
    rw [ostlerlaw01_TextMembers.l2, if_pos q1, if_pos q2, g2, if_neg q3, w1 hj4]
    simp [nums]
  | c :: t, x7, y, k, hd, hy, hx => by
    simp only [List.length_cons] at hx
    obtain ⟨g1, g2, g3⟩ := rdOf_at hj
    obtain ⟨h1, h2, h3⟩ := dc hd
    have q1 : (0 : Int) ≤ (j : Int) := by omega
    have q2 : (j : Int) < (M.length : Int) := by omega
    have q3 : (y : Int) < (m.size : Int) := by omega
    have q4 : (0 : Int) ≤ (y : Int) := by omega
    have q5 : x7.length < 140737488355328 := by omega
    have hy4 : y < 4611686018427387904 := by omega
    have ih1 := members_l2 M hM x4 x5 j m r hj hm hc t (x7 ++ [(c.toNat : Int)]) (y + 1) k h3 (by omega) (by rw [List.length_append, List.length_singleton]; omega)
    have ih2 := members_l2 M hM x4 x5 j m r hj hm hc t x7 (y + 1) k h3 (by omega) (by omega)
    have hj4 : ostlerlaw01_TextMembers.j4 (k + (2 * t.length + 1) + 1) M x4 x5 x7 (j : Int) (y : Int) false = ostlerlaw01_TextMembers.l1 k M x4 x5 (x7 ++ nums (c :: t)) ((j + 1 : Nat) : Int) := by
      rw [ostlerlaw01_TextMembers.j4, if_neg (by decide), if_pos q1, if_pos q2, if_pos q4, g2, if_pos q3, h2, w1 hy4, if_pos q5, keep_ite, ih1, ih2]
      cases hk : keepB c with
      | true => rw [nums_cons_keep hk, List.append_assoc, List.singleton_append]; rfl
      | false => rw [nums_cons_skip hk]; rfl
    show ostlerlaw01_TextMembers.l2 (k + (2 * t.length + 1) + 1 + 1) M x4 x5 x7 (j : Int) (y : Int) = _
    rw [ostlerlaw01_TextMembers.l2, if_pos q1, if_pos q2, g2, if_pos q3, if_pos q4, h2]
    rcases hc with rfl | hc
    · rw [if_pos rfl, hj4]
    · have hcc : c ≠ 44 := hc c (List.mem_of_mem_drop (i := y) (by rw [hd]; simp))
      have hb : ((c.toNat : Int) == 44) = false := beq_eq_false_iff_ne.2 (fun h => hcc (c44.1 h))
      rw [hb, hj4]
      cases x4 <;> rfl
def fuelM : List ByteArray → Nat
  | [] => 0
  | m :: r => 2 * m.size + 3 + fuelM r
theorem strOfNums_eq {a b : List Int} (h : a = b) : ((strOfNums a).toList == (strOfNums b).toList) = true := by rw [h]; simp
theorem members_l1 (M : List ByteArray) (hM : M.length ≤ 67108864) (x4 : Bool) (x5 : List Int) (hx5 : x5.length ≤ 33554432) :
    ∀ (r : List ByteArray) (x7 : List Int) (j k : Nat), M.drop j = r → (∀ m ∈ r, m.data.toList ≠ [] ∧ Lib.trimS m.data.toList [32, 9] = m.data.toList ∧ m.size ≤ 16777216 ∧ (x4 = true ∨ ∀ c ∈ m.data.toList, c ≠ 44)) → x7 ++ numsAll r = x5 → j ≤ M.length →
      ostlerlaw01_TextMembers.l1 (k + 61 + fuelM r) M x4 x5 x7 (j : Int) = some true
  | [], x7, j, k, hd, hr, hx, hj => by
    have hn : M.length ≤ j := List.drop_eq_nil_iff.1 hd
    have q1 : ¬ ((j : Int) < (M.length : Int)) := by omega
    rw [numsAll, List.append_nil] at hx
    show ostlerlaw01_TextMembers.l1 (k + 60 + 1) M x4 x5 x7 (j : Int) = _
    rw [ostlerlaw01_TextMembers.l1, if_neg q1, Ev_awake01 (by omega), Option.bind_some, if_pos rfl, strOfNums_eq hx.symm]
  | m :: r, x7, j, k, hd, hr, hx, hj => by
    obtain ⟨g1, g2, g3⟩ := rdOf_at hd
    obtain ⟨m1, m2, m3, m4⟩ := hr m (by simp)
    have q1 : (j : Int) < (M.length : Int) := by omega
    have q2 : (0 : Int) ≤ (j : Int) := by omega
    have q3 : ¬ (m.toList = []) := by rw [Lib.toList_data]; exact m1
    rw [numsAll] at hx
    have hlen := congrArg List.length hx
    rw [List.length_append, List.length_append] at hlen
    have ih := members_l1 M hM x4 x5 hx5 r (x7 ++ nums m.data.toList) (j + 1) k g3 (fun x h => hr x (List.mem_cons_of_mem _ h)) (by rw [List.append_assoc]; exact hx) (by omega)
    have hl2 := members_l2 M hM x4 x5 j m r hd m3 m4 m.data.toList x7 0 (k + 61 + fuelM r) rfl (by omega) (by rw [sz]; omega)
    have hT : (⟨(Lib.trimS m.data.toList [32, 9]).toArray⟩ : ByteArray) = m := ba_ext (by show Lib.trimS m.data.toList [32, 9] = m.data.toList; exact m2)
    have ef : k + 61 + fuelM (m :: r) = (k + 61 + fuelM r + (2 * m.data.toList.length + 1)) + 1 + 1 := by rw [fuelM, sz]; omega
    rw [ef, ostlerlaw01_TextMembers.l1, if_pos q1, if_pos q2, g2, if_neg q3, text_Trim_is m (by omega), hT, Option.bind_some, bne_self_eq_false, ostlerlaw01_TextMembers.j2, if_neg (by decide)]
    rw [show ((0 : Nat) : Int) = 0 from rfl] at hl2
    rw [hl2, ih]
theorem seg_length (s : ByteArray) (a i : Nat) : (seg s a i).length ≤ s.size := by
  unfold seg; rw [List.length_take, List.length_drop, sz]; omega
theorem TextMembers (s : ByteArray) (hs0 : s.data.size ≤ 1048576) : ∃ k, ostlerlaw01_TextMembers.f k s = some true := by
  have hs : s.size ≤ 16777216 := by show s.data.size ≤ 16777216; omega
  have hl := G_length s s.data.toList false 0 0 []
  rw [sz] at hl
  simp only [List.length_nil] at hl
  have hn := numsAll_G s s.data.toList.length s.data.toList false 0 0 [] (Nat.le_refl _) rfl (Nat.le_refl _)
  rw [seg_self] at hn
  have hn2 : numsAll (G s s.data.toList false 0 0 []) = nums s.data.toList := by rw [hn]; simp [numsAll, nums]
  have hnl := nums_length s.data.toList
  rw [sz] at hnl
  have hall := G_all s (fun m => m.data.toList ≠ [] ∧ Lib.trimS m.data.toList [32, 9] = m.data.toList ∧ m.size ≤ 16777216) (fun a i h => ⟨h, trimS_twice _, by
    have h1 := trimS_length (seg s a i)
    have h2 := seg_length s a i
    rw [← sz]; show (Lib.trimS (seg s a i) [32, 9]).length ≤ _; omega⟩) s.data.toList false 0 0 [] (fun _ h => by cases h)
  refine ⟨(2 * s.size + 3) + 61 + fuelM (G s s.data.toList false 0 0 []) + (s.data.toList.length + 1), ?_⟩
  unfold ostlerlaw01_TextMembers.f
  rw [text_List_is s hs (by omega), Option.bind_some]
  have h0 := members_l0 s hs (G s s.data.toList false 0 0 []) s.data.toList false [] 0 ((2 * s.size + 3) + 61 + fuelM (G s s.data.toList false 0 0 [])) rfl (by omega) (by rw [sz]; simp; omega)
  rw [show ((0 : Nat) : Int) = 0 from rfl] at h0
  rw [h0, List.nil_append]
  refine members_l1 _ (by omega) _ _ (by omega) _ [] 0 (2 * s.size + 3) rfl (fun m hm => ?_) (by rw [List.nil_append]; exact hn2) (by omega)
  obtain ⟨a1, a2, a3⟩ := hall m hm
  refine ⟨a1, a2, a3, ?_⟩
  cases hq : s.data.toList.any (· == 34) with
  | true => left; rfl
  | false =>
    right
    have hno : ∀ c ∈ s.data.toList, c ≠ 34 := by
      intro c hc e
      rw [List.any_eq_false] at hq
      exact hq c hc (by rw [e]; rfl)
    exact G_nocomma s s.data.toList.length s.data.toList 0 0 [] (Nat.le_refl _) rfl (Nat.le_refl _) hno (by rw [seg_self]; intro c hc; cases hc) (fun _ h => by cases h) m hm
end Go.Proofs.YtbmedennhjenhaaDoor.Q
