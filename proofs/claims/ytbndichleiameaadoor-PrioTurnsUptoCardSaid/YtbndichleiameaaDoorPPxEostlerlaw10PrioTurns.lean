-- Written by a program of this session (a changed copy of the kit's print) out of the translation. Not trusted: Lean checks it.
import Derived.Test.YtbndichleiameaaDoorPPx0
import Derived.Test.YtbndichleiameaaDoorPPx8
import Derived.Test.YtbndichleiameaaDoorPPxEostlerlaw10awake
import Derived.Test.YtbndichleiameaaDoorPPxEprioNew
import Derived.Test.YtbndichleiameaaDoorPPxEprioLineSet
import Derived.Test.YtbndichleiameaaDoorPPxEprioLineSet
import Derived.Laws.AppendOwn
namespace Go.Proofs.YtbndichleiameaaDoor.PP
open Go.RowKit Go.Proofs.YtbndichleiameaaDoorW.PrintWords Go.Proofs.YtbndichleiameaaDoorW.PrintLast Go.Proofs.YtbndichleiameaaDoorW.PrintMore
attribute [local go_sem] max2_int min2_int max_two min_two max_three min_three max_four min_four   -- for this text's walks alone
set_option linter.unusedVariables false
set_option linter.unusedSimpArgs false

/-! ### ostlerlaw10_PrioTurns: function 5 (an extern) -/
/-! #### PrioTurns: the plain law -/
def rankI (l : List Int) (x : Int) : Nat := l.countP fun y => decide (y < x)
def rankL (l : List Int) (x : Int) : Nat := l.countP fun y => decide (y ≤ x)
theorem rankL_none (x : Int) : ∀ l : List Int, x ∉ l → rankL l x = rankI l x
  | [], _ => rfl
  | a :: l, h => by
    simp only [List.mem_cons, not_or] at h
    have ih := rankL_none x l h.2
    unfold rankL rankI at ih ⊢
    rw [List.countP_cons, List.countP_cons, ih]
    have : decide (a ≤ x) = decide (a < x) := by
      rw [decide_eq_decide]; have := h.1; omega
    rw [this]
theorem rankL_one (x : Int) : ∀ l : List Int, l.Nodup → x ∈ l → rankL l x = rankI l x + 1
  | a :: l, hn, h => by
    rw [List.nodup_cons] at hn
    unfold rankL rankI
    rw [List.countP_cons, List.countP_cons]
    rcases List.mem_cons.1 h with rfl | h
    · have := rankL_none x l hn.1
      unfold rankL rankI at this
      rw [this]
      have e1 : decide (x ≤ x) = true := by simp
      have e2 : decide (x < x) = false := by simp
      rw [e1, e2]; simp
    · have ih := rankL_one x l hn.2 h
      unfold rankL rankI at ih
      rw [ih]
      have hne : a ≠ x := fun e => hn.1 (e ▸ h)
      have : decide (a ≤ x) = decide (a < x) := by rw [decide_eq_decide]; omega
      rw [this]; omega
theorem rank_lt {l : List Int} (hn : l.Nodup) {a b : Int} (ha : a ∈ l) (hab : a < b) : rankI l a < rankI l b := by
  have h1 := rankL_one a l hn ha
  have h2 : rankL l a ≤ rankI l b := List.countP_mono_left (fun x _ h => by simp only [decide_eq_true_eq] at h ⊢; omega)
  omega
theorem rank_inj {l : List Int} (hn : l.Nodup) {a b : Int} (ha : a ∈ l) (hb : b ∈ l) (h : rankI l a = rankI l b) : a = b := by
  rcases Int.lt_trichotomy a b with h1 | h1 | h1
  · have := rank_lt hn ha h1; omega
  · exact h1
  · have := rank_lt hn hb h1; omega
theorem rank_small {l : List Int} (hn : l.Nodup) {a : Int} (ha : a ∈ l) : rankI l a < l.length := by
  have h1 := rankL_one a l hn ha
  have h2 : rankL l a ≤ l.length := List.countP_le_length
  omega
/-- a stands at b or ahead of it, in the row that begins behind the last one. -/
def beforeI (was : Bool) (last a b : Int) : Prop := if was = true then (if last < a then (last < b → a ≤ b) else ¬ last < b ∧ a ≤ b) else a ≤ b
theorem before_trans {was : Bool} {last a b c : Int} (h1 : beforeI was last a b) (h2 : beforeI was last b c) : beforeI was last a c := by
  unfold beforeI at *
  repeat' split at h1
  all_goals repeat' split at h2
  all_goals repeat' split
  all_goals first | omega | (intros; omega) | simp_all
theorem before_refl (was : Bool) (last a : Int) : beforeI was last a a := by
  unfold beforeI
  repeat' split
  all_goals first | omega | (intros; omega) | simp_all
structure RelT (D : DataW Unit) (u : Int) (own : List Int) : Prop where
  has : ∀ x, (Lit.int .i64 x).wf = true → (hAt D x = true ↔ x ∈ own)
  pri : ∀ x, x ∈ own → pAt D x = (u, true)
  size : Maps.size D = own.length
  nodup : own.Nodup
  wf : ∀ x ∈ own, (Lit.int .i64 x).wf = true
theorem RelT_nil (u : Int) : RelT (.map []) u [] := ⟨fun x _ => ⟨fun h => by simp [hAt, Maps.has] at h, fun h => by cases h⟩, fun x h => by (cases h), rfl, List.nodup_nil, fun x h => by (cases h)⟩
theorem RelT_put {D : DataW Unit} {u : Int} {own : List Int} (h : RelT D u own) (hm : Maps.Tidy D) (a : Int) (ha : (Lit.int .i64 a).wf = true) : RelT (D.put (.int .i64 a) (priD u true)) u (if (own.any fun y => y == a) = true then own else own ++ [a]) := by
  have hany : (own.any fun y => y == a) = true ↔ a ∈ own := by
    rw [List.any_eq_true]
    exact ⟨fun ⟨y, hy, e⟩ => by rw [beq_iff_eq] at e; rw [← e]; exact hy, fun hy => ⟨a, hy, beq_self_eq_true a⟩⟩
  have hmem : ∀ x, x ∈ (if (own.any fun y => y == a) = true then own else own ++ [a]) ↔ x = a ∨ x ∈ own := by
    intro x
    split
    · rename_i g; exact ⟨.inr, fun h => h.elim (fun e => e ▸ hany.1 g) id⟩
    · rw [List.mem_append, List.mem_singleton]; exact Or.comm
  have hhas : ∀ x, hAt (D.put (.int .i64 a) (priD u true)) x = true ↔ x = a ∨ hAt D x = true := by
    intro x
    by_cases e : a = x
    · subst e
      exact ⟨fun _ => .inl rfl, fun _ => Maps.has_put_same hm.isMap (by simp [WideAt.IsKeyLit]) _⟩
    · have hne : (Lit.int .i64 x) ≠ Lit.int .i64 a := fun h => e (Lit.int.inj h).2.symm
      have h1 : hAt (D.put (.int .i64 a) (priD u true)) x = hAt D x := Maps.has_put_other hne _
      rw [h1]; exact ⟨.inr, fun h => h.resolve_left (fun e' => e e'.symm)⟩
  refine ⟨fun x hx => ?_, fun x hx => ?_, ?_, ?_, fun x hx => ?_⟩
  · rw [hhas, hmem, h.has x hx]
  · by_cases e : a = x
    · subst e
      unfold pAt; rw [Maps.atKey_put_same hm.isMap (by simp [WideAt.IsKeyLit]) _ _]; rfl
    · have hne : (Lit.int .i64 x) ≠ Lit.int .i64 a := fun h => e (Lit.int.inj h).2.symm
      have h2 : pAt (D.put (.int .i64 a) (priD u true)) x = pAt D x := by unfold pAt; rw [Maps.atKey_put_other hne]
      rw [h2]; exact h.pri x (((hmem x).1 hx).resolve_left (fun e' => e e'.symm))
  · rw [Maps.size_put hm]
    have h3 := h.has a ha
    unfold hAt at h3
    split
    · rename_i g; rw [if_pos (hany.2 (h3.1 g))]; exact h.size
    · rename_i g; rw [if_neg (fun e => g (h3.2 (hany.1 e)))]; rw [List.length_append, h.size]; rfl
  · split
    · exact h.nodup
    · rename_i g
      rw [List.nodup_append]
      exact ⟨h.nodup, by simp, fun x hx y hy e => g (hany.2 (by rw [List.mem_singleton.1 hy] at e; rw [← e]; exact hx))⟩
  · rcases (hmem x).1 hx with rfl | hx
    · exact ha
    · exact h.wf x hx
theorem firstF_turn {D E : DataW Unit} {u : Int} {own : List Int} (h : RelT D u own) {a b : Int} (ha : a ∈ own) (hb : b ∈ own) :
    (firstF D E a b = a ∨ firstF D E a b = b) ∧ beforeI (hAt E u) (lAt E u) (firstF D E a b) a ∧ beforeI (hAt E u) (lAt E u) (firstF D E a b) b := by
  refine ⟨firstF_or D E a b, ?_⟩
  unfold firstF
  rw [h.pri a ha, h.pri b hb]
  simp only [ne_eq, not_true_eq_false, if_false, Bool.true_and]
  generalize hAt E u = was
  generalize lAt E u = last
  cases was with
  | false =>
    unfold beforeI
    simp only [Bool.false_and, Bool.false_eq_true, if_false]
    split <;> constructor <;> omega
  | true =>
    unfold beforeI
    simp only [Bool.true_and, if_true]
    by_cases h1 : last < a <;> by_cases h2 : last < b <;> simp only [h1, h2, decide_true, decide_false] <;> (repeat' split) <;> first | (constructor <;> first | omega | (intros; omega)) | (simp_all; done) | (simp_all; omega) | omega
theorem next_turn {D E : DataW Unit} {u : Int} {own : List Int} (h : RelT D u own) : ∀ (l : List Int) (a : Int), a ∈ own → (∀ y ∈ l, y ∈ own) →
    ∃ c, nextG D E l (some a) = some c ∧ c ∈ own ∧ beforeI (hAt E u) (lAt E u) c a ∧ ∀ y ∈ l, beforeI (hAt E u) (lAt E u) c y
  | [], a, ha, _ => ⟨a, rfl, ha, before_refl _ _ _, fun y hy => by (cases hy)⟩
  | y :: r, a, ha, hl => by
    have hy := hl y (List.mem_cons_self ..)
    obtain ⟨h1, h2, h3⟩ := firstF_turn (E := E) h ha hy
    have hf : firstF D E a y ∈ own := by rcases h1 with e | e <;> rw [e] <;> assumption
    obtain ⟨c, g1, g2, g3, g4⟩ := next_turn h r (firstF D E a y) hf (fun z hz => hl z (List.mem_cons_of_mem _ hz))
    refine ⟨c, ?_, g2, before_trans g3 h2, fun z hz => ?_⟩
    · rw [nextG, if_pos ((h.has y (h.wf y hy)).2 hy)]; exact g1
    · rcases List.mem_cons.1 hz with rfl | hz
      · exact before_trans g3 h3
      · exact g4 z hz
theorem next_own {D E : DataW Unit} {u : Int} {own : List Int} (h : RelT D u own) (h0 : own ≠ []) : ∃ c, nextG D E own none = some c ∧ c ∈ own ∧ ∀ y ∈ own, beforeI (hAt E u) (lAt E u) c y := by
  cases own with
  | nil => exact absurd rfl h0
  | cons a r =>
    have ha : a ∈ a :: r := List.mem_cons_self ..
    obtain ⟨h1, h2, h3⟩ := firstF_turn (E := E) h ha ha
    have hf : firstF D E a a = a := by rcases h1 with e | e <;> exact e
    obtain ⟨c, g1, g2, g3, g4⟩ := next_turn (E := E) h r a ha (fun z hz => List.mem_cons_of_mem _ hz)
    refine ⟨c, ?_, g2, fun z hz => ?_⟩
    · rw [nextG, if_pos ((h.has a (h.wf a ha)).2 ha)]
      show nextG D E r (some (firstF D E a a)) = _
      rw [hf]; exact g1
    · rcases List.mem_cons.1 hz with rfl | hz
      · exact g3
      · exact g4 z hz
/-- Where a round stands: i of them have had their turn. -/
def turnS (E : DataW Unit) (u : Int) (own : List Int) (i : Nat) : Prop :=
  (i = 0 ∧ (hAt E u = false ∨ ∀ y ∈ own, y ≤ lAt E u)) ∨ (0 < i ∧ hAt E u = true ∧ lAt E u ∈ own ∧ rankI own (lAt E u) + 1 = i)
theorem next_rank {D E : DataW Unit} {u : Int} {own : List Int} (h : RelT D u own) {i : Nat} (hi : i < own.length) (hS : turnS E u own i) : ∃ c, nextG D E own none = some c ∧ c ∈ own ∧ rankI own c = i := by
  obtain ⟨c, h1, h2, h3⟩ := next_own (E := E) h (fun e => by rw [e] at hi; simp at hi)
  refine ⟨c, h1, h2, ?_⟩
  rcases hS with ⟨rfl, hS⟩ | ⟨h0, hw, hl, hr⟩
  · have hle : ∀ y ∈ own, c ≤ y := by
      intro y hy
      have hb := h3 y hy
      unfold beforeI at hb
      rcases hS with hS | hS
      · rw [hS] at hb; simpa using hb
      · have := hS y hy; have := hS c h2
        split at hb
        · rw [if_neg (by omega)] at hb; exact hb.2
        · exact hb
    unfold rankI
    rw [List.countP_eq_zero]
    intro y hy
    have := hle y hy
    simp; omega
  · rw [hw] at h3
    unfold beforeI at h3
    simp only [if_true] at h3
    have hex : ∃ y ∈ own, lAt E u < y := by
      apply Classical.byContradiction
      intro hno
      have hall : rankL own (lAt E u) = own.length := by
        unfold rankL
        rw [List.countP_eq_length]
        intro y hy
        have : ¬ lAt E u < y := fun hlt => hno ⟨y, hy, hlt⟩
        simp; omega
      have := rankL_one (lAt E u) own h.nodup hl
      omega
    obtain ⟨y0, hy0, hlt0⟩ := hex
    have hc : lAt E u < c := by
      have hb := h3 y0 hy0
      split at hb
      · assumption
      · exact absurd hlt0 hb.1
    have heq : rankI own c = rankL own (lAt E u) := by
      unfold rankI rankL
      refine List.countP_congr (fun y hy => ?_)
      have hb := h3 y hy
      rw [if_pos hc] at hb
      simp only [decide_eq_true_eq]
      constructor
      · intro hlt
        apply Classical.byContradiction
        intro hno
        have := hb (by omega)
        omega
      · intro hle; omega
    rw [heq, rankL_one _ own h.nodup hl, hr]
theorem turn_end {E : DataW Unit} {u : Int} {own : List Int} (hn : own.Nodup) (hS : turnS E u own own.length) : turnS E u own 0 := by
  rcases hS with ⟨h0, hS⟩ | ⟨h0, hw, hl, hr⟩
  · exact .inl ⟨rfl, hS⟩
  · refine .inl ⟨rfl, .inr (fun y hy => ?_)⟩
    apply Classical.byContradiction
    intro hno
    have h1 := rank_lt hn hl (b := y) (by omega)
    have h2 := rank_small hn hy
    omega
/-- Who goes on, and how the round stands then. -/
theorem turn_next {D E : DataW Unit} {u : Int} {own : List Int} (h : RelT D u own) (hm : Maps.IsMap E) {i : Nat} (hi : i < own.length) (hS : turnS E u own i) :
    nextR D E own ∈ own ∧ rankI own (nextR D E own) = i ∧ turnS (nextE D E own) u own (i + 1) := by
  obtain ⟨c, h1, h2, h3⟩ := next_rank (E := E) h hi hS
  have e1 : nextR D E own = c := by unfold nextR; rw [h1]; rfl
  have e2 : nextE D E own = E.put (.int .i64 u) (.lit (.int .i64 c)) := by
    unfold nextE; rw [h1]; show (if (pAt D c).2 = true then _ else _) = _
    rw [h.pri c h2, if_pos rfl]
  rw [e1, e2]
  have g1 : hAt (E.put (.int .i64 u) (.lit (.int .i64 c))) u = true := Maps.has_put_same hm (by simp [WideAt.IsKeyLit]) _
  have g2 : lAt (E.put (.int .i64 u) (.lit (.int .i64 c))) u = c := by
    unfold lAt; rw [Maps.atKey_put_same hm (by simp [WideAt.IsKeyLit]) _ _]; rfl
  refine ⟨h2, h3, .inr ⟨by omega, g1, by rw [g2]; exact h2, by rw [g2, h3]⟩⟩
def seenF (own : List Int) (i : Nat) : List Int := own.map fun a => if rankI own a < i then 1 else 0
theorem seenF_zero (own : List Int) : seenF own 0 = List.replicate own.length 0 := by
  unfold seenF; rw [List.eq_replicate_iff]
  exact ⟨by simp, fun x hx => by obtain ⟨a, _, rfl⟩ := List.mem_map.1 hx; simp⟩
theorem seenF_len (own : List Int) (i : Nat) : (seenF own i).length = own.length := by unfold seenF; simp
theorem seenF_get (own : List Int) (i k : Nat) (h : k < (seenF own i).length) (hk : k < own.length) : (seenF own i)[k] = if rankI own own[k] < i then 1 else 0 := by
  simp [seenF]
/-- One more has had its turn: seen among the first k already. -/
def seenM (own : List Int) (i k : Nat) : List Int := (seenF own (i + 1)).take k ++ (seenF own i).drop k
theorem seenM_len (own : List Int) (i k : Nat) (hk : k ≤ own.length) : (seenM own i k).length = own.length := by
  unfold seenM; rw [List.length_append, List.length_take, List.length_drop, seenF_len, seenF_len]; omega
theorem seenM_zero (own : List Int) (i : Nat) : seenM own i 0 = seenF own i := by unfold seenM; simp
theorem seenM_end (own : List Int) (i : Nat) : seenM own i own.length = seenF own (i + 1) := by
  unfold seenM
  rw [List.take_of_length_le (by rw [seenF_len]; exact Nat.le_refl _), List.drop_of_length_le (by rw [seenF_len]; exact Nat.le_refl _), List.append_nil]
theorem seenM_step {own : List Int} (hn : own.Nodup) {i k : Nat} (hk : k < own.length) {x : Int} (hx : x ∈ own) (hr : rankI own x = i) :
    (own[k] = x → (rd (seenM own i k) (k : Int) = 0 ∧ seenM own i (k + 1) = (seenM own i k).set k 1)) ∧ (own[k] ≠ x → seenM own i (k + 1) = seenM own i k) := by
  have l1 : k < (seenF own (i + 1)).length := by rw [seenF_len]; exact hk
  have l0 : k < (seenF own i).length := by rw [seenF_len]; exact hk
  have t1 : (seenF own (i + 1)).take (k + 1) = (seenF own (i + 1)).take k ++ [if rankI own own[k] < i + 1 then 1 else 0] := by
    rw [← List.take_append_getElem l1, seenF_get own (i + 1) k l1 hk]
  have t0 : (seenF own i).drop k = (if rankI own own[k] < i then 1 else 0) :: (seenF own i).drop (k + 1) := by
    rw [List.drop_eq_getElem_cons l0, seenF_get own i k l0 hk]
  have lt : ((seenF own (i + 1)).take k).length = k := by rw [List.length_take]; omega
  constructor
  · intro e
    have hrk : rankI own own[k] = i := by rw [e]; exact hr
    rw [hrk, if_pos (by omega)] at t1
    rw [hrk, if_neg (by omega)] at t0
    refine ⟨?_, ?_⟩
    · unfold seenM rd
      rw [t0, Int.toNat_natCast, List.getD_eq_getElem?_getD, List.getElem?_append_right (by omega), lt]; simp
    · unfold seenM
      rw [t1, t0, List.set_append_right _ _ (by omega), lt, Nat.sub_self, List.set_cons_zero, List.append_assoc]; rfl
  · intro e
    have hne : rankI own own[k] ≠ i := fun e' => e (rank_inj hn (List.getElem_mem hk) hx (e'.trans hr.symm))
    unfold seenM
    rw [t1, t0]
    have : (if rankI own own[k] < i + 1 then (1 : Int) else 0) = if rankI own own[k] < i then 1 else 0 := by
      by_cases h1 : rankI own own[k] < i
      · rw [if_pos h1, if_pos (by omega)]
      · rw [if_neg h1, if_neg (by omega)]
    rw [this, List.append_assoc]; rfl
theorem seenF_all {own : List Int} (hn : own.Nodup) (k : Nat) (hk : k < own.length) : rd (seenF own own.length) (k : Int) = 1 := by
  unfold rd
  have : (seenF own own.length)[k]? = some 1 := by
    unfold seenF
    rw [List.getElem?_map, List.getElem?_eq_getElem hk]
    show some (if rankI own own[k] < own.length then (1 : Int) else 0) = _
    rw [if_pos (rank_small hn (List.getElem_mem hk))]
  rw [Int.toNat_natCast, List.getD_eq_getElem?_getD, this]; rfl
/-- Between two turns: the line, how the round stands, the ids. -/
structure T3I (B b m1 m2 : Nat) (u : Int) (D : DataW Unit) (own : List Int) (v : Value) (w : World) (E : DataW Unit) (q i : Nat) (wr : World) : Prop where
  line : LineAt B b m1 m2 q D E wr
  turn : turnS E u own i
  o1 : (Kd.int .i64).R 3 wr B (okI b m1 m2) v own
  below : Below B w wr
def okS (b m1 m2 : Nat) (v : Value) (k : Nat) : Prop := okI b m1 m2 k ∧ some k ≠ v.ownBlock
structure T1I (B b m1 m2 : Nat) (u : Int) (l : List Int) (w : World) (kq i : Nat) (v : Value) (own : List Int) (D : DataW Unit) (wr : World) : Prop where
  len : i + kq = l.length
  line : LineAt B b m1 m2 i D (.map []) wr
  rel : RelT D u own
  o1 : (Kd.int .i64).R 3 wr B (okI b m1 m2) v own
  le : own.length ≤ i
  below : Below B w wr
theorem row_form {w : World} {base : Nat} {ok : Nat → Prop} {v : Value} {xs : List Int} (h : (Kd.int .i64).R 3 w base ok v xs) (h0 : 0 < xs.length) : ∃ g c, v = .slice (some ⟨g, 0, none⟩) xs.length c := by
  rcases (Kd.own_of_R h).2 with ⟨_, h1⟩ | ⟨g, cap, cur, h1, _⟩
  · omega
  · exact ⟨g, cap, h1⟩
set_option maxHeartbeats 8000000 in
set_option maxRecDepth 100000 in
theorem turns_walk (A0 : Option Addr) (c0 : Nat) (l0 : List Int) (u0 rounds : Int) (w : World) (hG : GI w) (hr0 : Kd.C (Kd.int .i64) w A0 l0.length l0) (hw0 : ∀ x ∈ l0, (Lit.int .i64 x).wf = true) :
    Calls Tryd.prog 5 #[.slice A0 l0.length c0, .int .i64 u0, .int .i64 rounds] w fun e w' => e = .returned (.bool true) ∧ Below w.heap.size w w' := by
  have HG := Aside0.mk hG; have HR0 := Aside0.mk hr0; have HW0 := Aside0.mk hw0
  clear hG hr0 hw0
  go_enter Tryd.func5, Tryd.ntmps5
  go_wp2_with fail
  refine (prio_New_calls _).mono ?_
  rintro e w1 ⟨b, m1, m2, rfl, hL, hb⟩
  have HL := Aside0.mk hL; have HB := Aside0.mk hb
  clear hL hb
  by_cases h60 : (60 : Int) < (l0.length : Int)
  · have q1 : decide ((l0.length : Int) > 60) = true := decide_eq_true h60
    have q2 := eq_true h60
    clear h60
    go_wp2_with fail
    refine (ostlerlaw10_awake.calls true _ (HG.out.below HB.out) rfl).mono ?_
    rintro e w2 ⟨rfl, hb⟩
    have HB2 := Aside0.mk (HB.out.trans (hb.mono HB.out.size))
    clear hb
    go_wp2
    go_ret
    exact ⟨rfl, HB2.out⟩
  have q1 : decide ((l0.length : Int) > 60) = false := decide_eq_false h60
  have q2 := eq_false h60
  go_wp2
  clear q1 q2
  go_loopg [8, 9] l0.length (fun kq v8 v9 wr => ∃ (i : Nat) (D : DataW Unit) (own : List Int), v9 = .int .i64 i ∧ T1I w.heap.size b m1 m2 (clampI u0) l0 w kq i v8 own D wr)
  case atStart => exact ⟨0, .map [], [], rfl, ⟨by omega, HL.out, RelT_nil _, Kd.R_nil _ _ _ _ _, Nat.le_refl _, HB.out⟩⟩
  case round =>
    clear HL HB
    obtain ⟨i, D, own, rfl, HI⟩ := hrel
    have hik := HI.len
    have hole := HI.le
    obtain ⟨Ao, co, eo⟩ := Kd.R_slice HI.o1
    subst eo
    by_cases hlt : i < l0.length
    · obtain ⟨k1, rfl⟩ : ∃ k1, gk = k1 + 1 := ⟨gk - 1, by omega⟩
      have p0 : (0 : Int) ≤ (i : Int) := by omega
      have p1 : (i : Int) < (l0.length : Int) := by omega
      obtain ⟨ad, rfl, x0⟩ := Kd.at_int HR0.out (i : Int) p0 p1
      rw [Int.toNat_natCast] at x0
      have hmem : rd l0 (i : Int) ∈ l0 := by
        have : rd l0 (i : Int) = l0[i] := by simp [rd, List.getD, List.getElem?_eq_getElem hlt]
        rw [this]; exact List.getElem_mem hlt
      have hwx := HW0.out _ hmem
      have hq := World.block_lt_of_cell? _ _ x0
      generalize rd l0 (i : Int) = x at x0 hwx
      have y0 := x0
      replace x0 := (HI.below.cell hq).trans x0
      have hC := (Kd.R_reads' HI.o1).2.2
      have HI' := Aside0.mk HI
      have HC := Aside0.mk hC
      clear HI hC hmem
      go_wp2
      go_loopg [10, 11] own.length (fun kq v10 v11 w' => ∃ k : Nat, v11 = .int .i64 k ∧ v10 = .bool ((own.take k).any fun y => y == x) ∧ k + kq = own.length ∧ Drawn0 wr w')
      case atStart => exact ⟨0, rfl, rfl, by omega, by repeat (first | exact Drawn0.refl _ | apply Drawn0.step)⟩
      case round =>
        obtain ⟨k, rfl, rfl, hkk, ⟨m3, rfl⟩⟩ := hrel
        by_cases hk : k < own.length
        · obtain ⟨k2, rfl⟩ : ∃ k2, gk = k2 + 1 := ⟨gk - 1, by omega⟩
          have p2 : (0 : Int) ≤ (k : Int) := by omega
          have p3 : (k : Int) < (own.length : Int) := by omega
          obtain ⟨ad1, rfl, y1⟩ := Kd.at_int HC.out (k : Int) p2 p3
          rw [Int.toNat_natCast] at y1
          have htk : (own.take (k + 1)).any (fun y => y == x) = ((own.take k).any (fun y => y == x) || (rd own (k : Int) == x)) := by
            have : rd own (k : Int) = own[k] := by simp [rd, List.getD, List.getElem?_eq_getElem hk]
            rw [this, ← List.take_append_getElem hk, List.any_append]; simp
          generalize rd own (k : Int) = y at y1 htk
          have HTK := Aside0.mk htk
          clear htk
          generalize (own.take k).any (fun y => y == x) = am at HTK ⊢
          cases am with
          | true =>
            go_wp2
            repeat (go_quiet (fail); try go_wp2)
            go_roundg k2
            case measure => omega
            case rel => exact ⟨k + 1, by go_num, by rw [HTK.out]; rfl, by omega, by repeat (first | exact Drawn0.refl _ | apply Drawn0.step)⟩
          | false =>
            go_wp2
            repeat (go_quiet (fail); try go_wp2)
            go_roundg k2
            case measure => omega
            case rel => exact ⟨k + 1, by go_num, by rw [HTK.out]; rfl, by omega, by repeat (first | exact Drawn0.refl _ | apply Drawn0.step)⟩
        · have hke : k = own.length := by omega
          subst hke
          rw [List.take_length]
          have hrel2 := fun ht => RelT_put HI'.out.rel ht x hwx
          have hi1 : i < maxLen := by unfold maxLen; omega
          have hB1 := pw_below_drewN HI'.out.below m3
          have hL1 := HI'.out.line.below (pw_below_drewN (Below.refl _ _) m3)
          have hO1 := I_keep (w1 := wr.drewN m3) HI'.out.o1 (fun k hk hlt => rfl)
          have hrel3 := hrel2 (HI'.out.line.o1.tidy lk3)
          have hbb := cell_blk hL1.c0
          have hbm1 := hL1.o1.lt
          have hbm2 := hL1.o2.lt
          clear hrel2 HC
          have HL1 := Aside0.mk hL1; have HB1 := Aside0.mk hB1; have HO1 := Aside0.mk hO1; have HREL := Aside0.mk hrel3
          clear hL1 hB1 hO1 hrel3 hk hkk
          by_cases hag : (own.any fun y => y == x) = true
          · rw [hag] at HREL ⊢
            rw [if_pos rfl] at HREL
            go_wp2_with fail
            refine (prio_Set_only HL1.out HB1.out.size hi1 x u0 (clampI u0) true true hwx (clampI_wf u0) (fun W => prio_kept.calls u0 true (clampI u0) true W rfl)).mono ?_
            rintro e w4 ⟨rfl, hL4, hb4, ho4⟩
            have HL4 := Aside0.mk hL4; have HB4 := Aside0.mk (HB1.out.trans hb4)
            have HO4 := Aside0.mk (I_keep HO1.out (fun k hk hlt => ho4 k hlt (HO1.out.1 k hk).2.1))
            clear hL4 hb4 ho4
            go_wp2
            go_roundg k1
            case measure => omega
            case rel => exact ⟨i + 1, _, _, by go_num, ⟨by omega, HL4.out, HREL.out, HO4.out, by omega, HB4.out⟩⟩
          · have hag' := Bool.eq_false_iff.2 hag
            rw [hag'] at HREL ⊢
            rw [if_neg (by decide)] at HREL
            go_wp2_with (at_builtin; refine Kd.R_append (Kd.int .i64) (w0 := w) w.heap.size rfl (.tmp 57) (.tmp 62) 29 3 (.int .i64 0) 8 rfl Tryd.underlying29 info3 rfl (by decide) (by decide) _ _ x [.int .i64 x] (okI b m1 m2) (fun _ => False) rfl rfl rfl (fun _ hk => hk.elim) (fun k hk => ⟨by omega, by omega, by omega⟩) HO1.out HB1.out HB1.out.size (by omega) ?_; intro v8 w3 hO1 hB3 hg3 hat3; have x4 := cell_b (a := ad.add i) hB3 hq y0; have hL3 := HL1.out.grown hg3 (fun e => (HO1.out.1 b e.symm).1 rfl) (fun e => (HO1.out.1 m1 e.symm).2.1 rfl) (fun e => (HO1.out.1 m2 e.symm).2.2 rfl); have HL3 := Aside0.mk hL3; have HO3 := Aside0.mk hO1; have HB3 := Aside0.mk hB3; clear hL3 hO1 hB3 hg3 hat3)
            refine (prio_Set_only HL3.out HB3.out.size hi1 x u0 (clampI u0) true true hwx (clampI_wf u0) (fun W => prio_kept.calls u0 true (clampI u0) true W rfl)).mono ?_
            rintro e w4 ⟨rfl, hL4, hb4, ho4⟩
            have HL4 := Aside0.mk hL4; have HB4 := Aside0.mk (HB3.out.trans hb4)
            have HO4 := Aside0.mk (I_keep HO3.out (fun k hk hlt => ho4 k hlt (HO3.out.1 k hk).2.1))
            clear hL4 hb4 ho4
            go_wp2
            go_roundg k1
            case measure => omega
            case rel => exact ⟨i + 1, _, _, by go_num, ⟨by omega, HL4.out, HREL.out, HO4.out, by rw [List.length_append]; simp; omega, HB4.out⟩⟩
    · have hie : i = l0.length := by omega
      subst hie
      have hl60 : own.length ≤ 60 := by omega
      have hq60 : l0.length ≤ 60 := by omega
      have HO := Aside0.mk HI.o1; have HL := Aside0.mk HI.line; have HREL := Aside0.mk HI.rel; have HB := Aside0.mk HI.below
      clear HI hik hlt hole h60 HR0 HW0
      go_wp2
      go_loopg [12] 3 (fun kq v12 wr' => ∃ (n : Nat) (E : DataW Unit) (q : Nat), v12 = .int .i64 n ∧ n + kq = 3 ∧ q ≤ 60 + 64 * n ∧ T3I w.heap.size b m1 m2 (clampI u0) D own (.slice Ao own.length co) w E q 0 wr')
      case atStart => exact ⟨0, .map [], l0.length, rfl, rfl, by omega, ⟨HL.out, .inl ⟨rfl, .inl rfl⟩, HO.out, HB.out⟩⟩
      case round =>
        clear HL HB HO
        obtain ⟨n, E, q, rfl, hn3, hqn, HT⟩ := hrel
        by_cases hgo : (n : Int) < rounds ∧ n < 3
        · obtain ⟨hr1, hr3⟩ := hgo
          obtain ⟨k1, rfl⟩ : ∃ k1, gk = k1 + 1 := ⟨gk - 1, by omega⟩
          have q1 : decide ((n : Int) < rounds) = true := decide_eq_true hr1
          have q2 := eq_true hr1
          have hr3' : (n : Int) < 3 := by omega
          have q3 : decide ((n : Int) < 3) = true := decide_eq_true hr3'
          have q4 := eq_true hr3'
          have hbb := cell_blk HT.line.c0
          have hbm1 := HT.line.o1.lt
          have hbm2 := HT.line.o2.lt
          have hob := own_lt (Kd.own_of_R HT.o1)
          have hl0 : ((own.length : Int)).toNat * 8 ≤ 281474976710656 := by rw [Int.toNat_natCast]; omega
          have HT' := Aside0.mk HT
          clear HT hr1 hr3 hr3'
          go_wp2_with ((with_reducible refine gate_dst (N := 83) rfl ?_); refine Kd.R_make (Kd.int .i64) (w0 := w) w.heap.size 3 rfl (N := 83) rfl 29 _ _ rfl (own.length : Int) rfl rfl Tryd.underlying29 (.int .i64 0) 8 info3 rfl (by decide) (by decide) 0 (ok := okS b m1 m2 (.slice Ao own.length co)) (okp := fun _ => False) rfl (fun _ hk => hk.elim) ⟨⟨by omega, by omega, by omega⟩, fun e => by have := hob _ e.symm; omega⟩ (by omega) hl0 HT'.out.below HT'.out.below.size ?_; intro v13 w4 ho hb hg hnew; have HT4 := Aside0.mk (T3I.mk (HT'.out.line.grown hg (by simp) (by simp) (by simp)) HT'.out.turn (I_keep HT'.out.o1 (fun k hk hlt => hg.block k hlt (by simp))) hb); have HS4 := Aside0.mk ho; clear ho hb hg hnew)
          clear q1 q2 q3 q4 HT' hbb hbm1 hbm2 hob hl0
          have hs0 := HS4.out
          rw [Int.toNat_natCast, ← seenF_zero] at hs0
          have HS := Aside0.mk hs0
          clear hs0 HS4
          go_loopg [14] own.length (fun kq v14 wr2 => ∃ (i : Nat) (E : DataW Unit) (q : Nat), v14 = .int .i64 i ∧ i + kq = own.length ∧ q ≤ 60 + 64 * n + i ∧ Aside0 (T3I w.heap.size b m1 m2 (clampI u0) D own (.slice Ao own.length co) w E q i wr2) ∧ Aside0 ((Kd.int .i64).R 3 wr2 w.heap.size (okS b m1 m2 (.slice Ao own.length co)) v13 (seenF own i)))
          case atStart => exact ⟨0, E, q, rfl, by omega, by omega, HT4, HS⟩
          case round =>
            clear HT4 HS
            obtain ⟨i, E, q, rfl, hio, hqi, HT, HS⟩ := hrel
            by_cases hi : i < own.length
            · obtain ⟨k2, rfl⟩ : ∃ k2, gk = k2 + 1 := ⟨gk - 1, by omega⟩
              have p0 : (0 : Int) ≤ (i : Int) := by omega
              have p1 : (i : Int) < (own.length : Int) := by omega
              obtain ⟨hid, hrk, htn⟩ := turn_next HREL.out HT.out.line.o2.isMap hi HT.out.turn
              have hN := prio_Next_only HT.out.line HT.out.below.size (by unfold maxLen; omega) Ao co own (Kd.R_reads' HT.out.o1).2.2 HREL.out.wf (by omega)
              generalize nextR D E own = id at hN hid hrk
              generalize nextE D E own = E2 at hN htn
              have HN := Aside0.mk hN; have HTN := Aside0.mk htn
              clear hN htn
              go_wp2_with fail
              refine HN.out.mono ?_
              clear HN
              rintro e w5 ⟨rfl, hL5, hb5, ho5⟩
              have HT5 := Aside0.mk (T3I.mk hL5 HTN.out (I_keep HT.out.o1 (fun k hk hlt => ho5 k hlt (HT.out.o1.1 k hk).2.2)) (HT.out.below.trans hb5))
              have hs5 := I_keep HS.out (fun k hk hlt => ho5 k hlt (HS.out.1 k hk).1.2.2)
              rw [← seenM_zero] at hs5
              have HS5 := Aside0.mk hs5
              clear hs5 hL5 hb5 ho5 HT HS HTN
              go_wp2
              go_loopg [16] own.length (fun kq v16 wr3 => ∃ (k : Nat), v16 = .int .i64 k ∧ k + kq = own.length ∧ Aside0 (T3I w.heap.size b m1 m2 (clampI u0) D own (.slice Ao own.length co) w E2 (q + 1) (i + 1) wr3) ∧ Aside0 ((Kd.int .i64).R 3 wr3 w.heap.size (okS b m1 m2 (.slice Ao own.length co)) v13 (seenM own i k)))
              case atStart => exact ⟨0, rfl, by omega, HT5, HS5⟩
              case round =>
                clear HT5 HS5
                obtain ⟨k, rfl, hko, HT, HS⟩ := hrel
                by_cases hk : k < own.length
                · obtain ⟨k3, rfl⟩ : ∃ k3, gk = k3 + 1 := ⟨gk - 1, by omega⟩
                  have p2 : (0 : Int) ≤ (k : Int) := by omega
                  have p3 : (k : Int) < (own.length : Int) := by omega
                  obtain ⟨hst1, hst2⟩ := seenM_step HREL.out.nodup hk hid hrk
                  have hsl := seenM_len own i k (by omega)
                  obtain ⟨ad1, ead, y0⟩ := Kd.at_int (Kd.R_reads' HT.out.o1).2.2 (k : Int) p2 p3
                  rw [Int.toNat_natCast] at y0
                  have hrd : rd own (k : Int) = own[k] := by simp [rd, List.getD, List.getElem?_eq_getElem hk]
                  rw [hrd] at y0
                  generalize own[k] = y at y0 hst1 hst2
                  clear hrd
                  subst ead
                  by_cases he : y = id
                  · obtain ⟨hz, hset⟩ := hst1 he
                    have q1 : (y == id) = true := beq_iff_eq.mpr he
                    obtain ⟨g, cs, ef⟩ := row_form HS.out (by omega)
                    rw [hsl] at ef
                    subst ef
                    have hs' : (Kd.int .i64).R 3 wr w.heap.size (okS b m1 m2 (.slice (some ad1) own.length co)) (.slice (some ⟨g, 0, none⟩) (seenM own i k).length cs) (seenM own i k) := by rw [hsl]; exact HS.out
                    obtain ⟨z0, z1⟩ := Kd.R_cell (0 : Int) hs' (k : Int) p2 (by rw [hsl]; exact p3)
                    rw [Int.toNat_natCast] at z0 z1
                    have hz' : rdOf (0 : Int) (seenM own i k) (k : Int) = 0 := hz
                    rw [hz'] at z0
                    obtain ⟨hs2, hg2⟩ := Kd.R_put hs' (k : Int) (1 : Int)
                    rw [Int.toNat_natCast, ← hset, hsl] at hs2
                    rw [Int.toNat_natCast] at hg2
                    have hokg := HS.out.1 g rfl
                    have HT2 := Aside0.mk (T3I.mk (HT.out.line.grown hg2 (fun e => hokg.1.1 (Option.some.inj e).symm) (fun e => hokg.1.2.1 (Option.some.inj e).symm) (fun e => hokg.1.2.2 (Option.some.inj e).symm)) HT.out.turn (I_keep HT.out.o1 (fun k' hk' hlt => hg2.block k' hlt (fun e => hokg.2 (by rw [hk', e])))) (HT.out.below.grown hg2 HT.out.below.size (fun k' hk' => by obtain rfl := Option.some.inj hk'; exact own_base (Kd.own_of_R HS.out) g rfl)))
                    have HS2 := Aside0.mk hs2
                    clear hs2 hg2 hs' HT HS hst1 hst2 hset hz hz' hokg
                    go_wp2
                    go_roundg k3
                    case measure => omega
                    case rel => exact ⟨k + 1, by go_num, by omega, HT2, HS2⟩
                  · have q1 : (y == id) = false := beq_eq_false_iff_ne.mpr he
                    have hset := hst2 he
                    have hs2 := HS.out
                    rw [← hset] at hs2
                    have HS2 := Aside0.mk hs2
                    clear hs2 HS hst1 hst2 hset
                    go_wp2
                    go_roundg k3
                    case measure => omega
                    case rel => exact ⟨k + 1, by go_num, by omega, HT, HS2⟩
                · have hke : k = own.length := by omega
                  subst hke
                  have hs2 := HS.out
                  rw [seenM_end] at hs2
                  have HS2 := Aside0.mk hs2
                  clear hs2 HS hk hko
                  go_wp2
                  go_roundg k2
                  case measure => omega
                  case rel => exact ⟨i + 1, E2, q + 1, by go_num, by omega, by omega, HT, HS2⟩
            · have hie : i = own.length := by omega
              subst hie
              obtain ⟨As, cs, es⟩ := Kd.R_slice HS.out
              rw [seenF_len] at es
              subst es
              have hC := (Kd.R_reads' HS.out).2.2
              rw [seenF_len] at hC
              have hen := turn_end HREL.out.nodup HT.out.turn
              have HC := Aside0.mk hC; have HEN := Aside0.mk hen
              clear hC hen hi hio HS
              go_wp2
              go_loopg [17] own.length (fun kq v17 wr4 => ∃ (k : Nat), v17 = .int .i64 k ∧ k + kq = own.length ∧ Drawn0 wr wr4)
              case atStart => exact ⟨0, rfl, by omega, by repeat (first | exact Drawn0.refl _ | apply Drawn0.step)⟩
              case round =>
                obtain ⟨k, rfl, hko, ⟨m5, rfl⟩⟩ := hrel
                by_cases hk : k < own.length
                · obtain ⟨k3, rfl⟩ : ∃ k3, gk = k3 + 1 := ⟨gk - 1, by omega⟩
                  have p2 : (0 : Int) ≤ (k : Int) := by omega
                  have p3 : (k : Int) < (own.length : Int) := by omega
                  obtain ⟨ad1, rfl, y0⟩ := Kd.at_int HC.out (k : Int) p2 p3
                  rw [Int.toNat_natCast, seenF_all HREL.out.nodup k hk] at y0
                  go_wp2
                  go_roundg k3
                  case measure => omega
                  case rel => exact ⟨k + 1, by go_num, by omega, by repeat (first | exact Drawn0.refl _ | apply Drawn0.step)⟩
                · have hke : k = own.length := by omega
                  subst hke
                  clear hk hko HC
                  go_wp2
                  go_roundg k1
                  case measure => omega
                  case rel => exact ⟨n + 1, E, q, by go_num, by omega, by omega, ⟨HT.out.line.below (pw_below_drewN (Below.refl _ _) m5), HEN.out, I_keep (w1 := wr.drewN m5) HT.out.o1 (fun k hk hlt => rfl), pw_below_drewN HT.out.below m5⟩⟩
        · have HT' := Aside0.mk HT
          clear HT
          by_cases hr1 : (n : Int) < rounds
          · have q1 : decide ((n : Int) < rounds) = true := decide_eq_true hr1
            have q2 := eq_true hr1
            have hr3' : ¬ (n : Int) < 3 := fun h => hgo ⟨hr1, by omega⟩
            have q3 : decide ((n : Int) < 3) = false := decide_eq_false hr3'
            have q4 := eq_false hr3'
            clear hr3' hr1 hgo
            go_wp2_with fail
            refine (ostlerlaw10_awake.calls true _ (HG.out.below HT'.out.below) rfl).mono ?_
            rintro e w6 ⟨rfl, hb⟩
            have hN := prio_Len_calls (HT'.out.line.below hb)
            rw [HREL.out.size] at hN
            have HN := Aside0.mk hN
            have HB7 := Aside0.mk (HT'.out.below.trans (hb.mono HT'.out.below.size))
            clear hb hN
            go_wp2_with fail
            refine HN.out.mono ?_
            rintro e w7 ⟨rfl, rfl⟩
            go_wp2
            go_ret
            exact ⟨rfl, HB7.out⟩
          · have q1 : decide ((n : Int) < rounds) = false := decide_eq_false hr1
            have q2 := eq_false hr1
            clear hr1 hgo
            go_wp2_with fail
            refine (ostlerlaw10_awake.calls true _ (HG.out.below HT'.out.below) rfl).mono ?_
            rintro e w6 ⟨rfl, hb⟩
            have hN := prio_Len_calls (HT'.out.line.below hb)
            rw [HREL.out.size] at hN
            have HN := Aside0.mk hN
            have HB7 := Aside0.mk (HT'.out.below.trans (hb.mono HT'.out.below.size))
            clear hb hN
            go_wp2_with fail
            refine HN.out.mono ?_
            rintro e w7 ⟨rfl, rfl⟩
            go_wp2
            go_ret
            exact ⟨rfl, HB7.out⟩
def ostlerlaw10_PrioTurns.f (k : Nat) (l0 : List Int) (a1 a2 : Int) : Option Bool := if (l0.all fun x => (Lit.int .i64 x).wf) = true then some true else none
theorem ostlerlaw10_PrioTurns.mono : ∀ a0 a1 a2 k, LeO (ostlerlaw10_PrioTurns.f k a0 a1 a2) (ostlerlaw10_PrioTurns.f (k + 1) a0 a1 a2) := fun _ _ _ _ r h => h
theorem ostlerlaw10_PrioTurns.calls (k : Nat) (A0 : Option Addr) (c0 : Nat) (l0 : List Int) (a1 : Int) (a2 : Int) (r : Bool) (w : World) (hG : GI w) (hr0 : Kd.C (Kd.int .i64) w A0 l0.length l0) (hc0 : l0.length ≤ c0) (h : ostlerlaw10_PrioTurns.f k l0 a1 a2 = some r) :
    Calls Tryd.prog 5 #[.slice A0 l0.length c0, .int .i64 a1, .int .i64 a2] w fun e w' => e = .returned (.bool r) ∧ Below w.heap.size w w' := by
  unfold ostlerlaw10_PrioTurns.f at h
  split at h
  · rename_i g
    obtain rfl := Option.some.inj h
    simp only [List.all_eq_true] at g
    exact turns_walk A0 c0 l0 a1 a2 w hG hr0 g
  · cases h

end Go.Proofs.YtbndichleiameaaDoor.PP
