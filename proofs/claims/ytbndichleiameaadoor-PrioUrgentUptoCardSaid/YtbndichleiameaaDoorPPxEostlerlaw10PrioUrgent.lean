-- Written by a program of this session (a changed copy of the kit's print) out of the translation. Not trusted: Lean checks it.
import Derived.Test.YtbndichleiameaaDoorPPx0
import Derived.Test.YtbndichleiameaaDoorPPx8
import Derived.Test.YtbndichleiameaaDoorPPxEostlerlaw10awake
import Derived.Test.YtbndichleiameaaDoorPPxEprioNew
import Derived.Test.YtbndichleiameaaDoorPPxEprioLineSet
import Derived.Test.YtbndichleiameaaDoorPPxEprioLineSet
import Derived.Laws.AppendOwn
namespace Go.Proofs.YtbndichleiameaaDoor.PP
open Go.RowKit Go.Proofs.YtbndichleiameaaDoorW.PrintWords Go.Proofs.YtbndichleiameaaDoorW.PrintLast Go.Proofs.YtbndichleiameaaDoorW.PrintMore
attribute [local go_sem] max2_int min2_int max_two min_two max_three min_three max_four min_four   -- for this text's walks alone
set_option linter.unusedVariables false
set_option linter.unusedSimpArgs false

/-! ### ostlerlaw10_PrioUrgent: function 6 (an extern) -/
/-! #### PrioUrgent: the plain law -/
/-- What the last pair of an id says, u if there is none. -/
def uF : List (Int × Int) → Int → Int → Int
  | [], _, u => u
  | p :: r, x, u => uF r x (if p.1 = x then p.2 else u)
theorem uF_snoc (a v x : Int) : ∀ (l : List (Int × Int)) (u : Int), uF (l ++ [(a, v)]) x u = if a = x then v else uF l x u
  | [], u => rfl
  | p :: r, u => by rw [List.cons_append, uF, uF_snoc a v x r, uF]
theorem uF_none (x : Int) : ∀ (l : List (Int × Int)) (u : Int), (∀ p ∈ l, p.1 ≠ x) → uF l x u = u
  | [], u, _ => rfl
  | p :: r, u, h => by
    rw [uF, if_neg (h p (List.mem_cons_self ..)), uF_none x r u (fun q hq => h q (List.mem_cons_of_mem _ hq))]
theorem uF_some (x : Int) : ∀ (l : List (Int × Int)) (u : Int), (∃ p ∈ l, p.1 = x) → ∃ p ∈ l, p.1 = x ∧ uF l x u = p.2
  | [], u, h => by obtain ⟨p, hp, _⟩ := h; cases hp
  | p :: r, u, h => by
    by_cases hr : ∃ q ∈ r, q.1 = x
    · obtain ⟨q, h1, h2, h3⟩ := uF_some x r (if p.1 = x then p.2 else u) hr
      exact ⟨q, List.mem_cons_of_mem _ h1, h2, h3⟩
    · have hr' : ∀ q ∈ r, q.1 ≠ x := fun q hq e => hr ⟨q, hq, e⟩
      obtain ⟨q, h1, h2⟩ := h
      rcases List.mem_cons.1 h1 with rfl | h1
      · exact ⟨q, List.mem_cons_self .., h2, by rw [uF, if_pos h2, uF_none x r _ hr']⟩
      · exact absurd h2 (hr' q h1)
def mnI (a b : Int) : Int := if b < a then b else a
def bestF (ps : List (Int × Int)) : List Int → Int → Int
  | [], b => b
  | a :: r, b => bestF ps r (mnI b (uF ps a 8))
theorem bestF_snoc (ps : List (Int × Int)) (a : Int) : ∀ (l : List Int) (b : Int), bestF ps (l ++ [a]) b = mnI (bestF ps l b) (uF ps a 8)
  | [], b => rfl
  | c :: r, b => by rw [List.cons_append, bestF, bestF_snoc ps a r, bestF]
/-- The line says of each id what the pairs say. -/
def RelD (D : DataW Unit) (ps : List (Int × Int)) : Prop := ∀ x, (Lit.int .i64 x).wf = true → (hAt D x = true ↔ ∃ p ∈ ps, p.1 = x) ∧ (hAt D x = true → (pAt D x).1 = uF ps x 8)
theorem RelD_nil : RelD (.map []) [] := fun x _ => ⟨⟨fun h => by simp [hAt, Maps.has] at h, fun ⟨p, hp, _⟩ => by cases hp⟩, fun h => by simp [hAt, Maps.has] at h⟩
theorem RelD_put {D : DataW Unit} {ps : List (Int × Int)} (h : RelD D ps) (hm : Maps.IsMap D) (a u : Int) (q : Bool) : RelD (D.put (.int .i64 a) (priD u q)) (ps ++ [(a, u)]) := by
  intro x hx
  by_cases e : a = x
  · subst e
    have h1 : hAt (D.put (.int .i64 a) (priD u q)) a = true := Maps.has_put_same hm (by simp [WideAt.IsKeyLit]) _
    have h2 : pAt (D.put (.int .i64 a) (priD u q)) a = (u, q) := by
      unfold pAt; rw [Maps.atKey_put_same hm (by simp [WideAt.IsKeyLit]) _ _]; rfl
    refine ⟨⟨fun _ => ⟨(a, u), by simp, rfl⟩, fun _ => h1⟩, fun _ => ?_⟩
    rw [h2, uF_snoc, if_pos rfl]
  · have hne : (Lit.int .i64 x) ≠ Lit.int .i64 a := fun h => e (Lit.int.inj h).2.symm
    have h1 : hAt (D.put (.int .i64 a) (priD u q)) x = hAt D x := Maps.has_put_other hne _
    have h2 : pAt (D.put (.int .i64 a) (priD u q)) x = pAt D x := by
      unfold pAt; rw [Maps.atKey_put_other hne]
    rw [h1, h2, uF_snoc, if_neg e]
    refine ⟨(h x hx).1.trans ⟨fun ⟨p, hp, e'⟩ => ⟨p, by simp [hp], e'⟩, fun ⟨p, hp, e'⟩ => ?_⟩, (h x hx).2⟩
    rcases List.mem_append.1 hp with hp | hp
    · exact ⟨p, hp, e'⟩
    · rw [List.mem_singleton.1 hp] at e'; exact absurd e' e
theorem firstF_urg (D E : DataW Unit) (x y : Int) : (pAt D (firstF D E x y)).1 = mnI (pAt D x).1 (pAt D y).1 := by
  unfold firstF mnI
  repeat' split
  all_goals first | rfl | (simp only [ne_eq, Decidable.not_not] at *; omega)
def accU (D : DataW Unit) : Option Int → Int
  | none => 8
  | some b => (pAt D b).1
theorem next_best {D E : DataW Unit} {ps : List (Int × Int)} (h : RelD D ps) (hp : ∀ p ∈ ps, p.2 ≤ 7) : ∀ (l : List Int) (acc : Option Int), (∀ a ∈ l, (Lit.int .i64 a).wf = true) → (∀ b, acc = some b → (Lit.int .i64 b).wf = true ∧ hAt D b = true) →
    accU D (nextG D E l acc) = bestF ps l (accU D acc) ∧ (∀ b, nextG D E l acc = some b → (Lit.int .i64 b).wf = true ∧ hAt D b = true ∧ (b ∈ l ∨ acc = some b)) := by
  have small : ∀ x, (Lit.int .i64 x).wf = true → hAt D x = true → (pAt D x).1 ≤ 7 := by
    intro x hx hh
    obtain ⟨p, h1, h2, h3⟩ := uF_some x ps 8 ((h x hx).1.1 hh)
    rw [(h x hx).2 hh, h3]; exact hp p h1
  intro l
  induction l with
  | nil => intro acc _ ha; exact ⟨rfl, fun b hb => ⟨(ha b hb).1, (ha b hb).2, .inr hb⟩⟩
  | cons a r ih =>
    intro acc hw ha
    have hwa := hw a (List.mem_cons_self ..)
    have hwr : ∀ x ∈ r, (Lit.int .i64 x).wf = true := fun x hx => hw x (List.mem_cons_of_mem _ hx)
    rw [nextG, bestF]
    by_cases hh : hAt D a = true
    · rw [if_pos hh]
      have hu : uF ps a 8 = (pAt D a).1 := ((h a hwa).2 hh).symm
      have hs := small a hwa hh
      have hacc : ∀ b, some (firstF D E (acc.getD a) a) = some b → (Lit.int .i64 b).wf = true ∧ hAt D b = true := by
        intro b hb
        obtain rfl := Option.some.inj hb
        rcases firstF_or D E (acc.getD a) a with e | e <;> rw [e]
        · cases acc with
          | none => exact ⟨hwa, hh⟩
          | some c => exact ha c rfl
        · exact ⟨hwa, hh⟩
      obtain ⟨h1, h2⟩ := ih (some (firstF D E (acc.getD a) a)) hwr hacc
      have e1 : accU D (some (firstF D E (acc.getD a) a)) = mnI (accU D acc) (uF ps a 8) := by
        show (pAt D (firstF D E (acc.getD a) a)).1 = _
        rw [firstF_urg, hu]
        cases acc with
        | none => show mnI (pAt D a).1 (pAt D a).1 = mnI 8 (pAt D a).1; unfold mnI; rw [if_neg (by omega), if_pos (by omega)]
        | some c => rfl
      refine ⟨by rw [h1, e1], fun b hb => ?_⟩
      obtain ⟨g1, g2, g3⟩ := h2 b hb
      refine ⟨g1, g2, ?_⟩
      rcases g3 with g3 | g3
      · exact .inl (List.mem_cons_of_mem _ g3)
      · obtain rfl := Option.some.inj g3
        rcases firstF_or D E (acc.getD a) a with e | e <;> rw [e]
        · cases acc with
          | none => exact .inl (List.mem_cons_self ..)
          | some c => exact .inr rfl
        · exact .inl (List.mem_cons_self ..)
    · rw [if_neg hh]
      have hu : uF ps a 8 = 8 := uF_none a ps 8 (fun p hp' e => hh ((h a hwa).1.2 ⟨p, hp', e⟩))
      obtain ⟨h1, h2⟩ := ih acc hwr ha
      have hb8 : accU D acc ≤ 8 := by
        cases acc with
        | none => exact Int.le_refl _
        | some c => have := small c (ha c rfl).1 (ha c rfl).2; show (pAt D c).1 ≤ 8; omega
      have e1 : mnI (accU D acc) (uF ps a 8) = accU D acc := by rw [hu]; unfold mnI; rw [if_neg (by omega)]
      refine ⟨by rw [h1, e1], fun b hb => ?_⟩
      obtain ⟨g1, g2, g3⟩ := h2 b hb
      exact ⟨g1, g2, g3.imp (List.mem_cons_of_mem _) id⟩
/-- What goes on, told by the pairs: nobody, or one that can whose urgency is the best. -/
theorem next_said {D E : DataW Unit} {ps : List (Int × Int)} (h : RelD D ps) (hp : ∀ p ∈ ps, p.2 ≤ 7) (l : List Int) (hw : ∀ a ∈ l, (Lit.int .i64 a).wf = true) :
    (bestF ps l 8 = 8 → nextR D E l = -1) ∧ (bestF ps l 8 ≠ 8 → nextR D E l ∈ l ∧ uF ps (nextR D E l) 8 = bestF ps l 8) := by
  obtain ⟨h1, h2⟩ := next_best (E := E) h hp l none hw (fun b hb => by cases hb)
  have e0 : accU D none = 8 := rfl
  rw [e0] at h1
  unfold nextR
  cases hn : nextG D E l none with
  | none =>
    rw [hn] at h1
    refine ⟨fun _ => rfl, fun hne => absurd h1.symm hne⟩
  | some b =>
    rw [hn] at h1
    obtain ⟨g1, g2, g3⟩ := h2 b hn
    have g4 : b ∈ l := g3.resolve_right (fun e => by cases e)
    have hs : (pAt D b).1 = bestF ps l 8 := h1
    have hu := (h b g1).2 g2
    refine ⟨fun e8 => ?_, fun _ => ⟨g4, by show uF ps b 8 = _; rw [← hu, hs]⟩⟩
    obtain ⟨p, k1, k2, k3⟩ := uF_some b ps 8 ((h b g1).1.1 g2)
    have := hp p k1
    omega
def clampI (u : Int) : Int := mx 0 (mn 7 u)
theorem clampI_range (u : Int) : 0 ≤ clampI u ∧ clampI u ≤ 7 := by unfold clampI mn mx; (repeat' split) <;> omega
theorem clampI_wf (u : Int) : (Lit.int .i64 (clampI u)).wf = true := by
  obtain ⟨h0, h7⟩ := clampI_range u
  have key : ∀ n : Fin 8, (Lit.int .i64 (n.val : Int)).wf = true := by decide
  have := key ⟨(clampI u).toNat, by omega⟩
  rwa [show (((⟨(clampI u).toNat, by omega⟩ : Fin 8).val : Nat) : Int) = clampI u by show (((clampI u).toNat : Nat) : Int) = _; omega] at this
def prsU (l : List S38) : List (Int × Int) := l.map fun c => (c.f1, clampI c.f2)
theorem cell_b {B : Nat} {w w' : World} {a : Addr} {v : Value} (h : Below B w w') (hq : a.block < B) (hc : w.cell? a = some v) : w'.cell? a = some v := (h.cell hq).trans hc
theorem I_keep {w w1 : World} {base : Nat} {ok : Nat → Prop} {v : Value} {xs : List Int} (h : (Kd.int .i64).R 3 w base ok v xs) (hm : ∀ k, v.ownBlock = some k → k < w.heap.size → w1.heap[k]? = w.heap[k]?) : (Kd.int .i64).R 3 w1 base ok v xs :=
  Kd.R_of_own (own_move (Kd.own_of_R h) (fun k hk => hm k hk (own_lt (Kd.own_of_R h) k hk))) h.1
def okI (b m1 m2 : Nat) (k : Nat) : Prop := k ≠ b ∧ k ≠ m1 ∧ k ≠ m2
theorem prsU_snoc (l : List S38) (c : S38) : prsU (l ++ [c]) = prsU l ++ [(c.f1, clampI c.f2)] := by unfold prsU; rw [List.map_append]; rfl
theorem clamp_other (u : Int) : mn (mx u 0) 7 = clampI u := by unfold clampI mn mx; (repeat' split) <;> omega
theorem apart_one {u6 u7 v6 : Value} {s2 : Nat} (h : ∀ k, u6.ownBlock = some k → u7.ownBlock ≠ some k) (h7 : ∀ k, u7.ownBlock = some k → k < s2) (hat3 : v6.ownBlock = u6.ownBlock ∨ ∃ b, v6.ownBlock = some b ∧ s2 ≤ b) :
    ∀ k, v6.ownBlock = some k → u7.ownBlock ≠ some k := by
  intro k hk e
  rcases hat3 with h3 | ⟨c, h3, h4⟩
  · exact h k (h3.symm.trans hk) e
  · have h5 := h7 k e
    rw [h3] at hk
    have := Option.some.inj hk
    omega
structure U1I (B b m1 m2 : Nat) (l : List S38) (w : World) (kq i : Nat) (ids how : Value) (D : DataW Unit) (wr : World) : Prop where
  len : i + kq = l.length
  line : LineAt B b m1 m2 i D (.map []) wr
  rel : RelD D (prsU (l.take i))
  o1 : (Kd.int .i64).R 3 wr B (okI b m1 m2) ids ((prsU (l.take i)).map fun p => p.1)
  o2 : (Kd.int .i64).R 3 wr B (okI b m1 m2) how ((prsU (l.take i)).map fun p => p.2)
  ap : ∀ k, ids.ownBlock = some k → how.ownBlock ≠ some k
  below : Below B w wr
set_option maxHeartbeats 8000000 in
set_option maxRecDepth 100000 in
theorem urgent_walk (A0 : Option Addr) (c0 : Nat) (l0 : List S38) (A1 : Option Addr) (c1 : Nat) (l1 : List Int) (w : World) (hG : GI w) (hr0 : Kd.C k38 w A0 l0.length l0) (hr1 : Kd.C (Kd.int .i64) w A1 l1.length l1) (hw0 : ∀ x ∈ l0, (Lit.int .i64 x.f1).wf = true ∧ (Lit.int .i64 x.f2).wf = true) (hw1 : ∀ x ∈ l1, (Lit.int .i64 x).wf = true) (hl0 : l0.length ≤ 16777216) (hl1 : l1.length ≤ 16777216) :
    Calls Tryd.prog 6 #[.slice A0 l0.length c0, .slice A1 l1.length c1] w fun e w' => e = .returned (.bool true) ∧ Below w.heap.size w w' := by
  have HG := Aside0.mk hG; have HR0 := Aside0.mk hr0; have HR1 := Aside0.mk hr1; have HW0 := Aside0.mk hw0; have HW1 := Aside0.mk hw1
  clear hG hr0 hr1 hw0 hw1
  obtain ⟨i0, hi, hz0, hz1, hz2⟩ := info_parts info3
  go_enter Tryd.func6, Tryd.ntmps6
  go_wp2_with fail
  refine (prio_New_calls _).mono ?_
  rintro e w1 ⟨b, m1, m2, rfl, hL, hb⟩
  have HL := Aside0.mk hL; have HB := Aside0.mk hb
  clear hL hb
  by_cases h200 : (200 : Int) < (l0.length : Int)
  · have q1 : decide ((l0.length : Int) > 200) = true := decide_eq_true h200
    have q2 := eq_true h200
    clear h200
    go_wp2_with fail
    refine (ostlerlaw10_awake.calls true _ (HG.out.below HB.out) rfl).mono ?_
    rintro e w2 ⟨rfl, hb⟩
    have HB2 := Aside0.mk (HB.out.trans (hb.mono HB.out.size))
    clear hb
    go_wp2
    go_ret
    exact ⟨rfl, HB2.out⟩
  have q1 : decide ((l0.length : Int) > 200) = false := decide_eq_false h200
  have q2 := eq_false h200
  go_wp2
  clear q1 q2
  go_loopg [6, 7, 8] l0.length (fun kq v6 v7 v8 wr => ∃ (i : Nat) (D : DataW Unit), v8 = .int .i64 i ∧ U1I w.heap.size b m1 m2 l0 w kq i v6 v7 D wr)
  case atStart => exact ⟨0, .map [], rfl, ⟨by omega, HL.out, RelD_nil, Kd.R_nil _ _ _ _ _, Kd.R_nil _ _ _ _ _, by simp [Value.ownBlock], HB.out⟩⟩
  case round =>
    clear HL HB
    obtain ⟨i, D, rfl, HI⟩ := hrel
    have hik := HI.len
    by_cases hlt : i < l0.length
    · obtain ⟨k1, rfl⟩ : ∃ k1, gk = k1 + 1 := ⟨gk - 1, by omega⟩
      have p0 : (0 : Int) ≤ (i : Int) := by omega
      have p1 : (i : Int) < (l0.length : Int) := by omega
      obtain ⟨ad, A4, c4, rfl, x0, x1, x2, x3, _⟩ := at_T38 HR0.out (i : Int) p0 p1
      rw [Int.toNat_natCast] at x0 x1 x2 x3
      have hq1 := World.block_lt_of_cell? _ _ x1
      have hq2 := World.block_lt_of_cell? _ _ x2
      have hq3 := World.block_lt_of_cell? _ _ x3
      have y2 := x2
      replace x1 := cell_b HI.below hq1 x1
      replace x2 := cell_b HI.below hq2 x2
      replace x3 := cell_b HI.below hq3 x3
      clear x0
      have hmem : rd_T38 l0 i ∈ l0 := by
        have : rd_T38 l0 i = l0[i] := by unfold rd_T38; rw [Int.toNat_natCast, List.getD, List.getElem?_eq_getElem hlt]; rfl
        rw [this]; exact List.getElem_mem hlt
      have htk : l0.take (i + 1) = l0.take i ++ [rd_T38 l0 i] := by
        have : rd_T38 l0 i = l0[i] := by unfold rd_T38; rw [Int.toNat_natCast, List.getD, List.getElem?_eq_getElem hlt]; rfl
        rw [this, List.take_append_getElem]
      obtain ⟨hwa, hwb⟩ := HW0.out _ hmem
      generalize rd_T38 l0 (i : Int) = c at x1 x2 x3 y2 htk hwa hwb
      obtain ⟨f0, f1, f2, f3, f4⟩ := c
      dsimp only at x1 x2 x3 y2 htk hwa hwb
      clear hmem
      have HI' := Lib.hid HI
      clear HI
      go_wp2
      have hi1 : i < maxLen := by unfold maxLen; omega
      have hsz := HI'.out.below.size
      have hLd := HI'.out.line.drew
      go_region_held3 (fun W => W.cell? ⟨(ad.add (i * 5)).block, (ad.add (i * 5)).off + 1, none⟩ = some (.int .i64 f1) ∧ W.cell? ⟨(ad.add (i * 5)).block, (ad.add (i * 5)).off + 2, none⟩ = some (.int .i64 f2) ∧ W.cell? ⟨(ad.add (i * 5)).block, (ad.add (i * 5)).off + 3, none⟩ = some (.bool f3)) (first | exact ⟨x1, x2, x3⟩ | exact ⟨cell_b hb2 hq1 x1, cell_b hb2 hq2 x2, cell_b hb2 hq3 x3⟩) (first | (go_at_call 15; refine (prio_Set_only hLd hsz hi1 f1 f2 (clampI f2) f3 f3 hwa (clampI_wf f2) (fun W => prio_kept.calls f2 f3 (clampI f2) f3 W rfl)).mono ?_; rintro e w2 ⟨rfl, hL2, hb2, ho2⟩))
      rename_i hH
      obtain ⟨x1, x2, x3⟩ := hH
      clear x2 x3
      have hO1 := I_keep HI'.out.o1 (fun k hk hlt => ho2 k hlt (HI'.out.o1.1 k hk).2.1)
      have hO2 := I_keep HI'.out.o2 (fun k hk hlt => ho2 k hlt (HI'.out.o2.1 k hk).2.1)
      have hB2 : Below w.heap.size w w2 := (below_drew HI'.out.below).trans hb2
      have hap := HI'.out.ap
      have hrel := HI'.out.rel
      have hrel2 := RelD_put hrel HI'.out.line.o1.isMap f1 (clampI f2) f3
      have hbb := cell_blk hL2.c0
      have hbm1 := hL2.o1.lt
      have hbm2 := hL2.o2.lt
      have hlen1 : ((prsU (l0.take i)).map fun p => p.1).length = i := by unfold prsU; simp; omega
      have hlen2 : ((prsU (l0.take i)).map fun p => p.2).length = i := by unfold prsU; simp; omega
      have e5 := clamp_other f2
      clear hLd ho2 hb2 hrel
      have HL2 := Aside0.mk hL2; have HO1 := Aside0.mk hO1; have HO2 := Aside0.mk hO2; have HB2 := Aside0.mk hB2; have HAP := Aside0.mk hap; have HREL := Aside0.mk hrel2; have HTK := Aside0.mk htk; have HE5 := Aside0.mk e5
      clear hL2 hO1 hO2 hB2 hap hrel2 htk e5
      go_wp2_with (first
        | (at_builtin; refine Kd.R_append (Kd.int .i64) (w0 := w) w.heap.size rfl (.tmp 55) (.tmp 61) 29 3 (.int .i64 0) 8 rfl Tryd.underlying29 info3 rfl (by decide) (by decide) _ _ f1 [.int .i64 f1] (okI b m1 m2) (fun _ => False) rfl rfl rfl (fun _ hk => hk.elim) (fun k hk => ⟨by omega, by omega, by omega⟩) HO1.out HB2.out HB2.out.size (by rw [hlen1]; omega) ?_; intro v6 w3 hO1 hB3 hg3 hat3; have x4 := cell_b (a := ⟨(ad.add (i * 5)).block, (ad.add (i * 5)).off + 2, none⟩) hB3 hq2 y2; have hL3 := HL2.out.grown hg3 (fun e => (HO1.out.1 b e.symm).1 rfl) (fun e => (HO1.out.1 m1 e.symm).2.1 rfl) (fun e => (HO1.out.1 m2 e.symm).2.2 rfl); have hO2 := I_keep HO2.out (fun k hk hlt => hg3.block k hlt (fun e => HAP.out k e.symm hk)); have hap3 := apart_one HAP.out (own_lt (Kd.own_of_R HO2.out)) hat3; have hbb3 := cell_blk hL3.c0; have hbm13 := hL3.o1.lt; have hbm23 := hL3.o2.lt; have HL3 := Aside0.mk hL3; have HO13 := Aside0.mk hO1; have HO23 := Aside0.mk hO2; have HB3 := Aside0.mk hB3; have HAP3 := Aside0.mk hap3; clear hL3 hO1 hO2 hB3 hap3 hg3 hat3)
        | (at_builtin; refine Kd.R_append (Kd.int .i64) (w0 := w) w.heap.size rfl (.tmp 63) (.tmp 71) 29 3 (.int .i64 0) 8 rfl Tryd.underlying29 info3 rfl (by decide) (by decide) _ _ _ [.int .i64 _] (okI b m1 m2) (fun _ => False) rfl rfl rfl (fun _ hk => hk.elim) (fun k hk => ⟨by omega, by omega, by omega⟩) HO23.out HB3.out HB3.out.size (by rw [hlen2]; omega) ?_; intro v7 w4 hO2 hB4 hg4 hat4; have hL4 := HL3.out.grown hg4 (fun e => (HO23.out.1 b e.symm).1 rfl) (fun e => (HO23.out.1 m1 e.symm).2.1 rfl) (fun e => (HO23.out.1 m2 e.symm).2.2 rfl); have hO1 := I_keep HO13.out (fun k hk hlt => hg4.block k hlt (fun e => HAP3.out k hk e.symm)); have hap4 := apart_one (fun k hk e => HAP3.out k e hk) (own_lt (Kd.own_of_R HO13.out)) hat4; have HL4 := Aside0.mk hL4; have HO14 := Aside0.mk hO1; have HO24 := Aside0.mk hO2; have HB4 := Aside0.mk hB4; have HAP4 := Aside0.mk hap4; clear hL4 hO1 hO2 hB4 hap4 hg4 hat4))
      all_goals (
        go_roundg k1
        case measure => omega
        case rel =>
          have h4 := HO24.out
          rw [show (if (7 : Int) < (if f2 < 0 then 0 else f2) then (7 : Int) else (if f2 < 0 then 0 else f2)) = clampI f2 by unfold clampI mn mx; (repeat' split) <;> omega] at h4
          exact ⟨i + 1, _, by go_num, ⟨by omega, HL4.out, by rw [HTK.out, prsU_snoc]; exact HREL.out, by rw [HTK.out, prsU_snoc, List.map_append]; exact HO14.out, by rw [HTK.out, prsU_snoc, List.map_append]; exact h4, fun k hk e => HAP4.out k e hk, HB4.out⟩⟩)
    · have hie : i = l0.length := by omega
      subst hie
      have HI' := Lib.hid HI
      clear HI hik hlt
      go_wp2
      have hO1 := HI'.out.o1
      have hO2 := HI'.out.o2
      have hL := HI'.out.line
      have hrel := HI'.out.rel
      have hB := HI'.out.below
      rw [List.take_length] at hO1 hO2 hrel
      clear HI'
      obtain ⟨ps, hps⟩ : ∃ ps, prsU l0 = ps := ⟨_, rfl⟩
      have hp7 : ∀ p ∈ ps, p.2 ≤ 7 := by
        intro p hp
        rw [← hps] at hp
        obtain ⟨c, _, rfl⟩ := List.mem_map.1 hp
        exact (clampI_range c.f2).2
      have hpl : ps.length ≤ 16777216 := by rw [← hps]; unfold prsU; rw [List.length_map]; exact hl0
      rw [hps] at hO1 hO2 hrel
      obtain ⟨Ai, ci, ei⟩ := Kd.R_slice hO1
      subst ei
      obtain ⟨Ah, ch, eh⟩ := Kd.R_slice hO2
      subst eh
      rw [List.length_map, List.length_map]
      have hC1 := (Kd.R_reads' hO1).2.2
      have hC2 := (Kd.R_reads' hO2).2.2
      have hR1 := Kd.C_below HR1.out hB
      rw [List.length_map] at hC1 hC2
      have HRW := HR1
      have HO1R := Aside0.mk hO1; have HO2R := Aside0.mk hO2
      clear hO1 hO2 hps HR1
      have HC1 := Aside0.mk hC1; have HC2 := Aside0.mk hC2; have HR1 := Aside0.mk hR1; have HL := Aside0.mk hL; have HREL := Aside0.mk hrel; have HB := Aside0.mk hB; have HP7 := Aside0.mk hp7
      clear hC1 hC2 hR1 hL hrel hB hp7
      go_loopg [9, 10] l1.length (fun kq v9 v10 w' => ∃ j : Nat, v10 = .int .i64 j ∧ v9 = .int .i64 (bestF ps (l1.take j) 8) ∧ j + kq = l1.length ∧ Drawn0 wr w')
      case atStart => exact ⟨0, rfl, rfl, by omega, by repeat (first | exact Drawn0.refl _ | apply Drawn0.step)⟩
      case round =>
        obtain ⟨j, rfl, rfl, hjk, ⟨mm, rfl⟩⟩ := hrel
        by_cases hj : j < l1.length
        · obtain ⟨k1, rfl⟩ : ∃ k1, gk = k1 + 1 := ⟨gk - 1, by omega⟩
          have p0 : (0 : Int) ≤ (j : Int) := by omega
          have p1 : (j : Int) < (l1.length : Int) := by omega
          obtain ⟨ad, rfl, x0⟩ := Kd.at_int HR1.out (j : Int) p0 p1
          rw [Int.toNat_natCast] at x0
          have htk : l1.take (j + 1) = l1.take j ++ [rd l1 (j : Int)] := by
            have : rd l1 (j : Int) = l1[j] := by simp [rd, List.getD, List.getElem?_eq_getElem hj]
            rw [this, List.take_append_getElem]
          generalize rd l1 (j : Int) = x at x0 htk
          have HTK := Aside0.mk htk
          clear htk
          go_wp2
          go_loopg [11, 12] ps.length (fun kq v11 v12 w' => ∃ k : Nat, v12 = .int .i64 k ∧ v11 = .int .i64 (uF (ps.take k) x 8) ∧ k + kq = ps.length ∧ Drawn0 wr w')
          case atStart => exact ⟨0, rfl, rfl, by omega, by repeat (first | exact Drawn0.refl _ | apply Drawn0.step)⟩
          case round =>
            obtain ⟨k, rfl, rfl, hkk, ⟨m3, rfl⟩⟩ := hrel
            by_cases hk : k < ps.length
            · obtain ⟨k2, rfl⟩ : ∃ k2, gk = k2 + 1 := ⟨gk - 1, by omega⟩
              have p2 : (0 : Int) ≤ (k : Int) := by omega
              have p3 : (k : Int) < (ps.length : Int) := by omega
              obtain ⟨ad1, rfl, y0⟩ := Kd.at_int HC1.out (k : Int) p2 p3
              obtain ⟨ad2, rfl, y1⟩ := Kd.at_int HC2.out (k : Int) p2 p3
              rw [Int.toNat_natCast] at y0 y1
              have htk : ps.take (k + 1) = ps.take k ++ [(rd (ps.map fun p => p.1) (k : Int), rd (ps.map fun p => p.2) (k : Int))] := by
                have e1 : rd (ps.map fun p => p.1) (k : Int) = ps[k].1 := by simp [rd, List.getD, List.getElem?_eq_getElem hk]
                have e2 : rd (ps.map fun p => p.2) (k : Int) = ps[k].2 := by simp [rd, List.getD, List.getElem?_eq_getElem hk]
                rw [e1, e2, List.take_append_getElem]
              generalize rd (ps.map fun p => p.1) (k : Int) = ia at y0 htk
              generalize rd (ps.map fun p => p.2) (k : Int) = ih at y1 htk
              have HTK2 := Aside0.mk htk
              clear htk
              have hlm : ((ps.map fun p => p.1).length : Int) = (ps.length : Int) := by rw [List.length_map]
              have hlm2 : ((ps.map fun p => p.2).length : Int) = (ps.length : Int) := by rw [List.length_map]
              by_cases he : ia = x
              · have q1 : (ia == x) = true := beq_iff_eq.mpr he
                go_wp2
                repeat (go_quiet (fail); try go_wp2)
                go_roundg k2
                case measure => omega
                case rel => exact ⟨k + 1, by go_num, by rw [HTK2.out, uF_snoc, if_pos he], by omega, by repeat (first | exact Drawn0.refl _ | apply Drawn0.step)⟩
              · have q1 : (ia == x) = false := beq_eq_false_iff_ne.mpr he
                go_wp2
                repeat (go_quiet (fail); try go_wp2)
                go_roundg k2
                case measure => omega
                case rel => exact ⟨k + 1, by go_num, by rw [HTK2.out, uF_snoc, if_neg he], by omega, by repeat (first | exact Drawn0.refl _ | apply Drawn0.step)⟩
            · have hke : k = ps.length := by omega
              subst hke
              have hlm : ((ps.map fun p => p.1).length : Int) = (ps.length : Int) := by rw [List.length_map]
              rw [List.take_length]
              go_wp2
              all_goals (
                go_roundg k1
                case measure => omega
                case rel => exact ⟨j + 1, by go_num, by rw [HTK.out, bestF_snoc]; unfold mnI; first | rw [if_pos (by assumption)] | rw [if_neg (by omega)], by omega, by repeat (first | exact Drawn0.refl _ | apply Drawn0.step)⟩)
        · have hje : j = l1.length := by omega
          subst hje
          rw [List.take_length]
          have hN := prio_Next_only (HL.out.below (pw_below_drewN (Below.refl _ _) mm)) HB.out.size (by unfold maxLen; omega) A1 c1 l1 (Kd.C_drewN HR1.out mm) HW1.out (by omega)
          obtain ⟨hs1, hs2⟩ := next_said (E := DataW.map []) HREL.out HP7.out l1 HW1.out
          generalize nextR D (DataW.map []) l1 = id at hN hs1 hs2
          generalize bestF ps l1 8 = best at hs1 hs2 ⊢
          have HN := Aside0.mk hN
          clear hN hj hjk HC1 HC2
          go_wp2_with fail
          refine HN.out.mono ?_
          rintro e w5 ⟨rfl, hL5, hB5, ho5⟩
          have hB6 : Below w.heap.size w w5 := (pw_below_drewN HB.out mm).trans hB5
          have hC1 := (Kd.R_reads' (I_keep HO1R.out (fun k hk hlt => ho5 k hlt (HO1R.out.1 k hk).2.2))).2.2
          have hC2 := (Kd.R_reads' (I_keep HO2R.out (fun k hk hlt => ho5 k hlt (HO2R.out.1 k hk).2.2))).2.2
          have hR5 := Kd.C_below HRW.out hB6
          rw [List.length_map] at hC1 hC2
          have HC1 := Aside0.mk hC1; have HC2 := Aside0.mk hC2; have HR5 := Aside0.mk hR5; have HB6 := Aside0.mk hB6
          clear hC1 hC2 hR5 hB6 hL5 hB5 ho5 HN HL HB HO1R HO2R HR1 HRW
          by_cases h8 : best = 8
          · have hid := hs1 h8
            subst hid
            have q1 : (best == 8) = true := beq_iff_eq.mpr h8
            clear hs1 hs2
            go_wp2_with fail
            refine (ostlerlaw10_awake.calls true _ (HG.out.below HB6.out) rfl).mono ?_
            rintro e w6 ⟨rfl, hb⟩
            have HB7 := Aside0.mk (HB6.out.trans (hb.mono HB6.out.size))
            clear hb
            go_wp2
            go_ret
            exact ⟨rfl, HB7.out⟩
          · obtain ⟨hmem, hub⟩ := hs2 h8
            have q1 : (best == 8) = false := beq_eq_false_iff_ne.mpr h8
            clear hs1 hs2
            go_wp2
            clear q1
            go_loopg [14, 15] l1.length (fun kq v14 v15 w' => ∃ j : Nat, v15 = .int .i64 j ∧ v14 = .bool ((l1.take j).any fun a => a == id) ∧ j + kq = l1.length ∧ Drawn0 w5 w')
            case atStart => exact ⟨0, rfl, rfl, by omega, by repeat (first | exact Drawn0.refl _ | apply Drawn0.step)⟩
            case round =>
              obtain ⟨j, rfl, rfl, hjk, ⟨mm, rfl⟩⟩ := hrel
              by_cases hj : j < l1.length
              · obtain ⟨k1, rfl⟩ : ∃ k1, gk = k1 + 1 := ⟨gk - 1, by omega⟩
                have p0 : (0 : Int) ≤ (j : Int) := by omega
                have p1 : (j : Int) < (l1.length : Int) := by omega
                obtain ⟨ad, rfl, x0⟩ := Kd.at_int HR5.out (j : Int) p0 p1
                rw [Int.toNat_natCast] at x0
                have htk : (l1.take (j + 1)).any (fun a => a == id) = ((l1.take j).any (fun a => a == id) || (rd l1 (j : Int) == id)) := by
                  have : rd l1 (j : Int) = l1[j] := by simp [rd, List.getD, List.getElem?_eq_getElem hj]
                  rw [this, ← List.take_append_getElem hj, List.any_append]; simp
                generalize rd l1 (j : Int) = x at x0 htk
                have HTK := Aside0.mk htk
                clear htk
                generalize (l1.take j).any (fun a => a == id) = am at HTK ⊢
                cases am with
                | true =>
                  go_wp2
                  go_roundg k1
                  case measure => omega
                  case rel => exact ⟨j + 1, by go_num, by rw [HTK.out]; rfl, by omega, by repeat (first | exact Drawn0.refl _ | apply Drawn0.step)⟩
                | false =>
                  go_wp2
                  go_roundg k1
                  case measure => omega
                  case rel => exact ⟨j + 1, by go_num, by rw [HTK.out]; rfl, by omega, by repeat (first | exact Drawn0.refl _ | apply Drawn0.step)⟩
              · have hje : j = l1.length := by omega
                subst hje
                have ham : ((l1.take l1.length).any fun a => a == id) = true := by
                  rw [List.take_length, List.any_eq_true]; exact ⟨id, hmem, beq_self_eq_true id⟩
                rw [ham]
                clear hj hjk ham
                go_wp2
                go_loopg [16, 17] ps.length (fun kq v16 v17 w' => ∃ k : Nat, v17 = .int .i64 k ∧ v16 = .int .i64 (uF (ps.take k) id 8) ∧ k + kq = ps.length ∧ Drawn0 w5 w')
                case atStart => exact ⟨0, rfl, rfl, by omega, by repeat (first | exact Drawn0.refl _ | apply Drawn0.step)⟩
                case round =>
                  obtain ⟨k, rfl, rfl, hkk, ⟨m3, rfl⟩⟩ := hrel
                  by_cases hk : k < ps.length
                  · obtain ⟨k2, rfl⟩ : ∃ k2, gk = k2 + 1 := ⟨gk - 1, by omega⟩
                    have p2 : (0 : Int) ≤ (k : Int) := by omega
                    have p3 : (k : Int) < (ps.length : Int) := by omega
                    obtain ⟨ad1, rfl, y0⟩ := Kd.at_int HC1.out (k : Int) p2 p3
                    obtain ⟨ad2, rfl, y1⟩ := Kd.at_int HC2.out (k : Int) p2 p3
                    rw [Int.toNat_natCast] at y0 y1
                    have htk : ps.take (k + 1) = ps.take k ++ [(rd (ps.map fun p => p.1) (k : Int), rd (ps.map fun p => p.2) (k : Int))] := by
                      have e1 : rd (ps.map fun p => p.1) (k : Int) = ps[k].1 := by simp [rd, List.getD, List.getElem?_eq_getElem hk]
                      have e2 : rd (ps.map fun p => p.2) (k : Int) = ps[k].2 := by simp [rd, List.getD, List.getElem?_eq_getElem hk]
                      rw [e1, e2, List.take_append_getElem]
                    generalize rd (ps.map fun p => p.1) (k : Int) = ia at y0 htk
                    generalize rd (ps.map fun p => p.2) (k : Int) = ih at y1 htk
                    have HTK2 := Aside0.mk htk
                    clear htk
                    by_cases he : ia = id
                    · have q1 : (ia == id) = true := beq_iff_eq.mpr he
                      go_wp2
                      go_roundg k2
                      case measure => omega
                      case rel => exact ⟨k + 1, by go_num, by rw [HTK2.out, uF_snoc, if_pos he], by omega, by repeat (first | exact Drawn0.refl _ | apply Drawn0.step)⟩
                    · have q1 : (ia == id) = false := beq_eq_false_iff_ne.mpr he
                      go_wp2
                      go_roundg k2
                      case measure => omega
                      case rel => exact ⟨k + 1, by go_num, by rw [HTK2.out, uF_snoc, if_neg he], by omega, by repeat (first | exact Drawn0.refl _ | apply Drawn0.step)⟩
                  · have hke : k = ps.length := by omega
                    subst hke
                    rw [List.take_length, hub]
                    have q1 : (best == best) = true := beq_self_eq_true best
                    clear hk hkk hub hmem h8
                    go_wp2_with fail
                    refine (ostlerlaw10_awake.calls true _ (HG.out.below (pw_below_drewN HB6.out m3)) rfl).mono ?_
                    rintro e w6 ⟨rfl, hb⟩
                    have HB7 := Aside0.mk ((pw_below_drewN HB6.out m3).trans (hb.mono HB6.out.size))
                    clear hb
                    go_wp2
                    go_ret
                    exact ⟨rfl, HB7.out⟩
def ostlerlaw10_PrioUrgent.f (k : Nat) (l0 : List S38) (l1 : List Int) : Option Bool :=
  if ((l0.all fun x => (Lit.int .i64 x.f1).wf && (Lit.int .i64 x.f2).wf) && ((l1.all fun x => (Lit.int .i64 x).wf) && (decide (l0.length ≤ 16777216) && decide (l1.length ≤ 16777216)))) = true then some true else none
theorem ostlerlaw10_PrioUrgent.mono : ∀ a0 a1 k, LeO (ostlerlaw10_PrioUrgent.f k a0 a1) (ostlerlaw10_PrioUrgent.f (k + 1) a0 a1) := fun _ _ _ r h => h
theorem ostlerlaw10_PrioUrgent.calls (k : Nat) (A0 : Option Addr) (c0 : Nat) (l0 : List (S38)) (A1 : Option Addr) (c1 : Nat) (l1 : List Int) (r : Bool) (w : World) (hG : GI w) (hr0 : Kd.C k38 w A0 l0.length l0) (hc0 : l0.length ≤ c0) (hr1 : Kd.C (Kd.int .i64) w A1 l1.length l1) (hc1 : l1.length ≤ c1) (h : ostlerlaw10_PrioUrgent.f k l0 l1 = some r) :
    Calls Tryd.prog 6 #[.slice A0 l0.length c0, .slice A1 l1.length c1] w fun e w' => e = .returned (.bool r) ∧ Below w.heap.size w w' := by
  unfold ostlerlaw10_PrioUrgent.f at h
  split at h
  · rename_i g
    obtain rfl := Option.some.inj h
    simp only [Bool.and_eq_true, List.all_eq_true, decide_eq_true_eq] at g
    exact urgent_walk A0 c0 l0 A1 c1 l1 w hG hr0 hr1 (fun x hx => g.1 x hx) g.2.1 g.2.2.1 g.2.2.2
  · cases h

end Go.Proofs.YtbndichleiameaaDoor.PP
