-- Written by a program of this session (a changed copy of the kit's print) out of the translation. Not trusted: Lean checks it.
import Derived.Test.YtbndichleiameaaDoorPPx0
import Derived.Test.YtbndichleiameaaDoorPPxEprioNew
import Derived.Test.YtbndichleiameaaDoorPPxEprioNew
namespace Go.Proofs.YtbndichleiameaaDoor.PP
open Go.RowKit Go.Proofs.YtbndichleiameaaDoorW.PrintWords Go.Proofs.YtbndichleiameaaDoorW.PrintLast Go.Proofs.YtbndichleiameaaDoorW.PrintMore
attribute [local go_sem] max2_int min2_int max_two min_two max_three min_three max_four min_four   -- for this text's walks alone
set_option linter.unusedVariables false
set_option linter.unusedSimpArgs false

/-! ### prio_Line_Set: function 15 (an extern) -/
/-! #### Set and Next, and what they leave of the elder blocks -/
/-- Of the elder blocks at most m has turned. -/
def Only (m : Nat) (w w' : World) : Prop := ∀ g, g < w.heap.size → g ≠ m → w'.heap[g]? = w.heap[g]?
set_option maxHeartbeats 4000000 in
set_option maxRecDepth 100000 in
theorem prio_Set_only {B b m1 m2 n : Nat} {D E : DataW Unit} {w : World} (h : LineAt B b m1 m2 n D E w) (hB : B ≤ w.heap.size) (hn : n < maxLen) (x u u' : Int) (q q' : Bool) (hx : (Lit.int .i64 x).wf = true) (hu : (Lit.int .i64 u').wf = true)
    (hk : ∀ W, Calls Tryd.prog 30 #[.agg #[.int .i64 u, .bool q]] W fun e w' => e = .returned (.agg #[.int .i64 u', .bool q']) ∧ Below W.heap.size W w') :
    Calls Tryd.prog 15 #[.pointer (some ⟨b, 0, none⟩), .int .i64 x, .agg #[.int .i64 u, .bool q]] w fun e w' => e = .returned (.tuple #[]) ∧ LineAt B b m1 m2 (n + 1) (D.put (.int .i64 x) (priD u' q')) E w' ∧ Below B w w' ∧ Only m1 w w' := by
  have hb := cell_blk h.c0
  have hm1 := h.o1.lt
  have z0 := blk_new w (.cells #[.int .i64 u, .bool q] 24)
  have hL0 := h.alloc (.cells #[.int .i64 u, .bool q] 24)
  have hB0 : Below B w (w.alloc (.cells #[.int .i64 u, .bool q] 24)) := (Below.refl B w).alloc hB _
  have hA0 : Below w.heap.size w (w.alloc (.cells #[.int .i64 u, .bool q] 24)) := below_alloc (Below.refl _ _) _
  have hs0 : w.heap.size ≤ (w.alloc (.cells #[.int .i64 u, .bool q] 24)).heap.size := by simp
  go_enter Tryd.func15, Tryd.ntmps15
  go_wp2
  obtain ⟨W0, hW0⟩ : ∃ W0, W0 = w.alloc (.cells #[.int .i64 u, .bool q] 24) := ⟨_, rfl⟩
  rw [← hW0] at z0 hL0 hB0 hs0 hA0 ⊢
  clear hW0
  have x0 := (blk_cell z0 0).trans rfl
  have x1 := (blk_cell z0 1).trans rfl
  have c0 := hL0.c0
  have hbg : w.heap.size ≠ b := by omega
  have hmg : w.heap.size ≠ m1 := by omega
  clear z0 h
  go_region_held3 (fun W => W.cell? ⟨b, 0, none⟩ = some (.map (some m1)) ∧ W.cell? ⟨w.heap.size, 0, none⟩ = some (.int .i64 u) ∧ W.cell? ⟨w.heap.size, 1, none⟩ = some (.bool q)) (first | exact ⟨c0, x0, x1⟩ | exact setS_keep (by first | assumption | exact ⟨by assumption, by assumption, by assumption⟩) (grown_of_below (by assumption) none) (by simp) (by simp) | exact setS_keep (by first | assumption | exact ⟨by assumption, by assumption, by assumption⟩) (World.mapTurned.grown (by assumption)) (by simp [hL0.e1]) (by simp [hmg])) (first | (go_at_call 30; refine (hk _).mono ?_; rintro e w2 ⟨rfl, hb2⟩; have hL2 := LineAt.below (show LineAt B b m1 m2 n D E _ from (by first | exact hL0 | exact hL0.drew | exact hL0.drew.drew)) hb2; have hB2 := (show Below B w _ from (by first | exact hB0 | exact below_drew hB0)).trans (hb2.mono (by first | exact Nat.le_trans hB hs0 | (simp; omega))); obtain ⟨w3, s1, s2, s3⟩ := hL2.store1 hn hx hu q'; obtain ⟨w4, s4, s5, s6⟩ := hL2.drew.store1 hn hx hu q'))
  go_end0
  exact ⟨rfl, s2, hL2.below1 hB2 hB s3, fun g hg hne => ((s3.grown.block g (Nat.lt_of_lt_of_le hg (Nat.le_trans hs0 hb2.size)) (by simp [hne])).trans (hb2.block g (Nat.lt_of_lt_of_le hg hs0))).trans (hA0.block g hg)⟩
set_option maxHeartbeats 8000000 in
set_option maxRecDepth 100000 in
theorem prio_Next_only {B b m1 m2 n : Nat} {D E : DataW Unit} {w : World} (h : LineAt B b m1 m2 n D E w) (hB : B ≤ w.heap.size) (hn : n < maxLen) (A : Option Addr) (c : Nat) (l : List Int) (hr : Kd.C (Kd.int .i64) w A l.length l) (hwf : ∀ a ∈ l, (Lit.int .i64 a).wf = true) (hll : l.length ≤ 140737488355328) :
    Calls Tryd.prog 16 #[.pointer (some ⟨b, 0, none⟩), .slice A l.length c] w fun e w' => e = .returned (.int .i64 (nextR D E l)) ∧ LineAt B b m1 m2 (n + 1) D (nextE D E l) w' ∧ Below B w w' ∧ Only m2 w w' := by
  have HL := Aside0.mk h
  have HR := Aside0.mk hr
  have HW := Aside0.mk hwf
  clear hr hwf
  unfold nextR nextE
  generalize hres : nextG D E l none = res
  have HRES := Aside0.mk hres
  clear hres h
  go_enter Tryd.func16, Tryd.ntmps16
  go_wp2
  go_loopg [5, 6, 16] l.length (fun kq v5 v6 v16 wr => ∃ (i : Nat) (acc : Option Int), v5 = .int .i64 (acc.getD (-1)) ∧ v6 = .bool acc.isSome ∧ v16 = .int .i64 i ∧ NextI B b m1 m2 n D E l res w kq i acc wr)
  case atStart => exact ⟨0, none, rfl, rfl, rfl, ⟨by omega, HL.out, Below.refl _ _, HRES.out, fun a e => by cases e⟩⟩
  case round =>
    clear HL HRES
    obtain ⟨i, acc, rfl, rfl, rfl, HI⟩ := hrel
    have hik := HI.len
    by_cases hlt : i < l.length
    · obtain ⟨k1, rfl⟩ : ∃ k1, gk = k1 + 1 := ⟨gk - 1, by omega⟩
      have p0 : (0 : Int) ≤ (i : Int) := by omega
      have p1 : (i : Int) < (l.length : Int) := by omega
      obtain ⟨ad, rfl, x0⟩ := Kd.at_int (Kd.C_below HR.out HI.below) (i : Int) p0 p1
      rw [Int.toNat_natCast] at x0
      have hd : l.drop i = rd l i :: l.drop (i + 1) := by
        rw [List.drop_eq_getElem_cons hlt]; simp [rd, List.getD, List.getElem?_eq_getElem hlt]
      have hmem : rd l i ∈ l := by
        have : rd l i ∈ l.drop i := by rw [hd]; exact List.mem_cons_self ..
        exact List.mem_of_mem_drop this
      have hgo := HI.go
      rw [hd, nextG] at hgo
      have hid := HW.out _ hmem
      generalize rd l (i : Int) = id at x0 hgo hid
      obtain ⟨_, t1, _⟩ := HI.line.look1 hid
      have hL1 := HI.line.alloc (.cells #[.int .i64 (pAt D id).1, .bool (pAt D id).2] 24)
      have hb1 := below_alloc HI.below (.cells #[.int .i64 (pAt D id).1, .bool (pAt D id).2] 24)
      have hwa := HI.wf
      have c0 := HI.line.c0
      generalize pAt D id = px at t1 hL1 hb1
      obtain ⟨u1, q1⟩ := px
      dsimp only at t1 hL1 hb1
      clear hd hmem HI
      by_cases hh : hAt D id = true
      · rw [if_pos hh] at hgo
        rw [hh] at t1
        cases acc with
        | none =>
          have hF := prio_first_calls hL1 id id hid hid
          have hfw : ∀ a, some (firstF D E id id) = some a → (Lit.int .i64 a).wf = true := by
            intro a e
            obtain rfl := Option.some.inj e
            rcases firstF_or D E id id with h | h <;> rw [h] <;> exact hid
          dsimp only [Option.getD] at hgo
          clear hh hwa
          have HL1 := Aside0.mk hL1; have HB1 := Aside0.mk hb1; have HG := Aside0.mk hgo; have HF := Aside0.mk hF; have HFW := Aside0.mk hfw
          clear hL1 hb1 hgo hF hfw
          go_wp2_with (go_at_call 33; refine HF.out.mono ?_; rintro e w2 ⟨rfl, hb2⟩)
          go_roundg k1
          case measure => omega
          case rel => exact ⟨i + 1, some _, rfl, rfl, by go_num, ⟨by omega, HL1.out.below hb2, HB1.out.trans (hb2.mono HB1.out.size), HG.out, HFW.out⟩⟩
        | some b0 =>
          have hb0 := hwa b0 rfl
          have hF := prio_first_calls hL1 b0 id hb0 hid
          have hfw : ∀ a, some (firstF D E b0 id) = some a → (Lit.int .i64 a).wf = true := by
            intro a e
            obtain rfl := Option.some.inj e
            rcases firstF_or D E b0 id with h | h <;> rw [h] <;> assumption
          dsimp only [Option.getD] at hgo
          clear hh hwa hb0
          have HL1 := Aside0.mk hL1; have HB1 := Aside0.mk hb1; have HG := Aside0.mk hgo; have HF := Aside0.mk hF; have HFW := Aside0.mk hfw
          clear hL1 hb1 hgo hF hfw
          go_wp2_with (go_at_call 33; refine HF.out.mono ?_; rintro e w2 ⟨rfl, hb2⟩)
          go_roundg k1
          case measure => omega
          case rel => exact ⟨i + 1, some _, rfl, rfl, by go_num, ⟨by omega, HL1.out.below hb2, HB1.out.trans (hb2.mono HB1.out.size), HG.out, HFW.out⟩⟩
      · rw [if_neg hh] at hgo
        have hh' := Bool.eq_false_iff.2 hh
        rw [hh'] at t1
        have HL1 := Aside0.mk hL1; have HB1 := Aside0.mk hb1; have HG := Aside0.mk hgo; have HWA := Aside0.mk hwa
        clear hL1 hb1 hgo hwa hh hh'
        go_wp2
        go_roundg k1
        case measure => omega
        case rel => exact ⟨i + 1, acc, rfl, rfl, by go_num, ⟨by omega, HL1.out, HB1.out, HG.out, HWA.out⟩⟩
    · have hie : i = l.length := by omega
      subst hie
      have hgo := HI.go
      rw [List.drop_length, nextG] at hgo
      subst hgo
      have hwa := HI.wf
      have hbw : (Lit.int .i64 (acc.getD (-1))).wf = true := by
        cases acc with
        | none => decide
        | some a => exact hwa a rfl
      obtain ⟨t1, _, hw1⟩ := HI.line.look1 hbw
      have hL1 := HI.line.alloc (.cells #[.int .i64 (pAt D (acc.getD (-1))).1, .bool (pAt D (acc.getD (-1))).2] 24)
      have hb1 := below_alloc HI.below (.cells #[.int .i64 (pAt D (acc.getD (-1))).1, .bool (pAt D (acc.getD (-1))).2] 24)
      have c0 := HI.line.c0
      have z0 := blk_new wr (.cells #[.int .i64 (pAt D (acc.getD (-1))).1, .bool (pAt D (acc.getD (-1))).2] 24)
      have e2 : acc.isSome = true → endE D E acc = if (pAt D (acc.getD (-1))).2 = true then E.put (.int .i64 (pAt D (acc.getD (-1))).1) (.lit (.int .i64 (acc.getD (-1)))) else E := by
        intro e; cases acc with
        | none => cases e
        | some a => rfl
      have e3 : acc.isSome = false → endE D E acc = E := by
        intro e; cases acc with
        | none => rfl
        | some a => cases e
      obtain ⟨u1, q1, hpx⟩ : ∃ u1 q1, pAt D (acc.getD (-1)) = (u1, q1) := ⟨_, _, rfl⟩
      rw [hpx] at t1 hL1 hb1 z0 e2 hw1
      obtain ⟨best, hacc⟩ : ∃ best, acc.getD (-1) = best := ⟨_, rfl⟩
      rw [hacc] at t1 e2 hbw
      rw [hacc]
      obtain ⟨sm, hsm⟩ : ∃ sm, acc.isSome = sm := ⟨_, rfl⟩
      rw [hsm] at e2 e3
      rw [hsm]
      dsimp only at t1 hL1 hb1 z0 e2 hw1
      have hs1 : B ≤ wr.heap.size := Nat.le_trans hB HI.below.size
      have hON : Only m2 w (wr.alloc (.cells #[.int .i64 u1, .bool q1] 24)) := fun g hg _ => hb1.block g hg
      have hBB : Below B w (wr.alloc (.cells #[.int .i64 u1, .bool q1] 24)) := hb1.mono hB
      have ht : ∃ w3 w4, ((Instr.mapUpdate 59 (.map (some m2)) (.int .i64 u1) (.int .i64 best)).run Tryd.prog (wr.alloc (.cells #[.int .i64 u1, .bool q1] 24)) = .ok () w3 ∧ LineAt B b m1 m2 (n + 1) D (E.put (.int .i64 u1) (.lit (.int .i64 best))) w3 ∧ Below B w w3 ∧ w3.cell? ⟨b, 1, none⟩ = some (.map (some m2)) ∧ w3.cell? ⟨wr.heap.size, 0, none⟩ = some (.int .i64 u1) ∧ Only m2 w w3) ∧
          ((Instr.mapUpdate 59 (.map (some m2)) (.int .i64 u1) (.int .i64 best)).run Tryd.prog (wr.alloc (.cells #[.int .i64 u1, .bool q1] 24)).drew = .ok () w4 ∧ LineAt B b m1 m2 (n + 1) D (E.put (.int .i64 u1) (.lit (.int .i64 best))) w4 ∧ Below B w w4 ∧ w4.cell? ⟨b, 1, none⟩ = some (.map (some m2)) ∧ w4.cell? ⟨wr.heap.size, 0, none⟩ = some (.int .i64 u1) ∧ Only m2 w w4) := by
        obtain ⟨w3, s1, s2, s3⟩ := hL1.store2 hn hw1 hbw
        obtain ⟨w4, s4, s5, s6⟩ := hL1.drew.store2 hn hw1 hbw
        have hm2 := HI.line.o2.lt
        have hne : some wr.heap.size ≠ some m2 := by simp; omega
        exact ⟨w3, w4, ⟨s1, s2, hL1.below2 hBB hB s3, s2.c1, cell_g s3.grown hne ((blk_cell z0 0).trans rfl), fun g hg hn2 => (s3.grown.block g (Nat.lt_of_lt_of_le hg hb1.size) (by simp [hn2])).trans (hb1.block g hg)⟩, ⟨s4, s5, hL1.drew.below2 (below_drew hBB) hB s6, s5.c1, cell_g s6.grown hne ((blk_cell (blk_drew z0) 0).trans rfl), fun g hg hn2 => (s6.grown.block g (Nat.lt_of_lt_of_le hg hb1.size) (by simp [hn2])).trans (hb1.block g hg)⟩⟩
      obtain ⟨w3, w4, ⟨s1, s2, s3, s4, s5, s6⟩, ⟨r1, r2, r3, r4, r5, r6⟩⟩ := ht
      have y0 := (blk_cell z0 0).trans rfl
      have y1 := (blk_cell z0 1).trans rfl
      have c1 := hL1.c1
      have HL1 := Aside0.mk hL1; have HBB := Aside0.mk hBB; have HS2 := Aside0.mk s2; have HS3 := Aside0.mk s3; have HR2 := Aside0.mk r2; have HR3 := Aside0.mk r3; have HON := Aside0.mk hON; have HS6 := Aside0.mk s6; have HR6 := Aside0.mk r6
      clear hL1 hb1 z0 hBB s2 s3 r2 r3 s6 r6 hON HI hwa hpx hsm hbw hw1 HR HW
      have HE2 := Aside0.mk e2; have HE3 := Aside0.mk e3; have HA := Aside0.mk hacc
      clear e2 e3 hacc
      cases sm with
      | false =>
        have HE := Aside0.mk (HE3.out rfl)
        clear HE2 HE3
        go_wp2
        go_ret
        exact ⟨by rw [HA.out]; rfl, by rw [HE.out]; exact ⟨HL1.out.c0, HL1.out.c1, HL1.out.o1.mono (Nat.le_succ n), HL1.out.o2.mono (Nat.le_succ n), HL1.out.lb, HL1.out.l1, HL1.out.l2, HL1.out.e1, HL1.out.e2, HL1.out.e3⟩, HBB.out, HON.out⟩
      | true =>
        cases q1 with
        | false =>
          have HE := Aside0.mk ((HE2.out rfl).trans (if_neg (by simp)))
          clear HE2 HE3
          go_wp2
          go_ret
          exact ⟨by rw [HA.out]; rfl, by rw [HE.out]; exact ⟨HL1.out.c0, HL1.out.c1, HL1.out.o1.mono (Nat.le_succ n), HL1.out.o2.mono (Nat.le_succ n), HL1.out.lb, HL1.out.l1, HL1.out.l2, HL1.out.e1, HL1.out.e2, HL1.out.e3⟩, HBB.out, HON.out⟩
        | true =>
          have HE := Aside0.mk ((HE2.out rfl).trans (if_pos rfl))
          clear HE2 HE3
          go_wp2
          go_region_held3 (fun W => W.cell? ⟨b, 1, none⟩ = some (.map (some m2)) ∧ W.cell? ⟨wr.heap.size, 0, none⟩ = some (.int .i64 u1)) (first | exact ⟨c1, y0⟩ | exact ⟨s4, s5⟩ | exact ⟨r4, r5⟩) (fail)
          all_goals clear t1 s1 r1
          all_goals go_wp2
          all_goals go_ret
          all_goals exact ⟨by rw [HA.out]; rfl, by rw [HE.out]; first | exact HS2.out | exact HR2.out, by first | exact HS3.out | exact HR3.out, by first | exact HS6.out | exact HR6.out⟩
def clampI (u : Int) : Int := mx 0 (mn 7 u)
theorem clampI_range (u : Int) : 0 ≤ clampI u ∧ clampI u ≤ 7 := by unfold clampI mn mx; (repeat' split) <;> omega
theorem clampI_wf (u : Int) : (Lit.int .i64 (clampI u)).wf = true := by
  obtain ⟨h0, h7⟩ := clampI_range u
  have key : ∀ n : Fin 8, (Lit.int .i64 (n.val : Int)).wf = true := by decide
  have := key ⟨(clampI u).toNat, by omega⟩
  rwa [show (((⟨(clampI u).toNat, by omega⟩ : Fin 8).val : Nat) : Int) = clampI u by show (((clampI u).toNat : Nat) : Int) = _; omega] at this
theorem cell_b {B : Nat} {w w' : World} {a : Addr} {v : Value} (h : Below B w w') (hq : a.block < B) (hc : w.cell? a = some v) : w'.cell? a = some v := (h.cell hq).trans hc
theorem I_keep {w w1 : World} {base : Nat} {ok : Nat → Prop} {v : Value} {xs : List Int} (h : (Kd.int .i64).R 3 w base ok v xs) (hm : ∀ k, v.ownBlock = some k → k < w.heap.size → w1.heap[k]? = w.heap[k]?) : (Kd.int .i64).R 3 w1 base ok v xs :=
  Kd.R_of_own (own_move (Kd.own_of_R h) (fun k hk => hm k hk (own_lt (Kd.own_of_R h) k hk))) h.1
def okI (b m1 m2 : Nat) (k : Nat) : Prop := k ≠ b ∧ k ≠ m1 ∧ k ≠ m2

end Go.Proofs.YtbndichleiameaaDoor.PP
