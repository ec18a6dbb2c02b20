-- Written by a program of this session (a changed copy of the kit's print) out of the translation. Not trusted: Lean checks it.
import Derived.Test.YtbmedennhjenhaaDoorPPx0
import Derived.Test.YtbmedennhjenhaaDoorPPx3
import Derived.Test.YtbmedennhjenhaaDoorPPx5
import Derived.Test.YtbmedennhjenhaaDoorPPxEtextLower
import Derived.Test.YtbmedennhjenhaaDoorPPx7
import Derived.Test.YtbmedennhjenhaaDoorPPx13
namespace Go.Proofs.YtbmedennhjenhaaDoor.PP
open Go.RowKit Go.Proofs.YtbmedennhjenhaaDoorW.PrintWords Go.Proofs.YtbmedennhjenhaaDoorW.PrintLast Go.Proofs.YtbmedennhjenhaaDoorW.PrintMore
attribute [local go_sem] max2_int min2_int max_two min_two max_three min_three max_four min_four   -- for this text's walks alone
set_option linter.unusedVariables false
set_option linter.unusedSimpArgs false

/-! ### ostlerlaw01_TextKeeps: function 10 -/
def ostlerlaw01_TextKeeps.j0 : Nat → ByteArray → ByteArray → ByteArray → Bool → Option (Bool)
  | 0, _, _, _, _ => none
  | k + 1, x0, x3, x4, x25 => if x25 = true then (some false) else ((ostlerlaw01_awake.f k).bind fun t379 => (if t379 = true then (if (x3.size : Int) = (x0.size : Int) then ((text_Lower.f x3).bind fun t380 => (if t380.toList = x3.toList then ((text_Same.f x0 x3).bind fun t381 => (if t381 = true then ((text_Trim.f x4).bind fun t382 => (if t382.toList = x4.toList then ((text_Token.f k x0).bind fun t383 => ((text_Token.f k x3).bind fun t384 => (some (t383 == t384)))) else (some false))) else (some false))) else (some false))) else (some false)) else (some false)))
def ostlerlaw01_TextKeeps.f (k : Nat) (a0 : ByteArray) : Option (Bool) := (text_Lower.f a0).bind fun t374 => ((text_Trim.f a0).bind fun t375 => ((text_Token.f k a0).bind fun t376 => (if t376 = true then ((text_Value.f k a0).bind fun t377 => (if t377 = true then ((text_Token.f k t374).bind fun t378 => (if t378 = true then (ostlerlaw01_TextKeeps.j0 k a0 t374 t375 (t375.toList != a0.toList)) else (ostlerlaw01_TextKeeps.j0 k a0 t374 t375 true))) else (ostlerlaw01_TextKeeps.j0 k a0 t374 t375 true))) else (ostlerlaw01_TextKeeps.j0 k a0 t374 t375 false))))
theorem ostlerlaw01_TextKeeps.mono_l : ∀ k, (∀ y0 y1 y2 y3, LeO (ostlerlaw01_TextKeeps.j0 k y0 y1 y2 y3) (ostlerlaw01_TextKeeps.j0 (k + 1) y0 y1 y2 y3))
  | 0 => fun _ _ _ _ r h => by simp [ostlerlaw01_TextKeeps.j0] at h
  | k + 1 => by
    have ih0 := ostlerlaw01_TextKeeps.mono_l k
    · intro y0 y1 y2 y3
      unfold ostlerlaw01_TextKeeps.j0
      repeat' first
      | (with_reducible exact ih0 _ _ _ _)
      | (with_reducible exact ostlerlaw01_awake.mono _)
      | (with_reducible exact text_Token.mono _ _)
      | (with_reducible exact text_Value.mono _ _)
      | (with_reducible exact LeO.refl _)
      | (with_reducible exact LeO.none _)
      | (with_reducible refine LeO.ite ?_ ?_)
      | (with_reducible refine LeO.bind ?_ (fun _ => ?_))
      | exact ih0 _ _ _ _
      | exact ostlerlaw01_awake.mono _
      | exact text_Token.mono _ _
      | exact text_Value.mono _ _
      | exact LeO.none _
      | refine LeO.ite ?_ ?_
      | refine LeO.bind ?_ (fun _ => ?_)
theorem ostlerlaw01_TextKeeps.mono : ∀ a0 k, LeO (ostlerlaw01_TextKeeps.f k a0) (ostlerlaw01_TextKeeps.f (k + 1) a0) := by
  intro a0 k
  have ih0 := ostlerlaw01_TextKeeps.mono_l k
  unfold ostlerlaw01_TextKeeps.f
  repeat' first
      | (with_reducible exact ih0 _ _ _ _)
      | (with_reducible exact ostlerlaw01_awake.mono _)
      | (with_reducible exact text_Token.mono _ _)
      | (with_reducible exact text_Value.mono _ _)
      | (with_reducible exact LeO.refl _)
      | (with_reducible exact LeO.none _)
      | (with_reducible refine LeO.ite ?_ ?_)
      | (with_reducible refine LeO.bind ?_ (fun _ => ?_))
      | exact ih0 _ _ _ _
      | exact ostlerlaw01_awake.mono _
      | exact text_Token.mono _ _
      | exact text_Value.mono _ _
      | exact LeO.none _
      | refine LeO.ite ?_ ?_
      | refine LeO.bind ?_ (fun _ => ?_)
set_option maxHeartbeats 8000000 in
set_option maxRecDepth 100000 in
theorem ostlerlaw01_TextKeeps.calls (k : Nat) (a0 : ByteArray) (r : Bool) (w : World) (hG : GI w) (h : ostlerlaw01_TextKeeps.f k a0 = some r) :
    Calls Tryd.prog 10 #[.string a0] w fun e w' => e = .returned (.bool r) ∧ Below w.heap.size w w' := by
  have HB := Aside0.mk (Below.refl w.heap.size w)
  have HG := Aside0.mk hG
  clear hG
  have H : ((text_Lower.f a0).bind fun t374 => ((text_Trim.f a0).bind fun t375 => ((text_Token.f k a0).bind fun t376 => (if t376 = true then ((text_Value.f k a0).bind fun t377 => (if t377 = true then ((text_Token.f k t374).bind fun t378 => (if t378 = true then (ostlerlaw01_TextKeeps.j0 k a0 t374 t375 (t375.toList != a0.toList)) else (ostlerlaw01_TextKeeps.j0 k a0 t374 t375 true))) else (ostlerlaw01_TextKeeps.j0 k a0 t374 t375 true))) else (ostlerlaw01_TextKeeps.j0 k a0 t374 t375 false))))) = some r := h
  clear h
  replace H := Option.bind_eq_some_iff.mp H
  obtain ⟨t374, A20, H⟩ := H
  replace H : ((text_Trim.f a0).bind fun t375 => ((text_Token.f k a0).bind fun t376 => (if t376 = true then ((text_Value.f k a0).bind fun t377 => (if t377 = true then ((text_Token.f k t374).bind fun t378 => (if t378 = true then (ostlerlaw01_TextKeeps.j0 k a0 t374 t375 (t375.toList != a0.toList)) else (ostlerlaw01_TextKeeps.j0 k a0 t374 t375 true))) else (ostlerlaw01_TextKeeps.j0 k a0 t374 t375 true))) else (ostlerlaw01_TextKeeps.j0 k a0 t374 t375 false)))) = some r := H
  have A2 := Aside0.mk A20
  clear A20
  replace H := Option.bind_eq_some_iff.mp H
  obtain ⟨t375, A30, H⟩ := H
  replace H : ((text_Token.f k a0).bind fun t376 => (if t376 = true then ((text_Value.f k a0).bind fun t377 => (if t377 = true then ((text_Token.f k t374).bind fun t378 => (if t378 = true then (ostlerlaw01_TextKeeps.j0 k a0 t374 t375 (t375.toList != a0.toList)) else (ostlerlaw01_TextKeeps.j0 k a0 t374 t375 true))) else (ostlerlaw01_TextKeeps.j0 k a0 t374 t375 true))) else (ostlerlaw01_TextKeeps.j0 k a0 t374 t375 false))) = some r := H
  have A3 := Aside0.mk A30
  clear A30
  have HC4 := Aside0.mk H
  clear H
  go_enter Tryd.func10, Tryd.ntmps10
  go_upto_region 3 with (first | ((with_reducible refine gate_callee (f := 16) rfl ?_); refine goesL_ (some 6) rfl rfl Tryd.func16 (by kernel_rfl) rfl #[.string a0] rfl (by (try simp only [List.map_toArray, List.map_cons, List.map_nil]); first | done | rfl | (simp only [List.length_drop, List.length_take]; rfl)) ?_; (with_reducible refine (text_Lower.calls a0 t374 _ A2.out).mono ?_); rintro e w5 ⟨rfl, hb⟩; refine ⟨_, rfl, ?_⟩; have n0_ := Aside0.mk (below_step (by repeat (first | (with_reducible first | exact HB.out | apply below_alloc | apply pw_below_drewN | apply below_drew1) | exact HB.out)) hb); clear HB; have HB := n0_; clear n0_; (try clear hb); (try clear hb2); (try clear hk); (try clear hi)) | ((with_reducible refine gate_callee (f := 20) rfl ?_); refine goesL_ (some 8) rfl rfl Tryd.func20 (by kernel_rfl) rfl #[.string a0] rfl (by (try simp only [List.map_toArray, List.map_cons, List.map_nil]); first | done | rfl | (simp only [List.length_drop, List.length_take]; rfl)) ?_; (with_reducible refine (text_Trim.calls a0 t375 _ A3.out).mono ?_); rintro e w6 ⟨rfl, hb⟩; refine ⟨_, rfl, ?_⟩; have n0_ := Aside0.mk (below_step (by repeat (first | (with_reducible first | exact HB.out | apply below_alloc | apply pw_below_drewN | apply below_drew1) | exact HB.out)) hb); clear HB; have HB := n0_; clear n0_; (try clear hb); (try clear hb2); (try clear hk); (try clear hi)))
  (try simp only [Act.put, List.setIfInBounds_toArray, List.set_cons_zero, List.set_cons_succ])
  go_cut [25] (fun v25 wc => ∃ (kq : Nat) (x25_3 : Bool), v25 = .bool x25_3 ∧ Aside0 (ostlerlaw01_TextKeeps.j0 kq a0 t374 t375 x25_3 = some r) ∧ Aside0 (kq ≤ k) ∧ Aside0 (Below w.heap.size w wc))
  case first =>
    have H := HC4.out
    clear HC4
    replace H := Option.bind_eq_some_iff.mp H
    obtain ⟨t376, A70, H⟩ := H
    replace H : (if t376 = true then ((text_Value.f k a0).bind fun t377 => (if t377 = true then ((text_Token.f k t374).bind fun t378 => (if t378 = true then (ostlerlaw01_TextKeeps.j0 k a0 t374 t375 (t375.toList != a0.toList)) else (ostlerlaw01_TextKeeps.j0 k a0 t374 t375 true))) else (ostlerlaw01_TextKeeps.j0 k a0 t374 t375 true))) else (ostlerlaw01_TextKeeps.j0 k a0 t374 t375 false)) = some r := H
    have A7 := Aside0.mk A70
    clear A70
    by_cases c8 : t376 = true
    · subst c8
      have H1 : ((text_Value.f k a0).bind fun t377 => (if t377 = true then ((text_Token.f k t374).bind fun t378 => (if t378 = true then (ostlerlaw01_TextKeeps.j0 k a0 t374 t375 (t375.toList != a0.toList)) else (ostlerlaw01_TextKeeps.j0 k a0 t374 t375 true))) else (ostlerlaw01_TextKeeps.j0 k a0 t374 t375 true))) = some r := by rw [if_pos rfl] at H; exact H
      clear H
      have H := H1
      clear H1
      replace H := Option.bind_eq_some_iff.mp H
      obtain ⟨t377, A90, H⟩ := H
      replace H : (if t377 = true then ((text_Token.f k t374).bind fun t378 => (if t378 = true then (ostlerlaw01_TextKeeps.j0 k a0 t374 t375 (t375.toList != a0.toList)) else (ostlerlaw01_TextKeeps.j0 k a0 t374 t375 true))) else (ostlerlaw01_TextKeeps.j0 k a0 t374 t375 true)) = some r := H
      have A9 := Aside0.mk A90
      clear A90
      by_cases c10 : t377 = true
      · subst c10
        have H1 : ((text_Token.f k t374).bind fun t378 => (if t378 = true then (ostlerlaw01_TextKeeps.j0 k a0 t374 t375 (t375.toList != a0.toList)) else (ostlerlaw01_TextKeeps.j0 k a0 t374 t375 true))) = some r := by rw [if_pos rfl] at H; exact H
        clear H
        have H := H1
        clear H1
        replace H := Option.bind_eq_some_iff.mp H
        obtain ⟨t378, A110, H⟩ := H
        replace H : (if t378 = true then (ostlerlaw01_TextKeeps.j0 k a0 t374 t375 (t375.toList != a0.toList)) else (ostlerlaw01_TextKeeps.j0 k a0 t374 t375 true)) = some r := H
        have A11 := Aside0.mk A110
        clear A110
        by_cases c12 : t378 = true
        · subst c12
          have H1 : (ostlerlaw01_TextKeeps.j0 k a0 t374 t375 (t375.toList != a0.toList)) = some r := by rw [if_pos rfl] at H; exact H
          clear H
          have H := H1
          clear H1
          have H' := Aside0.mk H
          clear H
          go_wp2_with (first | ((with_reducible refine gate_callee (f := 12) rfl ?_); refine goesL_ (some 10) rfl rfl Tryd.func12 (by kernel_rfl) rfl #[.string a0] rfl (by (try simp only [List.map_toArray, List.map_cons, List.map_nil]); first | done | rfl | (simp only [List.length_drop, List.length_take]; rfl)) ?_; (with_reducible refine (text_Token.calls k a0 true _ A7.out).mono ?_); rintro e w' ⟨rfl, ⟨nd, rfl⟩⟩; refine ⟨_, rfl, ?_⟩) | (go_at_call 14; (with_reducible refine (text_Value.calls k a0 true _ A9.out).mono ?_); rintro e w13 ⟨rfl, hb⟩; have n0_ := Aside0.mk (below_step (by repeat (first | (with_reducible first | exact HB.out | apply below_alloc | apply pw_below_drewN | apply below_drew1) | exact HB.out)) hb); clear HB; have HB := n0_; clear n0_; (try clear hb); (try clear hb2); (try clear hk); (try clear hi)) | (go_at_call 12; (with_reducible refine (text_Token.calls k t374 true _ A11.out).mono ?_); rintro e w' ⟨rfl, ⟨nd, rfl⟩⟩))
          go_meet
          case rel => exact ⟨_, ((t375.toList != a0.toList)), (by first | rfl | (simp; done) | (simp [*]; done) | (simp [bne_nil_]; done)), H', ⟨by first | omega | exact Nat.le_refl _⟩, ⟨by repeat (first | (with_reducible first | exact HB.out | apply below_alloc | apply pw_below_drewN | apply below_drew1) | exact HB.out)⟩⟩
        · replace c12 := Bool.eq_false_iff.mpr c12
          subst c12
          have H1 : (ostlerlaw01_TextKeeps.j0 k a0 t374 t375 true) = some r := by rw [if_neg (show ¬ (false = true) by decide)] at H; exact H
          clear H
          have H := H1
          clear H1
          have H' := Aside0.mk H
          clear H
          go_wp2_with (first | ((with_reducible refine gate_callee (f := 12) rfl ?_); refine goesL_ (some 10) rfl rfl Tryd.func12 (by kernel_rfl) rfl #[.string a0] rfl (by (try simp only [List.map_toArray, List.map_cons, List.map_nil]); first | done | rfl | (simp only [List.length_drop, List.length_take]; rfl)) ?_; (with_reducible refine (text_Token.calls k a0 true _ A7.out).mono ?_); rintro e w' ⟨rfl, ⟨nd, rfl⟩⟩; refine ⟨_, rfl, ?_⟩) | (go_at_call 14; (with_reducible refine (text_Value.calls k a0 true _ A9.out).mono ?_); rintro e w14 ⟨rfl, hb⟩; have n0_ := Aside0.mk (below_step (by repeat (first | (with_reducible first | exact HB.out | apply below_alloc | apply pw_below_drewN | apply below_drew1) | exact HB.out)) hb); clear HB; have HB := n0_; clear n0_; (try clear hb); (try clear hb2); (try clear hk); (try clear hi)) | (go_at_call 12; (with_reducible refine (text_Token.calls k t374 false _ A11.out).mono ?_); rintro e w' ⟨rfl, ⟨nd, rfl⟩⟩))
          go_meet
          case rel => exact ⟨_, (true), (by first | rfl | (simp; done) | (simp [*]; done) | (simp [bne_nil_]; done)), H', ⟨by first | omega | exact Nat.le_refl _⟩, ⟨by repeat (first | (with_reducible first | exact HB.out | apply below_alloc | apply pw_below_drewN | apply below_drew1) | exact HB.out)⟩⟩
      · replace c10 := Bool.eq_false_iff.mpr c10
        subst c10
        have H1 : (ostlerlaw01_TextKeeps.j0 k a0 t374 t375 true) = some r := by rw [if_neg (show ¬ (false = true) by decide)] at H; exact H
        clear H
        have H := H1
        clear H1
        have H' := Aside0.mk H
        clear H
        go_wp2_with (first | ((with_reducible refine gate_callee (f := 12) rfl ?_); refine goesL_ (some 10) rfl rfl Tryd.func12 (by kernel_rfl) rfl #[.string a0] rfl (by (try simp only [List.map_toArray, List.map_cons, List.map_nil]); first | done | rfl | (simp only [List.length_drop, List.length_take]; rfl)) ?_; (with_reducible refine (text_Token.calls k a0 true _ A7.out).mono ?_); rintro e w' ⟨rfl, ⟨nd, rfl⟩⟩; refine ⟨_, rfl, ?_⟩) | (go_at_call 14; (with_reducible refine (text_Value.calls k a0 false _ A9.out).mono ?_); rintro e w15 ⟨rfl, hb⟩; have n0_ := Aside0.mk (below_step (by repeat (first | (with_reducible first | exact HB.out | apply below_alloc | apply pw_below_drewN | apply below_drew1) | exact HB.out)) hb); clear HB; have HB := n0_; clear n0_; (try clear hb); (try clear hb2); (try clear hk); (try clear hi)))
        go_meet
        case rel => exact ⟨_, (true), (by first | rfl | (simp; done) | (simp [*]; done) | (simp [bne_nil_]; done)), H', ⟨by first | omega | exact Nat.le_refl _⟩, ⟨by repeat (first | (with_reducible first | exact HB.out | apply below_alloc | apply pw_below_drewN | apply below_drew1) | exact HB.out)⟩⟩
    · replace c8 := Bool.eq_false_iff.mpr c8
      subst c8
      have H1 : (ostlerlaw01_TextKeeps.j0 k a0 t374 t375 false) = some r := by rw [if_neg (show ¬ (false = true) by decide)] at H; exact H
      clear H
      have H := H1
      clear H1
      have H' := Aside0.mk H
      clear H
      go_wp2_with (first | ((with_reducible refine gate_callee (f := 12) rfl ?_); refine goesL_ (some 10) rfl rfl Tryd.func12 (by kernel_rfl) rfl #[.string a0] rfl (by (try simp only [List.map_toArray, List.map_cons, List.map_nil]); first | done | rfl | (simp only [List.length_drop, List.length_take]; rfl)) ?_; (with_reducible refine (text_Token.calls k a0 false _ A7.out).mono ?_); rintro e w' ⟨rfl, ⟨nd, rfl⟩⟩; refine ⟨_, rfl, ?_⟩))
      go_meet
      case rel => exact ⟨_, (false), (by first | rfl | (simp; done) | (simp [*]; done) | (simp [bne_nil_]; done)), H', ⟨by first | omega | exact Nat.le_refl _⟩, ⟨by repeat (first | (with_reducible first | exact HB.out | apply below_alloc | apply pw_below_drewN | apply below_drew1) | exact HB.out)⟩⟩
  case rest =>
    clear HC4
    try clear c1
    try clear c2
    try clear p2
    try clear c8
    try clear c10
    try clear c12
    obtain ⟨kq, x25_3, rfl, HA, HJ3, HB⟩ := hcut
    cases kq with
    | zero => exact absurd HA.out (by simp [ostlerlaw01_TextKeeps.j0])
    | succ kj3 =>
      have H := HA.out
      clear HA
      simp only [ostlerlaw01_TextKeeps.j0] at H
      by_cases c16 : x25_3 = true
      · subst c16
        have H1 : (some false) = some r := by rw [if_pos rfl] at H; exact H
        clear H
        have H := H1
        clear H1
        obtain rfl := Option.some.inj H
        go_wp2
        go_ret
        exact ⟨by first | rfl | (simp [errW_none, errW_some] <;> rfl) | (simp [*, errW_none, errW_some] <;> rfl), by repeat (first | (with_reducible first | exact HB.out | apply below_alloc | apply pw_below_drewN | apply below_drew1) | exact HB.out)⟩
      · replace c16 := Bool.eq_false_iff.mpr c16
        subst c16
        have H1 : ((ostlerlaw01_awake.f kj3).bind fun t379 => (if t379 = true then (if (t374.size : Int) = (a0.size : Int) then ((text_Lower.f t374).bind fun t380 => (if t380.toList = t374.toList then ((text_Same.f a0 t374).bind fun t381 => (if t381 = true then ((text_Trim.f t375).bind fun t382 => (if t382.toList = t375.toList then ((text_Token.f kj3 a0).bind fun t383 => ((text_Token.f kj3 t374).bind fun t384 => (some (t383 == t384)))) else (some false))) else (some false))) else (some false))) else (some false)) else (some false))) = some r := by rw [if_neg (show ¬ (false = true) by decide)] at H; exact H
        clear H
        have H := H1
        clear H1
        replace H := Option.bind_eq_some_iff.mp H
        obtain ⟨t379, A170, H⟩ := H
        replace H : (if t379 = true then (if (t374.size : Int) = (a0.size : Int) then ((text_Lower.f t374).bind fun t380 => (if t380.toList = t374.toList then ((text_Same.f a0 t374).bind fun t381 => (if t381 = true then ((text_Trim.f t375).bind fun t382 => (if t382.toList = t375.toList then ((text_Token.f kj3 a0).bind fun t383 => ((text_Token.f kj3 t374).bind fun t384 => (some (t383 == t384)))) else (some false))) else (some false))) else (some false))) else (some false)) else (some false)) = some r := H
        have A17 := Aside0.mk A170
        clear A170
        by_cases c18 : t379 = true
        · subst c18
          have H1 : (if (t374.size : Int) = (a0.size : Int) then ((text_Lower.f t374).bind fun t380 => (if t380.toList = t374.toList then ((text_Same.f a0 t374).bind fun t381 => (if t381 = true then ((text_Trim.f t375).bind fun t382 => (if t382.toList = t375.toList then ((text_Token.f kj3 a0).bind fun t383 => ((text_Token.f kj3 t374).bind fun t384 => (some (t383 == t384)))) else (some false))) else (some false))) else (some false))) else (some false)) = some r := by rw [if_pos rfl] at H; exact H
          clear H
          have H := H1
          clear H1
          by_cases c19 : (t374.size : Int) = (a0.size : Int)
          · rw [if_pos c19] at H
            have c19b0 : ((t374.size : Int) == (a0.size : Int)) = true := beq_iff_eq.mpr c19
            have c19b1 : ((t374.size : Int) != (a0.size : Int)) = false := bne_eq_false_iff_eq.mpr c19
            have c19b2 : (t374.size == a0.size) = true := by first | simpa using c19 | (simp at c19 ⊢; omega)
            clear c19
            replace H := Option.bind_eq_some_iff.mp H
            obtain ⟨t380, A200, H⟩ := H
            replace H : (if t380.toList = t374.toList then ((text_Same.f a0 t374).bind fun t381 => (if t381 = true then ((text_Trim.f t375).bind fun t382 => (if t382.toList = t375.toList then ((text_Token.f kj3 a0).bind fun t383 => ((text_Token.f kj3 t374).bind fun t384 => (some (t383 == t384)))) else (some false))) else (some false))) else (some false)) = some r := H
            have A20 := Aside0.mk A200
            clear A200
            by_cases c21 : t380.toList = t374.toList
            · rw [if_pos c21] at H
              have c21b0 : (t380.toList == t374.toList) = true := beq_iff_eq.mpr c21
              have c21b1 : (t380.toList != t374.toList) = false := bne_eq_false_iff_eq.mpr c21
              clear c21
              replace H := Option.bind_eq_some_iff.mp H
              obtain ⟨t381, A220, H⟩ := H
              replace H : (if t381 = true then ((text_Trim.f t375).bind fun t382 => (if t382.toList = t375.toList then ((text_Token.f kj3 a0).bind fun t383 => ((text_Token.f kj3 t374).bind fun t384 => (some (t383 == t384)))) else (some false))) else (some false)) = some r := H
              have A22 := Aside0.mk A220
              clear A220
              by_cases c23 : t381 = true
              · subst c23
                have H1 : ((text_Trim.f t375).bind fun t382 => (if t382.toList = t375.toList then ((text_Token.f kj3 a0).bind fun t383 => ((text_Token.f kj3 t374).bind fun t384 => (some (t383 == t384)))) else (some false))) = some r := by rw [if_pos rfl] at H; exact H
                clear H
                have H := H1
                clear H1
                replace H := Option.bind_eq_some_iff.mp H
                obtain ⟨t382, A240, H⟩ := H
                replace H : (if t382.toList = t375.toList then ((text_Token.f kj3 a0).bind fun t383 => ((text_Token.f kj3 t374).bind fun t384 => (some (t383 == t384)))) else (some false)) = some r := H
                have A24 := Aside0.mk A240
                clear A240
                by_cases c25 : t382.toList = t375.toList
                · rw [if_pos c25] at H
                  have c25b0 : (t382.toList == t375.toList) = true := beq_iff_eq.mpr c25
                  have c25b1 : (t382.toList != t375.toList) = false := bne_eq_false_iff_eq.mpr c25
                  clear c25
                  replace H := Option.bind_eq_some_iff.mp H
                  obtain ⟨t383, A260, H⟩ := H
                  replace H : ((text_Token.f kj3 t374).bind fun t384 => (some (t383 == t384))) = some r := H
                  have A26 := Aside0.mk A260
                  clear A260
                  replace H := Option.bind_eq_some_iff.mp H
                  obtain ⟨t384, A270, H⟩ := H
                  replace H : (some (t383 == t384)) = some r := H
                  have A27 := Aside0.mk A270
                  clear A270
                  obtain rfl := Option.some.inj H
                  go_wp2_with (first | ((with_reducible refine gate_callee (f := 11) rfl ?_); refine goesL_ (some 26) rfl rfl Tryd.func11 (by kernel_rfl) rfl #[] rfl (by (try simp only [List.map_toArray, List.map_cons, List.map_nil]); first | done | rfl | (simp only [List.length_drop, List.length_take]; rfl)) ?_; (with_reducible refine (ostlerlaw01_awake.calls kj3  true _ ?side1 A17.out).mono ?_); (case side1 => exact GI.below HG.out (by repeat (first | (with_reducible first | exact HB.out | apply below_alloc | apply pw_below_drewN | apply below_drew1) | exact HB.out))); rintro e w28 ⟨rfl, hb⟩; refine ⟨_, rfl, ?_⟩; have n0_ := Aside0.mk (below_step (by repeat (first | (with_reducible first | exact HB.out | apply below_alloc | apply pw_below_drewN | apply below_drew1) | exact HB.out)) hb); clear HB; have HB := n0_; clear n0_; (try clear hb); (try clear hb2); (try clear hk); (try clear hi)) | (go_at_call 16; (with_reducible refine (text_Lower.calls t374 t380 _ A20.out).mono ?_); rintro e w29 ⟨rfl, hb⟩; have n0_ := Aside0.mk (below_step (by repeat (first | (with_reducible first | exact HB.out | apply below_alloc | apply pw_below_drewN | apply below_drew1) | exact HB.out)) hb); clear HB; have HB := n0_; clear n0_; (try clear hb); (try clear hb2); (try clear hk); (try clear hi)) | (go_at_call 18; (with_reducible refine (text_Same.calls a0 t374 true _ A22.out).mono ?_); rintro e w30 ⟨rfl, hb⟩; have n0_ := Aside0.mk (below_step (by repeat (first | (with_reducible first | exact HB.out | apply below_alloc | apply pw_below_drewN | apply below_drew1) | exact HB.out)) hb); clear HB; have HB := n0_; clear n0_; (try clear hb); (try clear hb2); (try clear hk); (try clear hi)) | (go_at_call 20; (with_reducible refine (text_Trim.calls t375 t382 _ A24.out).mono ?_); rintro e w31 ⟨rfl, hb⟩; have n0_ := Aside0.mk (below_step (by repeat (first | (with_reducible first | exact HB.out | apply below_alloc | apply pw_below_drewN | apply below_drew1) | exact HB.out)) hb); clear HB; have HB := n0_; clear n0_; (try clear hb); (try clear hb2); (try clear hk); (try clear hi)) | (go_at_call 12; (with_reducible refine (text_Token.calls kj3 a0 t383 _ A26.out).mono ?_); rintro e w' ⟨rfl, ⟨nd, rfl⟩⟩) | (go_at_call 12; (with_reducible refine (text_Token.calls kj3 t374 t384 _ A27.out).mono ?_); rintro e w' ⟨rfl, ⟨nd, rfl⟩⟩))
                  go_ret
                  exact ⟨by first | rfl | (simp [errW_none, errW_some] <;> rfl) | (simp [*, errW_none, errW_some] <;> rfl), by repeat (first | (with_reducible first | exact HB.out | apply below_alloc | apply pw_below_drewN | apply below_drew1) | exact HB.out)⟩
                · rw [if_neg c25] at H
                  have c25b0 : (t382.toList == t375.toList) = false := beq_eq_false_iff_ne.mpr c25
                  have c25b1 : (t382.toList != t375.toList) = true := bne_iff_ne.mpr c25
                  obtain rfl := Option.some.inj H
                  go_wp2_with (first | ((with_reducible refine gate_callee (f := 11) rfl ?_); refine goesL_ (some 26) rfl rfl Tryd.func11 (by kernel_rfl) rfl #[] rfl (by (try simp only [List.map_toArray, List.map_cons, List.map_nil]); first | done | rfl | (simp only [List.length_drop, List.length_take]; rfl)) ?_; (with_reducible refine (ostlerlaw01_awake.calls kj3  true _ ?side1 A17.out).mono ?_); (case side1 => exact GI.below HG.out (by repeat (first | (with_reducible first | exact HB.out | apply below_alloc | apply pw_below_drewN | apply below_drew1) | exact HB.out))); rintro e w32 ⟨rfl, hb⟩; refine ⟨_, rfl, ?_⟩; have n0_ := Aside0.mk (below_step (by repeat (first | (with_reducible first | exact HB.out | apply below_alloc | apply pw_below_drewN | apply below_drew1) | exact HB.out)) hb); clear HB; have HB := n0_; clear n0_; (try clear hb); (try clear hb2); (try clear hk); (try clear hi)) | (go_at_call 16; (with_reducible refine (text_Lower.calls t374 t380 _ A20.out).mono ?_); rintro e w33 ⟨rfl, hb⟩; have n0_ := Aside0.mk (below_step (by repeat (first | (with_reducible first | exact HB.out | apply below_alloc | apply pw_below_drewN | apply below_drew1) | exact HB.out)) hb); clear HB; have HB := n0_; clear n0_; (try clear hb); (try clear hb2); (try clear hk); (try clear hi)) | (go_at_call 18; (with_reducible refine (text_Same.calls a0 t374 true _ A22.out).mono ?_); rintro e w34 ⟨rfl, hb⟩; have n0_ := Aside0.mk (below_step (by repeat (first | (with_reducible first | exact HB.out | apply below_alloc | apply pw_below_drewN | apply below_drew1) | exact HB.out)) hb); clear HB; have HB := n0_; clear n0_; (try clear hb); (try clear hb2); (try clear hk); (try clear hi)) | (go_at_call 20; (with_reducible refine (text_Trim.calls t375 t382 _ A24.out).mono ?_); rintro e w35 ⟨rfl, hb⟩; have n0_ := Aside0.mk (below_step (by repeat (first | (with_reducible first | exact HB.out | apply below_alloc | apply pw_below_drewN | apply below_drew1) | exact HB.out)) hb); clear HB; have HB := n0_; clear n0_; (try clear hb); (try clear hb2); (try clear hk); (try clear hi)))
                  go_ret
                  exact ⟨by first | rfl | (simp [errW_none, errW_some] <;> rfl) | (simp [*, errW_none, errW_some] <;> rfl), by repeat (first | (with_reducible first | exact HB.out | apply below_alloc | apply pw_below_drewN | apply below_drew1) | exact HB.out)⟩
              · replace c23 := Bool.eq_false_iff.mpr c23
                subst c23
                have H1 : (some false) = some r := by rw [if_neg (show ¬ (false = true) by decide)] at H; exact H
                clear H
                have H := H1
                clear H1
                obtain rfl := Option.some.inj H
                go_wp2_with (first | ((with_reducible refine gate_callee (f := 11) rfl ?_); refine goesL_ (some 26) rfl rfl Tryd.func11 (by kernel_rfl) rfl #[] rfl (by (try simp only [List.map_toArray, List.map_cons, List.map_nil]); first | done | rfl | (simp only [List.length_drop, List.length_take]; rfl)) ?_; (with_reducible refine (ostlerlaw01_awake.calls kj3  true _ ?side1 A17.out).mono ?_); (case side1 => exact GI.below HG.out (by repeat (first | (with_reducible first | exact HB.out | apply below_alloc | apply pw_below_drewN | apply below_drew1) | exact HB.out))); rintro e w36 ⟨rfl, hb⟩; refine ⟨_, rfl, ?_⟩; have n0_ := Aside0.mk (below_step (by repeat (first | (with_reducible first | exact HB.out | apply below_alloc | apply pw_below_drewN | apply below_drew1) | exact HB.out)) hb); clear HB; have HB := n0_; clear n0_; (try clear hb); (try clear hb2); (try clear hk); (try clear hi)) | (go_at_call 16; (with_reducible refine (text_Lower.calls t374 t380 _ A20.out).mono ?_); rintro e w37 ⟨rfl, hb⟩; have n0_ := Aside0.mk (below_step (by repeat (first | (with_reducible first | exact HB.out | apply below_alloc | apply pw_below_drewN | apply below_drew1) | exact HB.out)) hb); clear HB; have HB := n0_; clear n0_; (try clear hb); (try clear hb2); (try clear hk); (try clear hi)) | (go_at_call 18; (with_reducible refine (text_Same.calls a0 t374 false _ A22.out).mono ?_); rintro e w38 ⟨rfl, hb⟩; have n0_ := Aside0.mk (below_step (by repeat (first | (with_reducible first | exact HB.out | apply below_alloc | apply pw_below_drewN | apply below_drew1) | exact HB.out)) hb); clear HB; have HB := n0_; clear n0_; (try clear hb); (try clear hb2); (try clear hk); (try clear hi)))
                go_ret
                exact ⟨by first | rfl | (simp [errW_none, errW_some] <;> rfl) | (simp [*, errW_none, errW_some] <;> rfl), by repeat (first | (with_reducible first | exact HB.out | apply below_alloc | apply pw_below_drewN | apply below_drew1) | exact HB.out)⟩
            · rw [if_neg c21] at H
              have c21b0 : (t380.toList == t374.toList) = false := beq_eq_false_iff_ne.mpr c21
              have c21b1 : (t380.toList != t374.toList) = true := bne_iff_ne.mpr c21
              obtain rfl := Option.some.inj H
              go_wp2_with (first | ((with_reducible refine gate_callee (f := 11) rfl ?_); refine goesL_ (some 26) rfl rfl Tryd.func11 (by kernel_rfl) rfl #[] rfl (by (try simp only [List.map_toArray, List.map_cons, List.map_nil]); first | done | rfl | (simp only [List.length_drop, List.length_take]; rfl)) ?_; (with_reducible refine (ostlerlaw01_awake.calls kj3  true _ ?side1 A17.out).mono ?_); (case side1 => exact GI.below HG.out (by repeat (first | (with_reducible first | exact HB.out | apply below_alloc | apply pw_below_drewN | apply below_drew1) | exact HB.out))); rintro e w39 ⟨rfl, hb⟩; refine ⟨_, rfl, ?_⟩; have n0_ := Aside0.mk (below_step (by repeat (first | (with_reducible first | exact HB.out | apply below_alloc | apply pw_below_drewN | apply below_drew1) | exact HB.out)) hb); clear HB; have HB := n0_; clear n0_; (try clear hb); (try clear hb2); (try clear hk); (try clear hi)) | (go_at_call 16; (with_reducible refine (text_Lower.calls t374 t380 _ A20.out).mono ?_); rintro e w40 ⟨rfl, hb⟩; have n0_ := Aside0.mk (below_step (by repeat (first | (with_reducible first | exact HB.out | apply below_alloc | apply pw_below_drewN | apply below_drew1) | exact HB.out)) hb); clear HB; have HB := n0_; clear n0_; (try clear hb); (try clear hb2); (try clear hk); (try clear hi)))
              go_ret
              exact ⟨by first | rfl | (simp [errW_none, errW_some] <;> rfl) | (simp [*, errW_none, errW_some] <;> rfl), by repeat (first | (with_reducible first | exact HB.out | apply below_alloc | apply pw_below_drewN | apply below_drew1) | exact HB.out)⟩
          · rw [if_neg c19] at H
            have c19b0 : ((t374.size : Int) == (a0.size : Int)) = false := beq_eq_false_iff_ne.mpr c19
            have c19b1 : ((t374.size : Int) != (a0.size : Int)) = true := bne_iff_ne.mpr c19
            have c19b2 : (t374.size == a0.size) = false := by first | simpa using c19 | (simp at c19 ⊢; omega)
            obtain rfl := Option.some.inj H
            go_wp2_with (first | ((with_reducible refine gate_callee (f := 11) rfl ?_); refine goesL_ (some 26) rfl rfl Tryd.func11 (by kernel_rfl) rfl #[] rfl (by (try simp only [List.map_toArray, List.map_cons, List.map_nil]); first | done | rfl | (simp only [List.length_drop, List.length_take]; rfl)) ?_; (with_reducible refine (ostlerlaw01_awake.calls kj3  true _ ?side1 A17.out).mono ?_); (case side1 => exact GI.below HG.out (by repeat (first | (with_reducible first | exact HB.out | apply below_alloc | apply pw_below_drewN | apply below_drew1) | exact HB.out))); rintro e w41 ⟨rfl, hb⟩; refine ⟨_, rfl, ?_⟩; have n0_ := Aside0.mk (below_step (by repeat (first | (with_reducible first | exact HB.out | apply below_alloc | apply pw_below_drewN | apply below_drew1) | exact HB.out)) hb); clear HB; have HB := n0_; clear n0_; (try clear hb); (try clear hb2); (try clear hk); (try clear hi)))
            go_ret
            exact ⟨by first | rfl | (simp [errW_none, errW_some] <;> rfl) | (simp [*, errW_none, errW_some] <;> rfl), by repeat (first | (with_reducible first | exact HB.out | apply below_alloc | apply pw_below_drewN | apply below_drew1) | exact HB.out)⟩
        · replace c18 := Bool.eq_false_iff.mpr c18
          subst c18
          have H1 : (some false) = some r := by rw [if_neg (show ¬ (false = true) by decide)] at H; exact H
          clear H
          have H := H1
          clear H1
          obtain rfl := Option.some.inj H
          go_wp2_with (first | ((with_reducible refine gate_callee (f := 11) rfl ?_); refine goesL_ (some 26) rfl rfl Tryd.func11 (by kernel_rfl) rfl #[] rfl (by (try simp only [List.map_toArray, List.map_cons, List.map_nil]); first | done | rfl | (simp only [List.length_drop, List.length_take]; rfl)) ?_; (with_reducible refine (ostlerlaw01_awake.calls kj3  false _ ?side1 A17.out).mono ?_); (case side1 => exact GI.below HG.out (by repeat (first | (with_reducible first | exact HB.out | apply below_alloc | apply pw_below_drewN | apply below_drew1) | exact HB.out))); rintro e w42 ⟨rfl, hb⟩; refine ⟨_, rfl, ?_⟩; have n0_ := Aside0.mk (below_step (by repeat (first | (with_reducible first | exact HB.out | apply below_alloc | apply pw_below_drewN | apply below_drew1) | exact HB.out)) hb); clear HB; have HB := n0_; clear n0_; (try clear hb); (try clear hb2); (try clear hk); (try clear hi)))
          go_ret
          exact ⟨by first | rfl | (simp [errW_none, errW_some] <;> rfl) | (simp [*, errW_none, errW_some] <;> rfl), by repeat (first | (with_reducible first | exact HB.out | apply below_alloc | apply pw_below_drewN | apply below_drew1) | exact HB.out)⟩

/-- THE ONE PURE STATEMENT of ostlerlaw01_TextKeeps: yours. -/
def ostlerlaw01_TextKeeps.Pure : Prop := ∀ (a0 : ByteArray), a0.size ≤ 140737488351232 → ∃ k, ostlerlaw01_TextKeeps.f k a0 = some true
theorem ostlerlaw01_TextKeeps.walk (P : ostlerlaw01_TextKeeps.Pure) (a0 : ByteArray) (w : World) (hG : GI w) (w0 : a0.size ≤ 140737488351232) :
    Calls Tryd.prog 10 #[.string a0] w fun e w' => e = .returned (.bool true) ∧ Below w.heap.size w w' := by
  obtain ⟨k, h⟩ := P a0 w0
  refine (ostlerlaw01_TextKeeps.calls k a0 true w hG h).mono ?_
  rintro e w' ⟨rfl, hd⟩
  exact ⟨rfl, hd⟩

end Go.Proofs.YtbmedennhjenhaaDoor.PP
